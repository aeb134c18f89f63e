/- check.Sum of one list of bytes, by its contract. Conditions: bytes as they may be read. -/
import Derived.Test.YtfcofokbhhnfkaaDoorByt
import Derived.Test.YtfcofokbhhnfkaaDoorCrcM
namespace Go.Proofs.YtfcofokbhhnfkaaDoor.Byt
set_option linter.unusedSimpArgs false
set_option linter.unusedVariables false
open Go.RowKit Go.Deep Go.Proofs.YtfcofokbhhnfkaaDoor.Er Go.Proofs.YtfcofokbhhnfkaaDoorW.PrintWords Go.Proofs.YtfcofokbhhnfkaaDoorW.PrintLast
def nats (l : List Int) : List Nat := l.map Int.toNat
def sumI (l : List Int) : Nat := CrcM.sum (nats l)
theorem nats_lt {l : List Int} (h : ∀ x ∈ l, 0 ≤ x ∧ x < 256) : ∀ x ∈ nats l, x < 256 := by
  intro x hx
  obtain ⟨y, hy, rfl⟩ := List.mem_map.1 hx
  have := h y hy; omega
theorem nats_len (l : List Int) : (nats l).length = l.length := by simp [nats]
theorem nats_snoc {l : List Int} {i : Nat} {x : Int} (h : l[i]? = some x) : nats (l.take (i + 1)) = nats (l.take i) ++ [x.toNat] := by
  rw [List.take_add_one, h]; simp [nats]
theorem sum_and {n : Nat} (h : n < 4294967296) : Go.bits .and .u32 (n : Int) 1 = ((n % 2 : Nat) : Int) := by
  have e := u32_and_nat n 1 h (by decide)
  rw [show ((1 : Nat) : Int) = 1 from rfl] at e
  rw [e, Nat.and_one_is_mod]
set_option maxHeartbeats 4000000 in
set_option maxRecDepth 100000 in
theorem Sum_calls {D : Nat → Prop} (w : World) (g c0 : Nat) (v : Value) (l : List Int) (hl : RdB D w v l) (hg : w.cell? ⟨g, 0, none⟩ = some v) :
    Calls Tryd.prog 45 #[.slice (some ⟨g, 0, none⟩) 1 c0] w fun e w' => e = .returned (.int .u32 ((sumI l : Nat) : Int)) ∧ w' = w := by
  have HR := Lib.hid hl
  obtain ⟨A, c, rfl, hc1, hc2, hlt, hx⟩ := hl
  obtain ⟨m, hm⟩ : ∃ m, m = l.length := ⟨_, rfl⟩
  have HM := Lib.hid hm
  have HLT := Lib.hid hlt
  have HX := Lib.hid hx
  rw [← hm] at hc1 hc2 hg
  clear hm hlt hx
  go_enter Tryd.func45, Tryd.ntmps45
  go_wp2
  go_loopg [3, 11] 3 (fun kq v3 v11 wr => ∃ k n : Nat, v3 = .int .u32 n ∧ v11 = .int .i64 k ∧ Hid (k ≤ 1 ∧ kq = 3 - k ∧ n = (if k = 0 then CrcM.M else CrcM.crc CrcM.M (nats l)) ∧ wr = w))
  case atStart => exact ⟨0, CrcM.M, rfl, rfl, Lib.hid ⟨by omega, by omega, rfl, rfl⟩⟩
  case round =>
    obtain ⟨k, n, rfl, rfl, HK⟩ := hrel
    have hw := HK.out.2.2.2
    subst hw
    by_cases hk : k < 1
    · obtain rfl : k = 0 := by omega
      obtain rfl : n = 4294967295 := HK.out.2.2.1
      go_wp2
      go_loopg [3, 17] (m + 1) (fun kq v3 v17 w2 => ∃ i n : Nat, v3 = .int .u32 n ∧ v17 = .int .i64 i ∧ Hid (i ≤ m ∧ kq = m + 1 - i ∧ n = CrcM.crc CrcM.M (nats (l.take i)) ∧ w2 = wr))
      case atStart => exact ⟨0, 4294967295, rfl, rfl, Lib.hid ⟨by omega, by omega, rfl, rfl⟩⟩
      case round =>
        obtain ⟨i, n, rfl, rfl, HI⟩ := hrel
        have hw := HI.out.2.2.2
        subst hw
        by_cases hi : i < m
        · obtain ⟨b, hb⟩ : ∃ b, l[i]? = some b := ⟨l[i]'(by rw [← HM.out]; exact hi), List.getElem?_eq_getElem _⟩
          obtain ⟨⟨ab, ao, sp⟩, rfl, _, hx⟩ := HX.out (by intro e; rw [e] at hb; cases hb)
          obtain rfl : sp = none := by
            have c0 := hx 0 (l[0]'(by have := (List.getElem?_eq_some_iff.1 hb).1; omega)) (List.getElem?_eq_getElem _)
            have e : (⟨ab, ao, sp⟩ : Addr).add 0 = ⟨ab, ao, sp⟩ := rfl
            rw [e] at c0
            unfold World.cell? at c0
            cases sp
            · rfl
            · simp at c0; split at c0 <;> simp_all
          have y0 : wr.cell? ⟨ab, ao + i, none⟩ = some (.int .u8 b) := by
            have := hx i b hb
            have hadd : (⟨ab, ao, none⟩ : Addr).add i = ⟨ab, ao + i, none⟩ := by unfold Addr.add; split <;> simp_all
            rw [hadd] at this; exact this
          have hbb := HLT.out b (List.mem_of_getElem? hb)
          obtain ⟨hb0, hb1⟩ := hbb
          have HBN := Lib.hid (nats_snoc hb)
          clear hb hx
          obtain ⟨q0, hq0⟩ : ∃ q0, q0 = n ^^^ b.toNat := ⟨_, rfl⟩
          have HQ0 := Lib.hid hq0
          have hn32 : n < 4294967296 := by have := HI.out.2.2.1; rw [this]; exact CrcM.crc_lt _ (by decide) (fun x hx => nats_lt HLT.out x (by unfold nats at hx ⊢; rw [List.map_take] at hx; exact List.mem_of_mem_take hx))
          have hq32 : q0 < 4294967296 := by rw [hq0]; exact Nat.xor_lt_two_pow (n := 32) hn32 (by omega)
          have hx8 : bits BinOp.xor IntKind.u32 (n : Int) b = (q0 : Int) := by
            rw [u32_xor (n : Int) b (by omega) (by omega) hb0 (by omega), hq0, Int.toNat_natCast]
          have HQ32 := Lib.hid hq32
          clear hq0 hn32 hq32
          go_upto_region 10 with (fail)
          clear hx8
          go_loopg [3, 25] 20 (fun kq v3 v25 w2 => ∃ j q : Nat, v3 = .int .u32 q ∧ v25 = .int .i64 j ∧ Hid (j ≤ 8 ∧ kq = 20 - j ∧ CrcM.Zk (8 - j) q = CrcM.Zk 8 q0 ∧ q < 4294967296 ∧ w2 = wr))
          case atStart => exact ⟨0, q0, rfl, rfl, Lib.hid ⟨by omega, by omega, rfl, HQ32.out, rfl⟩⟩
          case round =>
            obtain ⟨j, q, rfl, rfl, HJ⟩ := hrel
            have hw := HJ.out.2.2.2.2
            subst hw
            have hq32 : q < 4294967296 := HJ.out.2.2.2.1
            by_cases hj : j < 8
            · have hand := sum_and hq32
              obtain ⟨z, hz⟩ : ∃ z, z = CrcM.Z q := ⟨_, rfl⟩
              have HZ : Hid (CrcM.Zk (8 - (j + 1)) z = CrcM.Zk 8 q0 ∧ z < 4294967296) := Lib.hid (by
                rw [hz]
                refine ⟨?_, CrcM.Z_lt hq32⟩
                rw [← HJ.out.2.2.1, show 8 - j = (8 - (j + 1)) + 1 by omega]; rfl)
              have hxr : bits BinOp.xor IntKind.u32 ((q : Int) / 2) (2197175160 * ((q : Int) % 2)) = (z : Int) := by
                have e1 : ((q : Int) / 2) = ((q / 2 : Nat) : Int) := by omega
                have e2 : (2197175160 * ((q : Int) % 2)) = ((q % 2 * CrcM.P : Nat) : Int) := by unfold CrcM.P; omega
                rw [e1, e2, u32_xor_nat (q / 2) (q % 2 * CrcM.P) (by omega) (by unfold CrcM.P; omega), hz]; rfl
              clear hz hq32
              go_wp2
              go_roundg (19 - j)
              case measure => have := HJ.out; omega
              case rel => exact ⟨j + 1, z, rfl, by go_num, Lib.hid ⟨by omega, by omega, HZ.out.1, HZ.out.2, rfl⟩⟩
            · have HQ : Hid (q = CrcM.crc CrcM.M (nats (l.take (i + 1)))) := Lib.hid (by
                have e := HJ.out.2.2.1
                rw [show 8 - j = 0 by omega] at e
                rw [HBN.out, CrcM.crc_app, ← HI.out.2.2.1]
                show q = CrcM.crcB n b.toNat
                unfold CrcM.crcB
                rw [← HQ0.out]
                exact e)
              clear hq32
              go_wp2
              go_roundg (m - i)
              case measure => have := HI.out; omega
              case rel => exact ⟨i + 1, q, rfl, by go_num, Lib.hid ⟨by omega, by omega, HQ.out, rfl⟩⟩
        · have HN : Hid (n = CrcM.crc CrcM.M (nats l)) := Lib.hid (by
            have h1 := HI.out.2.2.1
            have h2 : i ≤ m := HI.out.1
            have he : i = m := Nat.le_antisymm h2 (Nat.not_lt.1 hi)
            rw [h1, he, HM.out, List.take_length])
          go_wp2
          go_roundg 2
          case measure => have := HK.out; omega
          case rel => exact ⟨1, n, rfl, by go_num, Lib.hid ⟨by omega, by omega, HN.out, rfl⟩⟩
    · have HN : Hid (n = CrcM.crc CrcM.M (nats l)) := Lib.hid (by
        have := HK.out.2.2.1
        rw [if_neg (by omega)] at this; exact this)
      have hn32 : n < 4294967296 := by rw [HN.out]; exact CrcM.crc_lt _ (by decide) (nats_lt HLT.out)
      have hxm : bits BinOp.xor IntKind.u32 IntKind.u32.max (n : Int) = ((sumI l : Nat) : Int) := by
        have e : (IntKind.u32.max : Int) = ((4294967295 : Nat) : Int) := by decide
        rw [e, u32_xor_nat 4294967295 n (by decide) hn32]
        unfold sumI CrcM.sum
        rw [← HN.out]; rfl
      have HN0 := Lib.hid hn32
      clear hn32
      go_wp2
      go_ret
      exact ⟨rfl, rfl⟩
end Go.Proofs.YtfcofokbhhnfkaaDoor.Byt
