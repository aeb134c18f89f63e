/- wire.lay and wire.flags by their contracts. Conditions: so many bytes: 1 to 7. -/
import Derived.Test.YtfcofokbhhnfkaaDoorPkm
namespace Go.Proofs.YtfcofokbhhnfkaaDoor.Byt
set_option linter.unusedSimpArgs false
set_option linter.unusedVariables false
open Go.RowKit Go.Deep Go.Proofs.YtfcofokbhhnfkaaDoor.Er Go.Proofs.YtfcofokbhhnfkaaDoorW.PrintWords Go.Proofs.YtfcofokbhhnfkaaDoorW.PrintLast
/-- A block of bytes, above B. -/
def U8 (B : Nat) (w : World) (b : Nat) : Prop := B ≤ b ∧ ∃ cur, w.heap[b]? = some (.cells cur 5 (0, 0))
theorem Fr.u8 {B : Nat} {w wr w7 : World} {v : Value} {X : List Int} (h : Fr w wr (U8 B w)) (ho : OB B wr v X) (hf : Fr wr w7 (fun b => v.ownBlock = some b)) : Fr w w7 (U8 B w) := by
  refine h.trans hf (fun i hi e => ?_)
  obtain ⟨h1, h2, cur, h3⟩ := ho.lt e
  by_cases hs : U8 B w i
  · exact hs
  · exact ⟨h1, cur, (h.block i hi hs).symm.trans h3⟩
theorem Fr.u8s {B : Nat} {w wr w7 : World} (h : Fr w wr (U8 B w)) (hf : Fr wr w7 (U8 B wr)) : Fr w w7 (U8 B w) := by
  refine h.trans hf (fun i hi e => ?_)
  obtain ⟨h1, cur, h3⟩ := e
  by_cases hs : U8 B w i
  · exact hs
  · exact ⟨h1, cur, (h.block i hi hs).symm.trans h3⟩
theorem Fr.u8below {B : Nat} {w0 w w' : World} (h : Fr w w' (U8 B w)) (hb : Below B w0 w) (hB : B ≤ w.heap.size) : Below B w0 w' := h.below hb hB (fun k e => e.1)
theorem PkAt.fr {B : Nat} {w w' : World} {g : Nat} {p : Pk} {v : Value} (h : PkAt w g p v) (hf : Fr w w' (U8 B w)) : PkAt w' g p v := by
  refine (hf.block g (lt_of h) (fun e => ?_)).trans h
  obtain ⟨_, cur, hc⟩ := e
  rw [h] at hc
  cases hc
/-- A number's bytes, the highest one first. -/
def beI : Nat → Int → List Int
  | 0, _ => []
  | s + 1, n => (n / 256 ^ s % 256) :: beI s n
theorem beI_len : ∀ s n, (beI s n).length = s
  | 0, _ => rfl
  | s + 1, n => by show (_ :: beI s n).length = _; rw [List.length_cons, beI_len s n]
theorem beI_lt : ∀ s n, ∀ x ∈ beI s n, 0 ≤ x ∧ x < 256
  | 0, _, x, h => by cases h
  | s + 1, n, x, h => by
    rcases List.mem_cons.1 (show x ∈ (n / 256 ^ s % 256) :: beI s n from h) with rfl | h
    · omega
    · exact beI_lt s n x h
theorem pow8 (n : Int) (j : Nat) : n / 2 ^ (8 * j) = n / 256 ^ j := by rw [Int.pow_mul]; rfl
def layI (s : Nat) (ns : List Int) : List Int := (ns.map (beI s)).flatten
theorem layI_len (s : Nat) : ∀ ns, (layI s ns).length = s * ns.length
  | [] => rfl
  | n :: ns => by
    show (beI s n ++ layI s ns).length = _
    rw [List.length_append, beI_len, layI_len s ns, List.length_cons, Nat.mul_succ]; omega
theorem layI_snoc (s : Nat) (ns : List Int) (n : Int) : layI s (ns ++ [n]) = layI s ns ++ beI s n := by
  unfold layI; simp
set_option maxHeartbeats 4000000 in
set_option maxRecDepth 100000 in
theorem lay_calls {B : Nat} (w : World) (v : Value) (X : List Int) (s : Nat) (g c0 : Nat) (ns : List Int) (ho : OB B w v X) (hB : B ≤ w.heap.size) (hs : 1 ≤ s ∧ s ≤ 7) (hg : w.heap[g]? = some (.cells (ns.map (Value.int .i64)).toArray 3 (0, 0))) (hlen : X.length + s * ns.length ≤ 140737488355328) :
    Calls Tryd.prog 25 #[v, .int .i64 (s : Int), .slice (some ⟨g, 0, none⟩) ns.length c0] w fun e w' => ∃ v', e = .returned v' ∧ OB B w' v' (X ++ layI s ns) ∧ Fr w w' (U8 B w) := by
  have HO : Hid (OB B w v X ∧ Fr w w (U8 B w)) := Lib.hid ⟨ho, Fr.refl _ _⟩
  have HG := Lib.hid hg
  have HS := Lib.hid hs
  have HL := Lib.hid hlen
  have HB := Lib.hid hB
  obtain ⟨k, hk⟩ : ∃ k, k = ns.length := ⟨_, rfl⟩
  have HK := Lib.hid hk
  have hkb : k ≤ 140737488355328 := by
    have := Nat.le_mul_of_pos_left ns.length (show 0 < s by omega)
    omega
  rw [← hk]
  clear ho hg hs hlen hB hk
  go_enter Tryd.func25, Tryd.ntmps25
  go_wp2
  go_loopg [0, 12] (k + 1) (fun kq v0 v12 wr => ∃ (i : Nat), v12 = .int .i64 i ∧ Hid (i ≤ k ∧ kq = k + 1 - i) ∧ Hid (OB B wr v0 (X ++ layI s (ns.take i)) ∧ Fr w wr (U8 B w)))
  case atStart => exact ⟨0, rfl, Lib.hid ⟨by omega, by omega⟩, Lib.hid ⟨by rw [show X ++ layI s (ns.take 0) = X by simp [layI]]; exact HO.out.1, HO.out.2⟩⟩
  case round =>
    obtain ⟨i, rfl, HI, HA⟩ := hrel
    by_cases hi : i < k
    · obtain ⟨n, hn⟩ : ∃ n, ns[i]? = some n := ⟨ns[i]'(by rw [← HK.out]; exact hi), List.getElem?_eq_getElem _⟩
      have HN := Lib.hid hn
      have hcell : wr.cell? ⟨g, i, none⟩ = some (.int .i64 n) := by
        have hb : wr.heap[g]? = w.heap[g]? := HA.out.2.block g (lt_of HG.out) (fun e => by obtain ⟨_, cur, hc⟩ := e; rw [HG.out] at hc; cases hc)
        have := blk_cell (hb.trans HG.out) i
        rw [this]; simp [hn]
      have hs1 : wrap64 ((s : Int) - 1) = ((s - 1 : Nat) : Int) := by have := HS.out; rw [w64 ⟨by omega, by omega⟩]; omega
      clear hn
      go_wp2
      clear hs1 hcell
      obtain ⟨T, hT⟩ : ∃ T, T = X ++ layI s (ns.take i) := ⟨_, rfl⟩
      have HT := Lib.hid hT
      rw [← hT] at HA
      clear hT
      go_loopg [0, 9] (s + 1) (fun kq v0 v9 w2 => ∃ (j : Nat) (z : Int) (Y : List Int), v9 = .int .i64 z ∧ Hid (j ≤ s ∧ kq = j + 1 ∧ z = (j : Int) - 1 ∧ Y.length = T.length + (s - j) ∧ Y ++ beI j n = T ++ beI s n) ∧ Hid (OB B w2 v0 Y ∧ Fr w w2 (U8 B w)))
      case atStart => exact ⟨s, _, T, rfl, Lib.hid ⟨Nat.le_refl _, rfl, w64 ⟨by have := HS.out; omega, by have := HS.out; omega⟩, by omega, rfl⟩, HA⟩
      case round =>
        obtain ⟨j, z, Y, rfl, HJ, HA2⟩ := hrel
        cases j with
        | zero =>
          obtain rfl : z = -1 := HJ.out.2.2.1
          have HY : Hid (Y = X ++ layI s (ns.take (i + 1))) := Lib.hid (by
            have e := HJ.out.2.2.2.2
            rw [show beI 0 n = [] from rfl, List.append_nil] at e
            rw [e, HT.out, List.take_add_one, HN.out, List.append_assoc]
            exact congrArg _ (layI_snoc s _ n).symm)
          go_wp2
          go_roundg (k - i)
          case measure => have := HI.out; omega
          case rel => exact ⟨i + 1, by go_num, Lib.hid ⟨by omega, by omega⟩, Lib.hid ⟨by rw [← HY.out]; exact HA2.out.1, HA2.out.2⟩⟩
        | succ j =>
          obtain rfl : z = (j : Int) := by have := HJ.out.2.2.1; omega
          have hj7 : j < 7 := by have := HJ.out.1; have := HS.out; omega
          obtain ⟨A3, c3, hv3, _⟩ := HA2.out.1.val
          obtain ⟨L3, hL3⟩ : ∃ L3, L3 = Y.length := ⟨_, rfl⟩
          rw [← hL3] at hv3
          subst hv3
          have HL3 := Lib.hid hL3
          clear hL3
          obtain ⟨x, hx⟩ : ∃ x, x = n / 2 ^ (8 * j) % 256 := ⟨_, rfl⟩
          have hxb : 0 ≤ x ∧ x < 256 := by omega
          have HX : Hid (x = n / 256 ^ j % 256 ∧ 0 ≤ x ∧ x < 256) := Lib.hid ⟨by rw [hx, pow8], hxb⟩
          have HB7 : Hid (Below wr.heap.size wr (wr.alloc (.cells #[.int .u8 x] 5))) := Lib.hid ((Below.refl _ _).alloc (Nat.le_refl _) _)
          have HW7 : Hid (B ≤ wr.heap.size) := Lib.hid (Nat.le_trans HB.out HA2.out.2.size)
          have hx2 := hx.symm
          clear hx hxb
          go_wp2_with (first | (at_builtin; rw [hx2]; refine wp_appendO B rfl (.tmp 22) (.tmp 28) rfl rfl rfl (HA2.out.1.below HB7.out) (one_byte HX.out.2) (by simp) ?c2 ?c3 ?_))
          case c2 =>
            have e1 := HL.out
            have e2 := HJ.out
            have e3 : T.length = X.length + s * (ns.take i).length := by rw [HT.out, List.length_append, layI_len]
            have e4 : (ns.take i).length + 1 ≤ ns.length := by rw [List.length_take]; have := HK.out; omega
            have e5 := Nat.mul_le_mul_left s e4
            rw [Nat.mul_succ] at e5
            simp
            omega
          case c3 => exact Nat.le_trans HW7.out HB7.out.size
          intro A7 c7 w7 hO7 hF7
          have HA7 : Hid (OB B w7 (.slice A7 (Y.length + 1) c7) (Y ++ [x]) ∧ Fr w w7 (U8 B w)) := Lib.hid ⟨hO7, (HA2.out.2.and HB7.out).u8 (HA2.out.1.below HB7.out) hF7⟩
          have HNX : Hid ((Y ++ [x]).length = T.length + (s - j) ∧ (Y ++ [x]) ++ beI j n = T ++ beI s n) := Lib.hid (by
            have e := HJ.out
            refine ⟨by rw [List.length_append, e.2.2.2.1]; simp; omega, ?_⟩
            rw [← e.2.2.2.2, HX.out.1, List.append_assoc]
            rfl)
          have HJ1 : Hid (j + 1 ≤ s) := Lib.hid HJ.out.1
          clear hO7 hF7 HB7 hx2
          go_wp2
          go_roundg (j + 1)
          case measure => have := HJ.out; omega
          case rel => exact ⟨j, _, Y ++ [x], rfl, Lib.hid ⟨by have := HJ1.out; omega, rfl, rfl, HNX.out.1, HNX.out.2⟩, HA7⟩
    · have HE : Hid (ns.take i = ns) := Lib.hid (List.take_of_length_le (by have := HK.out; omega))
      go_wp2
      go_ret
      exact ⟨_, rfl, by rw [← HE.out]; exact HA.out.1, HA.out.2⟩
def flg (p : Pk) : Int := if p.burst = true then 128 + p.sync + 1 else p.sync + 1
set_option maxHeartbeats 4000000 in
theorem flags_calls (p : Pk) (A : Option Addr) (L c : Nat) (w : World) (hs : -1 ≤ p.sync ∧ p.sync ≤ 7) : Calls Tryd.prog 26 #[pkV p (.slice A L c)] w fun e w' => e = .returned (.int .i64 (flg p)) ∧ Below w.heap.size w w' := by
  obtain ⟨kind, sess, layer, tick, burst, sync, many, place, block, esi, data, size, sym, blocks, long, short, layers, esis, base, len⟩ := p
  replace hs : -1 ≤ sync ∧ sync ≤ 7 := hs
  have h1 : wrap64 (sync + 1) = sync + 1 := w64 ⟨by omega, by omega⟩
  have h2 : wrap64 (128 + sync) = 128 + sync := w64 ⟨by omega, by omega⟩
  have h3 : wrap64 (128 + sync + 1) = 128 + sync + 1 := w64 ⟨by omega, by omega⟩
  clear hs
  have HH := Lib.hid (And.intro h1 (And.intro h2 h3))
  cases burst with
  | true =>
    go_enter Tryd.func26, Tryd.ntmps26
    go_wp2_with (first
      | ((with_reducible refine gate_dst (N := 1) rfl ?_); refine wp_box rfl (.tmp 0) rfl rfl rfl ?_; intro w1 hP hB hs; have HB := Lib.hid hB; obtain ⟨s0, s1, s2, s3, s4, s5, s6, s7, s8, s9, s10, s11, s12, s13, s14, s15, s16, s17, s18, s19⟩ := Wire.cell20 (w := w1) (g := w.heap.size) hP; clear hP hB hs))
    go_ret
    refine ⟨congrArg (fun z => Ending.returned (Value.int .i64 z)) ?_, HB.out⟩
    show _ = 128 + sync + 1
    first | rfl | (simp only [HH.out.1, HH.out.2.1, HH.out.2.2]) | omega
  | false =>
    go_enter Tryd.func26, Tryd.ntmps26
    go_wp2_with (first
      | ((with_reducible refine gate_dst (N := 1) rfl ?_); refine wp_box rfl (.tmp 0) rfl rfl rfl ?_; intro w1 hP hB hs; have HB := Lib.hid hB; obtain ⟨s0, s1, s2, s3, s4, s5, s6, s7, s8, s9, s10, s11, s12, s13, s14, s15, s16, s17, s18, s19⟩ := Wire.cell20 (w := w1) (g := w.heap.size) hP; clear hP hB hs))
    go_ret
    refine ⟨congrArg (fun z => Ending.returned (Value.int .i64 z)) ?_, HB.out⟩
    show _ = sync + 1
    first | rfl | (simp only [HH.out.1, HH.out.2.1, HH.out.2.2]) | omega
end Go.Proofs.YtfcofokbhhnfkaaDoor.Byt
