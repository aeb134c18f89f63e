/- check.Spoil by its contract. Conditions: bytes as they may be read; a mask of 32 bits. -/
import Derived.Test.YtpfpdbbgiimnmaaDoorPg
import Derived.Test.YtpfpdbbgiimnmaaDoorQueue
namespace Go.Proofs.YtpfpdbbgiimnmaaDoor.Net
set_option linter.unusedSimpArgs false
set_option linter.unusedVariables false
open Go.RowKit Go.Deep Go.Proofs.YtpfpdbbgiimnmaaDoor.Er Go.Proofs.YtpfpdbbgiimnmaaDoor.Mod Go.Proofs.YtpfpdbbgiimnmaaDoorW.PrintWords Go.Proofs.YtpfpdbbgiimnmaaDoorW.PrintLast
def chkSpoilN : ByteArray := ⟨#[99, 104, 101, 99, 107, 46, 83, 112, 111, 105, 108]⟩
def SpoilR (B : Nat) (r : Option (List Int)) (e : Ending) (w' : World) : Prop := match r with
  | none => ∃ ev, e = .returned (.tuple #[.slice none 0 0, ev]) ∧ ErR w' ev (some ([chkSpoilN], 2))
  | some Y => ∃ A c, e = .returned (.tuple #[.slice A Y.length c, .nilIface]) ∧ RB (fun k => B ≤ k) w' (.slice A Y.length c) Y
theorem turnI_len (l : List Int) (k : Nat) : (turnI l k).length = l.length := by unfold turnI; rw [List.length_set]
theorem xor_byte {x : Int} (h : 0 ≤ x ∧ x < 256) (t : Nat) (ht : t < 8) : 0 ≤ (((x.toNat ^^^ 2 ^ t : Nat)) : Int) ∧ (((x.toNat ^^^ 2 ^ t : Nat)) : Int) < 256 := by
  have := Nat.xor_lt_two_pow (n := 8) (show x.toNat < 2 ^ 8 by omega) (Nat.pow_lt_pow_right (show 1 < 2 by omega) ht)
  omega
theorem turnI_lt {l : List Int} (h : ∀ x ∈ l, 0 ≤ x ∧ x < 256) (k : Nat) : ∀ x ∈ turnI l k, 0 ≤ x ∧ x < 256 := by
  intro x hx
  rcases List.mem_or_eq_of_mem_set hx with h1 | rfl
  · exact h x h1
  · refine xor_byte ?_ _ (Nat.mod_lt _ (by omega))
    rw [List.getD_eq_getElem?_getD]
    cases hg : l[k / 8]? with
    | none => decide
    | some y => exact h y (List.mem_of_getElem? hg)
theorem shift_one {t : Nat} (h : t < 8) : Op.shift BinOp.shl IntKind.u8 1 IntKind.i64 (t : Int) = pure (Value.int .u8 ((2 ^ t : Nat) : Int)) := by
  unfold Op.shift
  rw [if_neg (by omega)]
  dsimp only
  have e : min ((t : Int)).toNat IntKind.u8.bits = t := by
    show min ((t : Int)).toNat 8 = t
    omega
  have hp : 2 ^ t < 256 := Nat.pow_lt_pow_right (n := 8) (show 1 < 2 by omega) h
  have e2 : (1 : Int) * 2 ^ t = ((2 ^ t : Nat) : Int) := by rw [Int.one_mul, Int.natCast_pow]; rfl
  rw [e, e2, IntKind.wrap_u8', Int.emod_eq_of_lt (Int.natCast_nonneg _) (show ((2 ^ t : Nat) : Int) < 256 from Int.ofNat_lt.2 hp)]
theorem turn_facts (p : Nat) (hp : p ≤ 2000000000000000) (y : Int) (hy : 0 ≤ y ∧ y < 256) : ∃ (q t : Nat) (z r : Int), q = p / 8 ∧ r = ((y.toNat ^^^ 2 ^ (p % 8) : Nat) : Int) ∧ wrap64 ((p : Int) / 8) = (q : Int) ∧ Int.tmod (p : Int) 8 = (t : Int) ∧ Op.shift BinOp.shl IntKind.u8 1 IntKind.i64 (t : Int) = pure (Value.int .u8 z) ∧ bits BinOp.xor IntKind.u8 y z = r := by
  have hp8 : p % 8 < 8 := Nat.mod_lt _ (by omega)
  have hpow : 2 ^ (p % 8) < 256 := Nat.pow_lt_pow_right (n := 8) (show 1 < 2 by omega) hp8
  refine ⟨p / 8, p % 8, ((2 ^ (p % 8) : Nat) : Int), _, rfl, rfl, by unfold wrap64; omega, by rw [Int.tmod_eq_emod_of_nonneg (by omega)]; omega, shift_one hp8, ?_⟩
  rw [u8_xor y _ hy.1 hy.2 (Int.natCast_nonneg _) (Int.ofNat_lt.2 hpow), Int.toNat_natCast]
theorem bit_at {m i : Nat} (hm : m < 4294967296) : bits BinOp.and IntKind.u32 ((m : Int) / 2 ^ i) 1 = ((m / 2 ^ i % 2 : Nat) : Int) := by
  have h2 : m / 2 ^ i ≤ m := Nat.div_le_self _ _
  have e1 : ((m : Int) / 2 ^ i) = ((m / 2 ^ i : Nat) : Int) := by
    have := Int.natCast_ediv m (2 ^ i)
    rw [Int.natCast_pow] at this
    exact this.symm
  have := u32_and_nat (m / 2 ^ i) 1 (by omega) (by omega)
  rw [show ((1 : Nat) : Int) = 1 from rfl] at this
  rw [e1, this, Nat.and_one_is_mod]
set_option maxHeartbeats 4000000 in
set_option maxRecDepth 100000 in
theorem chkspoil_calls {D : Nat → Prop} {w : World} {v : Value} {l : List Int} (hl : RdB D w v l) (hD : ∀ k, D k → k < w.heap.size) (a m : Int) (ha : -9223372036854775808 ≤ a ∧ a ≤ 9223372036854775807) (hm : 0 ≤ m ∧ m < 4294967296) :
    Calls Tryd.prog 33 #[v, .int .i64 a, .int .u32 m] w fun e w' => SpoilR w.heap.size (spoilB l a m) e w' ∧ Below w.heap.size w w' := by
  have HR := Lib.hid hl
  obtain ⟨A2, c2, rfl, hl1, hl2, _, _⟩ := hl
  obtain ⟨n, hn⟩ : ∃ n, n = l.length := ⟨_, rfl⟩
  have HN := Lib.hid hn
  have hSB : spoilB l a m = if a < 0 ∨ 8 * (n : Int) ≤ a ∨ m = 0 then none else spoI a.toNat m.toNat n 32 0 l := by rw [hn]; rfl
  rw [← hn] at hl1 hl2 HR ⊢
  clear hn
  by_cases hbad : a < 0 ∨ 8 * (n : Int) ≤ a ∨ m = 0
  · have hr : spoilB l a m = none := hSB.trans (if_pos hbad)
    rw [hr]
    clear hSB hr
    have hb : a < 0 ∨ (¬ a < 0 ∧ 8 * (n : Int) ≤ a) ∨ (¬ a < 0 ∧ ¬ 8 * (n : Int) ≤ a ∧ m = 0) := by omega
    clear hbad
    obtain ⟨ha1, ha2⟩ := ha
    rcases hb with h1 | ⟨h1, h2⟩ | ⟨h1, h2, rfl⟩
    all_goals
      go_enter Tryd.func33, Tryd.ntmps33
      go_wp2_with (first | (go_at_call 31; refine (fault_New.calls _ 2 (er chkSpoilN 2) _ rfl).mono ?_; rintro e w2 ⟨ev, rfl, h1, h2⟩; have HE := Lib.hid (And.intro h1 h2); clear h1 h2))
      go_ret2
      exact ⟨⟨_, rfl, HE.out.1⟩, HE.out.2⟩
  have hr : spoilB l a m = spoI a.toNat m.toNat n 32 0 l := hSB.trans (if_neg hbad)
  rw [hr]
  obtain ⟨at_, rfl⟩ : ∃ k : Nat, a = (k : Int) := ⟨a.toNat, by omega⟩
  obtain ⟨mk, rfl⟩ : ∃ k : Nat, m = (k : Int) := ⟨m.toNat, by omega⟩
  rw [Int.toNat_natCast, Int.toNat_natCast]
  have h2 : at_ < 8 * n := by omega
  have h3 : 0 < mk := by omega
  have hm32 : mk < 4294967296 := by omega
  have d1 : decide (8 * (n : Int) ≤ (at_ : Int)) = false := decide_eq_false (by omega)
  have d2 : ((mk : Int) == 0) = false := beq_eq_false_iff_ne.2 (by omega)
  clear hSB hr hbad ha hm
  go_enter Tryd.func33, Tryd.ntmps33
  go_upto_region 3 with (fail)
  go_wp2_with (first | (at_builtin; refine wp_copy rfl (.tmp 24) (.tmp 25) rfl rfl rfl (HR.out.keep ?c0) ?_))
  case c0 => exact fun k hk => ((Below.refl _ _).alloc (Nat.le_refl _) _).block k (hD k hk)
  intro A8 c8 w8 hRB hB8
  have HB8 : Hid (Below w.heap.size w w8) := Lib.hid ((((Below.refl _ _).alloc (Nat.le_refl _) _)).trans (hB8.mono (by omega)))
  have HRB : Hid (RB (fun k => w.heap.size ≤ k) w8 (.slice A8 l.length c8) l) := Lib.hid (hRB.mono (fun k hk => by omega))
  clear hRB hB8
  rw [← HN.out] at HRB ⊢
  go_wp2
  go_loopg [27] 40 (fun kq v27 wr => ∃ (i : Nat) (Y : List Int), v27 = .int .i64 i ∧ Hid (i ≤ 32 ∧ kq = 40 - i ∧ spoI at_ mk n 32 0 l = spoI at_ mk n (32 - i) i Y) ∧ Hid (RB (fun k => w.heap.size ≤ k) wr (.slice A8 n c8) Y ∧ Y.length = n ∧ Below w.heap.size w wr))
  case atStart => exact ⟨0, l, rfl, Lib.hid ⟨by omega, by omega, rfl⟩, Lib.hid ⟨HRB.out, HN.out.symm, HB8.out⟩⟩
  case round =>
    obtain ⟨i, Y, rfl, HK, HA⟩ := hrel
    have hi1 := HK.out.1
    by_cases hi : i < 32
    · have hst : spoI at_ mk n (32 - i) i Y = if mk / 2 ^ i % 2 = 0 then spoI at_ mk n (32 - (i + 1)) (i + 1) Y else if 8 * n ≤ at_ + i then none else spoI at_ mk n (32 - (i + 1)) (i + 1) (turnI Y (at_ + i)) := by
        rw [show 32 - i = (32 - (i + 1)) + 1 by omega]; rfl
      have hbit : bits BinOp.and IntKind.u32 ((mk : Int) / 2 ^ i) 1 = ((mk / 2 ^ i % 2 : Nat) : Int) := bit_at hm32
      by_cases hb : mk / 2 ^ i % 2 = 0
      · have HST : Hid (spoI at_ mk n (32 - i) i Y = spoI at_ mk n (32 - (i + 1)) (i + 1) Y) := Lib.hid (hst.trans (if_pos hb))
        have d3 : (bits BinOp.and IntKind.u32 ((mk : Int) / 2 ^ i) 1 == 0) = true := by rw [hbit, hb]; rfl
        clear hst hb hbit
        go_wp2
        go_roundg (39 - i)
        case measure => have := HK.out; omega
        case rel => exact ⟨i + 1, Y, by go_num, Lib.hid ⟨by omega, by omega, HK.out.2.2.trans HST.out⟩, HA⟩
      have d3 : (bits BinOp.and IntKind.u32 ((mk : Int) / 2 ^ i) 1 == 0) = false := by rw [hbit]; exact beq_eq_false_iff_ne.2 (by omega)
      rw [if_neg hb] at hst
      by_cases hov : 8 * n ≤ at_ + i
      · have HST : Hid (spoI at_ mk n 32 0 l = none) := Lib.hid (HK.out.2.2.trans (hst.trans (if_pos hov)))
        have d4 : decide (8 * (n : Int) - (i : Int) ≤ (at_ : Int)) = true := decide_eq_true (by omega)
        clear hst hb hbit
        go_wp2_with (first | (go_at_call 31; refine (fault_New.calls _ 2 (er chkSpoilN 2) _ rfl).mono ?_; rintro e w2 ⟨ev, rfl, h1, h2⟩; have HE := Lib.hid (And.intro h1 h2); clear h1 h2))
        go_ret2
        exact ⟨by rw [HST.out]; exact ⟨_, rfl, HE.out.1⟩, HA.out.2.2.trans (HE.out.2.mono HA.out.2.2.size)⟩
      have HST : Hid (spoI at_ mk n (32 - i) i Y = spoI at_ mk n (32 - (i + 1)) (i + 1) (turnI Y (at_ + i))) := Lib.hid (hst.trans (if_neg hov))
      have d4 : decide (8 * (n : Int) - (i : Int) ≤ (at_ : Int)) = false := decide_eq_false (by omega)
      obtain ⟨p, hp⟩ : ∃ p, p = at_ + i := ⟨_, rfl⟩
      have hpn : p / 8 < n := by omega
      have hp8 : p % 8 < 8 := Nat.mod_lt _ (by omega)
      obtain ⟨A', c', e1, hc', _, hlt, hx⟩ := HA.out.1
      obtain ⟨b, cur, rfl, hbb, hcur, hy⟩ := hx (by intro e; have := HA.out.2.1; rw [e] at this; simp at this; omega)
      obtain ⟨y, hy1⟩ : ∃ y, Y[p / 8]? = some y := ⟨Y[p / 8]'(by have := HA.out.2.1; omega), List.getElem?_eq_getElem _⟩
      have hyb := hlt y (List.mem_of_getElem? hy1)
      have y0 : wr.cell? ⟨b, p / 8, none⟩ = some (.int .u8 y) := by have := hy _ _ hy1; simp [World.cell?, hcur, this]
      have y1 : wr.frozen? ⟨b, p / 8, none⟩ = false := by simp [World.frozen?, hcur]
      obtain ⟨rfl, rfl⟩ : A8 = some ⟨b, 0, none⟩ ∧ c8 = c' := by cases e1; exact ⟨rfl, rfl⟩
      obtain ⟨q8, t8, z, r, hq8, hr, hq0, ht0, hsh0, hxr0⟩ := turn_facts p (by omega) y hyb
      have HNX : Hid (RB (fun k => w.heap.size ≤ k) (wr.drew.setCell ⟨b, p / 8, none⟩ (.int .u8 r)) (.slice (some ⟨b, 0, none⟩) n c8) (turnI Y (at_ + i)) ∧ (turnI Y (at_ + i)).length = n ∧ Below w.heap.size w (wr.drew.setCell ⟨b, p / 8, none⟩ (.int .u8 r))) := Lib.hid (by
        have hlen : (turnI Y (at_ + i)).length = n := by rw [turnI_len]; exact HA.out.2.1
        refine ⟨⟨_, c8, by rw [hlen], by rw [hlen, ← HA.out.2.1]; exact hc', by rw [hlen]; exact hl2, turnI_lt hlt _, fun _ => ⟨b, _, rfl, hbb, Joins.block_setCell (w := wr.drew) hcur _, fun j x hj => ?_⟩⟩, hlen, HA.out.2.2.drew.setCell hbb _⟩
        unfold turnI at hj
        rw [← hp, List.getElem?_set] at hj
        rw [Array.getElem?_setIfInBounds]
        by_cases e : p / 8 = j
        · rw [if_pos e] at hj ⊢
          have hy2 : Y.getD (p / 8) 0 = y := by rw [List.getD_eq_getElem?_getD, hy1]; rfl
          rw [hy2, ← hr] at hj
          split at hj
          · cases hj
            have := (List.getElem?_eq_some_iff.1 hy1).1
            have h9 := hy _ _ hy1
            rw [if_pos (by have := (Array.getElem?_eq_some_iff.1 h9).1; omega)]
          · cases hj
        · rw [if_neg e] at hj ⊢
          exact hy j x hj)
      have hw1 : IntKind.i64.wrap ((at_ : Int) + (i : Int)) = (p : Int) := by rw [IntKind.wrap_i64]; omega
      obtain ⟨hyb1, hyb2⟩ := hyb
      have HPP := Lib.hid hp
      rw [← hq8] at hpn y0 y1 HNX
      clear hst hb hbit hov e1 hx hcur hy hy1 hlt hbb hp hp8 hq8 hr
      go_upto_region 10 with (fail)
      refine start_ (n := 15) (S := fun w' => w'.cell? ⟨b, q8, none⟩ = some (.int .u8 y) ∧ w'.frozen? ⟨b, q8, none⟩ = false) (ds := [14]) #[false, false, false, false, false, false, false, false, false, false, false, false, false, false, false] (by kernel_rfl) rfl rfl ⟨y0, y1⟩ (fun hHeld => ?_)
      refine pu_ 0 43 (bm_ 15 0x1) ?_
      refine pu_ 1 44 (bm_ 15 0x3) ?_
      refine pu_ 2 45 (bm_ 15 0x7) ?_
      refine pu_ 3 46 (bm_ 15 0xf) ?_
      refine pu_ 4 47 (bm_ 15 0x1f) ?_
      refine pu_ 5 48 (bm_ 15 0x3f) ?_
      refine tk_ 6 49 (bm_ 15 0x7f) hHeld ?_
      refine pu_ 7 50 (bm_ 15 0xff) ?_
      refine pu_ 8 51 (bm_ 15 0x1ff) ?_
      refine pu_ 9 52 (bm_ 15 0x3ff) ?_
      refine pu_ 10 53 (bm_ 15 0x7ff) ?_
      refine pu_ 11 54 (bm_ 15 0xfff) ?_
      refine pu_ 12 55 (bm_ 15 0x1fff) ?_
      refine pu_ 13 56 (bm_ 15 0x3fff) ?_
      refine la_ 14 none (bm_ 15 0x7fff) fun K hK => ?_
      refine skip_ (by rfl) rfl (w1 := wr.drew.setCell ⟨b, q8, none⟩ (.int .u8 r)) (by go_simp) ?_
      refine hK.out _ _ ?_
      clear hK K
      refine done_ (by kernel_rfl) ?_
      clear hHeld y0 y1 hq0 ht0 hsh0 hxr0 hw1
      generalize wr.drew.setCell ⟨b, q8, none⟩ (.int .u8 r) = w9 at HNX ⊢
      go_wp2
      go_roundg (39 - i)
      case measure => have := HK.out; omega
      case rel => exact ⟨i + 1, turnI Y (at_ + i), by go_num, Lib.hid ⟨by omega, by omega, HK.out.2.2.trans HST.out⟩, HNX⟩
    · have HE : Hid (spoI at_ mk n 32 0 l = some Y) := Lib.hid (by
        have := HK.out.2.2
        rw [show 32 - i = 0 by omega] at this
        exact this)
      go_wp2
      go_ret2
      exact ⟨by rw [HE.out]; exact ⟨A8, c8, by rw [HA.out.2.1]; rfl, by rw [HA.out.2.1]; exact HA.out.1⟩, HA.out.2.2⟩
end Go.Proofs.YtpfpdbbgiimnmaaDoor.Net
