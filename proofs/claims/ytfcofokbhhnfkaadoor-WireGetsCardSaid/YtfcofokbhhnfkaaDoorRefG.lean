/- What geyserref16.guess reckons, in plain Lean; what Get answers by it. No memory in sight. Printed by mkgesm.py. geyserref16's number and geyserref15's Take by their contracts. Conditions: bytes as they may be read. geyserref16.guess by its contract. Conditions: bytes as they may be read; kind 1 or 2. Printed by mkges.py. geyserref16.guess by its contract. Conditions: bytes as they may be read; kind 1 or 2. Printed by mkges.py. geyserref15.Take and geyserref16.Get by their contracts. Conditions: bytes as they may be read. Printed by mkrget.py. geyserref16.Get by its contract. Conditions: bytes as they may be read. Printed by mkrget2.py. -/
import Derived.Test.YtfcofokbhhnfkaaDoorRefP
namespace Go.Proofs.YtfcofokbhhnfkaaDoor.Byt
set_option linter.unusedSimpArgs false
set_option linter.unusedVariables false
section
open Go.Proofs.YtfcofokbhhnfkaaDoor.Er
def nm (l : List Int) (a s : Nat) : Int := numI ((l.drop a).take s)
def guessP (l : List Int) (k : Int) : Pk := if k = 1 then ⟨k, nm l 1 2, nm l 3 1, nm l 4 5, decide (128 ≤ nm l 9 1), nm l 9 1 % 128 - 1, nm l 10 2, nm l 12 2, nm l 14 1, nm l 15 2, l.drop 17, 0, 0, 0, 0, 0, 0, 0, 0, 0⟩
  else ⟨k, nm l 1 2, nm l 3 1, nm l 4 5, false, 0, 0, 0, 0, 0, [], nm l 9 4, nm l 13 1, nm l 14 1, nm l 15 1, nm l 16 1, nm l 17 1, nm l 18 2 + 1, nm l 20 2, nm l 22 2⟩
theorem nm_bd {l : List Int} (h : ∀ x ∈ l, 0 ≤ x ∧ x < 256) (a s : Nat) : 0 ≤ nm l a s ∧ nm l a s < 256 ^ s := by
  unfold nm
  have hd : ∀ x ∈ l.drop a, 0 ≤ x ∧ x < 256 := fun x hx => h x (List.mem_of_mem_drop hx)
  rcases Nat.le_total s (l.drop a).length with c | c
  · exact numI_bd s _ hd c
  · have h1 := numI_bd (l.drop a).length (l.drop a) hd (Nat.le_refl _)
    rw [List.take_length] at h1
    rw [List.take_of_length_le c]
    refine ⟨h1.1, Int.lt_of_lt_of_le h1.2 ?_⟩
    obtain ⟨d, hd2⟩ : ∃ d, s = (l.drop a).length + d := ⟨s - (l.drop a).length, by omega⟩
    rw [hd2, Int.pow_add]
    have h3 : (0 : Int) < 256 ^ d := Int.pow_pos (by decide)
    have h4 : (0 : Int) < 256 ^ (l.drop a).length := Int.pow_pos (by decide)
    have h5 := Int.mul_le_mul_of_nonneg_left (show (1 : Int) ≤ 256 ^ d from h3) (Int.le_of_lt h4)
    rw [Int.mul_one] at h5
    exact h5
theorem nxtV_nm {l : List Int} {a s : Nat} (h : s ≤ (l.drop a).length) : nxtV (l.drop a) s = nm l a s := if_neg (by omega)
theorem nxtL_nm {l : List Int} {a s : Nat} (h : s ≤ (l.drop a).length) : nxtL (l.drop a) s = l.drop (a + s) := by
  unfold nxtL
  rw [if_neg (by omega), List.drop_drop]
theorem finG_two (b : Bool) (p : Pk) : (finG b p).2 = 0 ∨ finG b p = (pk0, 2) := by
  unfold finG
  cases b
  · rw [if_neg (by decide)]
    by_cases h : whyP p = 0
    · rw [if_pos h]; exact .inl rfl
    · rw [if_neg h]; exact .inr rfl
  · exact .inr rfl
theorem bodyG_two (B : List Int) : (bodyG B).2 = 0 ∨ bodyG B = (pk0, 2) := by
  unfold bodyG
  simp only
  split
  · exact finG_two _ _
  · split
    · exact finG_two _ _
    · exact .inr rfl
theorem guess_bodyG {B : List Int} (h : (bodyG B).2 = 0) : guessP B (bodyG B).1.kind = (bodyG B).1 := by
  unfold bodyG at h ⊢
  simp only at h ⊢
  by_cases k1 : nxtV B 1 = 1
  · rw [if_pos k1] at h ⊢
    unfold dataG at h ⊢
    simp only at h ⊢
    obtain ⟨hb, hw, he⟩ := finG_zero h
    obtain ⟨hb, c9⟩ := nxtB_false hb
    obtain ⟨hb, c8⟩ := nxtB_false hb
    obtain ⟨hb, c7⟩ := nxtB_false hb
    obtain ⟨hb, c6⟩ := nxtB_false hb
    obtain ⟨hb, c5⟩ := nxtB_false hb
    obtain ⟨hb, c4⟩ := nxtB_false hb
    obtain ⟨hb, c3⟩ := nxtB_false hb
    obtain ⟨hb, c2⟩ := nxtB_false hb
    obtain ⟨hb, c1⟩ := nxtB_false hb
    have e0 : B = B.drop 0 := rfl
    have e1 : (nxtL B 1) = B.drop 1 := nxtL_nm (l := B) (a := 0) (s := 1) c1
    have v1 : nxtV B 1 = nm B 0 1 := nxtV_nm (l := B) (a := 0) (s := 1) c1
    have v2 : nxtV (nxtL B 1) 2 = nm B 1 2 := by rw [e1] at c2 ⊢; exact nxtV_nm c2
    have e2 : (nxtL (nxtL B 1) 2) = B.drop 3 := by rw [e1] at c2 ⊢; exact nxtL_nm c2
    have v3 : nxtV (nxtL (nxtL B 1) 2) 1 = nm B 3 1 := by rw [e2] at c3 ⊢; exact nxtV_nm c3
    have e3 : (nxtL (nxtL (nxtL B 1) 2) 1) = B.drop 4 := by rw [e2] at c3 ⊢; exact nxtL_nm c3
    have v4 : nxtV (nxtL (nxtL (nxtL B 1) 2) 1) 5 = nm B 4 5 := by rw [e3] at c4 ⊢; exact nxtV_nm c4
    have e4 : (nxtL (nxtL (nxtL (nxtL B 1) 2) 1) 5) = B.drop 9 := by rw [e3] at c4 ⊢; exact nxtL_nm c4
    have v5 : nxtV (nxtL (nxtL (nxtL (nxtL B 1) 2) 1) 5) 1 = nm B 9 1 := by rw [e4] at c5 ⊢; exact nxtV_nm c5
    have e5 : (nxtL (nxtL (nxtL (nxtL (nxtL B 1) 2) 1) 5) 1) = B.drop 10 := by rw [e4] at c5 ⊢; exact nxtL_nm c5
    have v6 : nxtV (nxtL (nxtL (nxtL (nxtL (nxtL B 1) 2) 1) 5) 1) 2 = nm B 10 2 := by rw [e5] at c6 ⊢; exact nxtV_nm c6
    have e6 : (nxtL (nxtL (nxtL (nxtL (nxtL (nxtL B 1) 2) 1) 5) 1) 2) = B.drop 12 := by rw [e5] at c6 ⊢; exact nxtL_nm c6
    have v7 : nxtV (nxtL (nxtL (nxtL (nxtL (nxtL (nxtL B 1) 2) 1) 5) 1) 2) 2 = nm B 12 2 := by rw [e6] at c7 ⊢; exact nxtV_nm c7
    have e7 : (nxtL (nxtL (nxtL (nxtL (nxtL (nxtL (nxtL B 1) 2) 1) 5) 1) 2) 2) = B.drop 14 := by rw [e6] at c7 ⊢; exact nxtL_nm c7
    have v8 : nxtV (nxtL (nxtL (nxtL (nxtL (nxtL (nxtL (nxtL B 1) 2) 1) 5) 1) 2) 2) 1 = nm B 14 1 := by rw [e7] at c8 ⊢; exact nxtV_nm c8
    have e8 : (nxtL (nxtL (nxtL (nxtL (nxtL (nxtL (nxtL (nxtL B 1) 2) 1) 5) 1) 2) 2) 1) = B.drop 15 := by rw [e7] at c8 ⊢; exact nxtL_nm c8
    have v9 : nxtV (nxtL (nxtL (nxtL (nxtL (nxtL (nxtL (nxtL (nxtL B 1) 2) 1) 5) 1) 2) 2) 1) 2 = nm B 15 2 := by rw [e8] at c9 ⊢; exact nxtV_nm c9
    have e9 : (nxtL (nxtL (nxtL (nxtL (nxtL (nxtL (nxtL (nxtL (nxtL B 1) 2) 1) 5) 1) 2) 2) 1) 2) = B.drop 17 := by rw [e8] at c9 ⊢; exact nxtL_nm c9
    rw [he]
    unfold guessP pk0
    simp only [k1, if_true]
    rw [v9, v8, v7, v6, v5, v4, v3, v2, e9]
  · rw [if_neg k1] at h ⊢
    by_cases k2 : nxtV B 1 = 2
    · rw [if_pos k2] at h ⊢
      unfold annG at h ⊢
      simp only at h ⊢
      obtain ⟨hb, hw, he⟩ := finG_zero h
      obtain ⟨hb, hz⟩ := Bool.or_eq_false_iff.1 hb
      obtain ⟨hb, c13⟩ := nxtB_false hb
      obtain ⟨hb, c12⟩ := nxtB_false hb
      obtain ⟨hb, c11⟩ := nxtB_false hb
      obtain ⟨hb, c10⟩ := nxtB_false hb
      obtain ⟨hb, c9⟩ := nxtB_false hb
      obtain ⟨hb, c8⟩ := nxtB_false hb
      obtain ⟨hb, c7⟩ := nxtB_false hb
      obtain ⟨hb, c6⟩ := nxtB_false hb
      obtain ⟨hb, c5⟩ := nxtB_false hb
      obtain ⟨hb, c4⟩ := nxtB_false hb
      obtain ⟨hb, c3⟩ := nxtB_false hb
      obtain ⟨hb, c2⟩ := nxtB_false hb
      obtain ⟨hb, c1⟩ := nxtB_false hb
      have e0 : B = B.drop 0 := rfl
      have e1 : (nxtL B 1) = B.drop 1 := nxtL_nm (l := B) (a := 0) (s := 1) c1
      have v1 : nxtV B 1 = nm B 0 1 := nxtV_nm (l := B) (a := 0) (s := 1) c1
      have v2 : nxtV (nxtL B 1) 2 = nm B 1 2 := by rw [e1] at c2 ⊢; exact nxtV_nm c2
      have e2 : (nxtL (nxtL B 1) 2) = B.drop 3 := by rw [e1] at c2 ⊢; exact nxtL_nm c2
      have v3 : nxtV (nxtL (nxtL B 1) 2) 1 = nm B 3 1 := by rw [e2] at c3 ⊢; exact nxtV_nm c3
      have e3 : (nxtL (nxtL (nxtL B 1) 2) 1) = B.drop 4 := by rw [e2] at c3 ⊢; exact nxtL_nm c3
      have v4 : nxtV (nxtL (nxtL (nxtL B 1) 2) 1) 5 = nm B 4 5 := by rw [e3] at c4 ⊢; exact nxtV_nm c4
      have e4 : (nxtL (nxtL (nxtL (nxtL B 1) 2) 1) 5) = B.drop 9 := by rw [e3] at c4 ⊢; exact nxtL_nm c4
      have v5 : nxtV (nxtL (nxtL (nxtL (nxtL B 1) 2) 1) 5) 4 = nm B 9 4 := by rw [e4] at c5 ⊢; exact nxtV_nm c5
      have e5 : (nxtL (nxtL (nxtL (nxtL (nxtL B 1) 2) 1) 5) 4) = B.drop 13 := by rw [e4] at c5 ⊢; exact nxtL_nm c5
      have v6 : nxtV (nxtL (nxtL (nxtL (nxtL (nxtL B 1) 2) 1) 5) 4) 1 = nm B 13 1 := by rw [e5] at c6 ⊢; exact nxtV_nm c6
      have e6 : (nxtL (nxtL (nxtL (nxtL (nxtL (nxtL B 1) 2) 1) 5) 4) 1) = B.drop 14 := by rw [e5] at c6 ⊢; exact nxtL_nm c6
      have v7 : nxtV (nxtL (nxtL (nxtL (nxtL (nxtL (nxtL B 1) 2) 1) 5) 4) 1) 1 = nm B 14 1 := by rw [e6] at c7 ⊢; exact nxtV_nm c7
      have e7 : (nxtL (nxtL (nxtL (nxtL (nxtL (nxtL (nxtL B 1) 2) 1) 5) 4) 1) 1) = B.drop 15 := by rw [e6] at c7 ⊢; exact nxtL_nm c7
      have v8 : nxtV (nxtL (nxtL (nxtL (nxtL (nxtL (nxtL (nxtL B 1) 2) 1) 5) 4) 1) 1) 1 = nm B 15 1 := by rw [e7] at c8 ⊢; exact nxtV_nm c8
      have e8 : (nxtL (nxtL (nxtL (nxtL (nxtL (nxtL (nxtL (nxtL B 1) 2) 1) 5) 4) 1) 1) 1) = B.drop 16 := by rw [e7] at c8 ⊢; exact nxtL_nm c8
      have v9 : nxtV (nxtL (nxtL (nxtL (nxtL (nxtL (nxtL (nxtL (nxtL B 1) 2) 1) 5) 4) 1) 1) 1) 1 = nm B 16 1 := by rw [e8] at c9 ⊢; exact nxtV_nm c9
      have e9 : (nxtL (nxtL (nxtL (nxtL (nxtL (nxtL (nxtL (nxtL (nxtL B 1) 2) 1) 5) 4) 1) 1) 1) 1) = B.drop 17 := by rw [e8] at c9 ⊢; exact nxtL_nm c9
      have v10 : nxtV (nxtL (nxtL (nxtL (nxtL (nxtL (nxtL (nxtL (nxtL (nxtL B 1) 2) 1) 5) 4) 1) 1) 1) 1) 1 = nm B 17 1 := by rw [e9] at c10 ⊢; exact nxtV_nm c10
      have e10 : (nxtL (nxtL (nxtL (nxtL (nxtL (nxtL (nxtL (nxtL (nxtL (nxtL B 1) 2) 1) 5) 4) 1) 1) 1) 1) 1) = B.drop 18 := by rw [e9] at c10 ⊢; exact nxtL_nm c10
      have v11 : nxtV (nxtL (nxtL (nxtL (nxtL (nxtL (nxtL (nxtL (nxtL (nxtL (nxtL B 1) 2) 1) 5) 4) 1) 1) 1) 1) 1) 2 = nm B 18 2 := by rw [e10] at c11 ⊢; exact nxtV_nm c11
      have e11 : (nxtL (nxtL (nxtL (nxtL (nxtL (nxtL (nxtL (nxtL (nxtL (nxtL (nxtL B 1) 2) 1) 5) 4) 1) 1) 1) 1) 1) 2) = B.drop 20 := by rw [e10] at c11 ⊢; exact nxtL_nm c11
      have v12 : nxtV (nxtL (nxtL (nxtL (nxtL (nxtL (nxtL (nxtL (nxtL (nxtL (nxtL (nxtL B 1) 2) 1) 5) 4) 1) 1) 1) 1) 1) 2) 2 = nm B 20 2 := by rw [e11] at c12 ⊢; exact nxtV_nm c12
      have e12 : (nxtL (nxtL (nxtL (nxtL (nxtL (nxtL (nxtL (nxtL (nxtL (nxtL (nxtL (nxtL B 1) 2) 1) 5) 4) 1) 1) 1) 1) 1) 2) 2) = B.drop 22 := by rw [e11] at c12 ⊢; exact nxtL_nm c12
      have v13 : nxtV (nxtL (nxtL (nxtL (nxtL (nxtL (nxtL (nxtL (nxtL (nxtL (nxtL (nxtL (nxtL B 1) 2) 1) 5) 4) 1) 1) 1) 1) 1) 2) 2) 2 = nm B 22 2 := by rw [e12] at c13 ⊢; exact nxtV_nm c13
      have e13 : (nxtL (nxtL (nxtL (nxtL (nxtL (nxtL (nxtL (nxtL (nxtL (nxtL (nxtL (nxtL (nxtL B 1) 2) 1) 5) 4) 1) 1) 1) 1) 1) 2) 2) 2) = B.drop 24 := by rw [e12] at c13 ⊢; exact nxtL_nm c13
      rw [he]
      unfold guessP pk0
      simp only [k2, show ¬ (2 : Int) = 1 by decide, if_false]
      rw [v13, v12, v11, v10, v9, v8, v7, v6, v5, v4, v3, v2]
    · rw [if_neg k2] at h
      cases h
/-- Kind k's guess is the packet. -/
def hitG (B : List Int) (k : Int) : Prop := whyP (guessP B k) = 0 ∧ bodyI (guessP B k) = B
instance (B : List Int) (k : Int) : Decidable (hitG B k) := by unfold hitG; exact inferInstance
theorem hit_ok {B : List Int} {k : Int} (h : hitG B k) : bodyG B = (guessP B k, 0) := by
  have := bodyG_bodyI h.1
  rw [h.2] at this
  exact this
theorem hit_no {B : List Int} (hB : ∀ x ∈ B, 0 ≤ x ∧ x < 256) (h1 : ¬ hitG B 1) (h2 : ¬ hitG B 2) : bodyG B = (pk0, 2) := by
  rcases bodyG_two B with h | h
  · exfalso
    obtain ⟨a1, a2⟩ := bodyI_bodyG hB h
    have hg := guess_bodyG h
    rcases (whyP_zero a1).2 with ⟨k, _⟩ | ⟨k, _⟩
    · rw [k] at hg
      exact h1 ⟨by rw [hg]; exact a1, by rw [hg]; exact a2⟩
    · rw [k] at hg
      exact h2 ⟨by rw [hg]; exact a1, by rw [hg]; exact a2⟩
  · exact h
theorem guess_B {B : List Int} (hB : ∀ x ∈ B, 0 ≤ x ∧ x < 256) (k : Int) (hk : k = 1 ∨ k = 2) : PkB (guessP B k) := by
  have h_0_1 := nm_bd hB 0 1
  have h_1_2 := nm_bd hB 1 2
  have h_3_1 := nm_bd hB 3 1
  have h_4_5 := nm_bd hB 4 5
  have h_9_1 := nm_bd hB 9 1
  have h_9_4 := nm_bd hB 9 4
  have h_10_2 := nm_bd hB 10 2
  have h_12_2 := nm_bd hB 12 2
  have h_13_1 := nm_bd hB 13 1
  have h_14_1 := nm_bd hB 14 1
  have h_15_1 := nm_bd hB 15 1
  have h_15_2 := nm_bd hB 15 2
  have h_16_1 := nm_bd hB 16 1
  have h_17_1 := nm_bd hB 17 1
  have h_18_2 := nm_bd hB 18 2
  have h_20_2 := nm_bd hB 20 2
  have h_22_2 := nm_bd hB 22 2
  unfold guessP
  rcases hk with rfl | rfl
  · rw [if_pos rfl]
    constructor <;> dsimp only [I64] <;> omega
  · rw [if_neg (by decide)]
    constructor <;> dsimp only [I64] <;> omega
def getE (l : List Int) : Int := if takeE l = 0 then (bodyG (takeL l)).2 else takeE l
theorem tells_get (l : List Int) : Tells.tells.f (getR l) (getE l) getN = some true := by
  unfold getR getE
  by_cases h : takeE l = 0
  · rw [if_pos h, if_pos h]; exact tells_er getN _
  · rw [if_neg h, if_neg h]; exact tells_n _ _ _ h
end
section
open Go.RowKit Go.Deep Go.Proofs.YtfcofokbhhnfkaaDoor.Er Go.Proofs.YtfcofokbhhnfkaaDoorW.PrintWords Go.Proofs.YtfcofokbhhnfkaaDoorW.PrintLast Go.Proofs.YtfcofokbhhnfkaaDoorW.PrintMore
set_option maxHeartbeats 4000000 in
set_option maxRecDepth 100000 in
theorem number_calls {D : Nat → Prop} (a s : Nat) (w : World) (v : Value) (l : List Int) (hl : RdB D w v l) (ha : a ≤ 100 ∧ s ≤ 6) :
    Calls Tryd.prog 49 #[v, .int .i64 (a : Int), .int .i64 (s : Int)] w fun e w' => e = .returned (.int .i64 (nm l a s)) ∧ w' = w := by
  have HR := Lib.hid hl
  obtain ⟨A, c, rfl, hc1, hc2, hlt, hx⟩ := hl
  obtain ⟨m, hm⟩ : ∃ m, m = l.length := ⟨_, rfl⟩
  have HM := Lib.hid hm
  have HLT : Hid (∀ x ∈ l.drop a, 0 ≤ x ∧ x < 256) := Lib.hid (fun x h => hlt x (List.mem_of_mem_drop h))
  have HA := Lib.hid ha
  rw [← hm] at HR hc1 hc2 ⊢
  obtain ⟨t, ht⟩ : ∃ t, t = a + s := ⟨_, rfl⟩
  have HT := Lib.hid ht
  have hwt : wrap64 ((a : Int) + (s : Int)) = (t : Int) := by rw [w64 ⟨by omega, by omega⟩]; omega
  clear hm hlt hx
  go_enter Tryd.func49, Tryd.ntmps49
  go_wp2
  go_loopg [7, 8] (s + 1) (fun kq v7 v8 wr => ∃ (k : Nat) (n : Int), v8 = .int .i64 ((a + k : Nat) : Int) ∧ v7 = .int .i64 n ∧ wr = w ∧ Hid (k ≤ s ∧ kq = s + 1 - k ∧ n = numI ((l.drop a).take k)))
  case atStart => exact ⟨0, 0, rfl, rfl, rfl, Lib.hid ⟨by omega, by omega, by simp [numI]⟩⟩
  case round =>
    obtain ⟨k, n, rfl, rfl, rfl, HK⟩ := hrel
    obtain ⟨i, hi⟩ : ∃ i, i = a + k := ⟨_, rfl⟩
    rw [← hi]
    by_cases h1 : i < t
    · have d1 : decide ((i : Int) < (t : Int)) = true := decide_eq_true (by omega)
      have d1b : decide ((i : Int) < (a : Int) + (s : Int)) = true := decide_eq_true (by omega)
      have d1n : decide (i < t) = true := decide_eq_true h1
      by_cases h2 : i < m
      · have d2 : decide ((i : Int) < (m : Int)) = true := decide_eq_true (by omega)
        have d2n : decide (i < m) = true := decide_eq_true h2
        obtain ⟨x, hx⟩ : ∃ x, l[i]? = some x := ⟨l[i]'(by rw [← HM.out]; exact h2), List.getElem?_eq_getElem _⟩
        have hxk : (l.drop a)[k]? = some x := by rw [List.getElem?_drop, ← hi]; exact hx
        have hxb := HLT.out x (List.mem_of_getElem? hxk)
        have hks : k < s := by have := HT.out; omega
        have hnb := numI_bd k (l.drop a) HLT.out (by have := (List.getElem?_eq_some_iff.1 hxk).1; omega)
        rw [← HK.out.2.2] at hnb
        have hn6 : (256 : Int) ^ k ≤ 256 ^ 6 := pow256 k (by have := HA.out; omega)
        obtain ⟨ab, ao, rfl, hDb, hcl⟩ := HR.out.at i x hx
        obtain ⟨n2, hn2⟩ : ∃ n2, n2 = n * 256 + x := ⟨_, rfl⟩
        have hn6' : n < 281474976710656 := Int.lt_of_lt_of_le hnb.2 hn6
        have hn0 := hnb.1
        have e1 : wrap64 (256 * n) = 256 * n := w64 ⟨by omega, by omega⟩
        have e2 : wrap64 (256 * n + x) = n2 := by rw [hn2, w64 ⟨by omega, by omega⟩]; omega
        have e3 : wrap64 x = x := w64 ⟨by omega, by omega⟩
        have HN2 : Hid (n2 = numI ((l.drop a).take (k + 1))) := Lib.hid (by rw [hn2, numI_snoc _ k x hxk, ← HK.out.2.2])
        have hi' : (i : Int) < (m : Int) := by omega
        have HI := Lib.hid hi
        clear hx hxk hxb hnb hn6 hn6' hn0 hn2 h1 h2 hi hDb ht
        go_wp2
        go_roundg (s - k)
        case measure => have := HK.out; omega
        case rel => exact ⟨k + 1, n2, by first | (have := HI.out; go_num) | (congr 1; have := HI.out; omega), by first | rfl | exact congrArg _ e2, rfl, Lib.hid ⟨by omega, by omega, HN2.out⟩⟩
      · have d2 : decide ((i : Int) < (m : Int)) = false := decide_eq_false (by omega)
        have d2n : decide (i < m) = false := decide_eq_false h2
        have HE : Hid (n = nm l a s) := Lib.hid (by
          rw [HK.out.2.2]
          unfold nm
          have hd : (l.drop a).length = m - a := by rw [List.length_drop, HM.out]
          rw [List.take_of_length_le (by omega), List.take_of_length_le (by have := HT.out; omega)])
        clear h1 h2 hi ht
        go_wp2
        go_ret
        exact ⟨by rw [HE.out]; rfl, rfl⟩
    · have d1 : decide ((i : Int) < (t : Int)) = false := decide_eq_false (by omega)
      have d1b : decide ((i : Int) < (a : Int) + (s : Int)) = false := decide_eq_false (by omega)
      have d1n : decide (i < t) = false := decide_eq_false h1
      have HE : Hid (n = nm l a s) := Lib.hid (by
        rw [HK.out.2.2]
        unfold nm
        rw [show k = s by have := HK.out; have := HT.out; omega])
      clear h1 hi ht
      go_wp2
      go_ret
      exact ⟨by rw [HE.out]; rfl, rfl⟩
end
section
open Go.RowKit Go.Deep Go.Proofs.YtfcofokbhhnfkaaDoor.Er Go.Proofs.YtfcofokbhhnfkaaDoorW.PrintWords Go.Proofs.YtfcofokbhhnfkaaDoorW.PrintLast Go.Proofs.YtfcofokbhhnfkaaDoorW.PrintMore
def GesR (w : World) (l : List Int) (k : Int) (e : Ending) (w' : World) : Prop := ∃ v', e = .returned (pkV (guessP l k) v') ∧ OB w.heap.size w' v' (guessP l k).data ∧ Below w.heap.size w w'
set_option maxHeartbeats 8000000 in
set_option maxRecDepth 100000 in
theorem guess1_calls {D : Nat → Prop} (w : World) (v : Value) (l : List Int) (hl : RdB D w v l) (hD : ∀ k, D k → k < w.heap.size) : Calls Tryd.prog 33 #[v, .int .i64 1] w (GesR w l 1) := by
  have HR := Lib.hid hl
  have HD := Lib.hid hD
  have hlt := hl.lt
  obtain ⟨x_1_2, e_1_2⟩ : ∃ x, x = nm l 1 2 := ⟨_, rfl⟩
  have HX_1_2 : Hid (nm l 1 2 = x_1_2) := Lib.hid e_1_2.symm
  obtain ⟨x_3_1, e_3_1⟩ : ∃ x, x = nm l 3 1 := ⟨_, rfl⟩
  have HX_3_1 : Hid (nm l 3 1 = x_3_1) := Lib.hid e_3_1.symm
  obtain ⟨x_4_5, e_4_5⟩ : ∃ x, x = nm l 4 5 := ⟨_, rfl⟩
  have HX_4_5 : Hid (nm l 4 5 = x_4_5) := Lib.hid e_4_5.symm
  obtain ⟨x_9_1, e_9_1⟩ : ∃ x, x = nm l 9 1 := ⟨_, rfl⟩
  have HX_9_1 : Hid (nm l 9 1 = x_9_1) := Lib.hid e_9_1.symm
  obtain ⟨x_10_2, e_10_2⟩ : ∃ x, x = nm l 10 2 := ⟨_, rfl⟩
  have HX_10_2 : Hid (nm l 10 2 = x_10_2) := Lib.hid e_10_2.symm
  obtain ⟨x_12_2, e_12_2⟩ : ∃ x, x = nm l 12 2 := ⟨_, rfl⟩
  have HX_12_2 : Hid (nm l 12 2 = x_12_2) := Lib.hid e_12_2.symm
  obtain ⟨x_14_1, e_14_1⟩ : ∃ x, x = nm l 14 1 := ⟨_, rfl⟩
  have HX_14_1 : Hid (nm l 14 1 = x_14_1) := Lib.hid e_14_1.symm
  obtain ⟨x_15_2, e_15_2⟩ : ∃ x, x = nm l 15 2 := ⟨_, rfl⟩
  have HX_15_2 : Hid (nm l 15 2 = x_15_2) := Lib.hid e_15_2.symm
  have HGS : Hid (guessP l 1 = Pk.mk 1 x_1_2 x_3_1 x_4_5 (decide (128 ≤ x_9_1)) (x_9_1 % 128 - 1) x_10_2 x_12_2 x_14_1 x_15_2 (l.drop 17) 0 0 0 0 0 0 0 0 0) := Lib.hid (by unfold guessP; rw [if_pos rfl]; simp only [← e_1_2, ← e_3_1, ← e_4_5, ← e_9_1, ← e_10_2, ← e_12_2, ← e_14_1, ← e_15_2])
  have HSY : Hid (wrap64 (Int.tmod x_9_1 128 - 1) = x_9_1 % 128 - 1) := Lib.hid (sync_eq (by rw [e_9_1]; exact nm_bd hlt 9 1))
  obtain ⟨A, c, rfl, hc1, hc2, _, _⟩ := hl
  obtain ⟨m, hm⟩ : ∃ m, m = l.length := ⟨_, rfl⟩
  have HM := Lib.hid hm
  rw [← hm] at HR hc1 hc2 ⊢
  clear hlt hD hm e_1_2 e_3_1 e_4_5 e_9_1 e_10_2 e_12_2 e_14_1 e_15_2
  go_enter Tryd.func33, Tryd.ntmps33
  go_upto_region 1 with (first
    | ((with_reducible refine gate_dst (N := 4) rfl ?_); refine wp_allocPk rfl rfl ?_; intro w2 hP hB hs; have H2 := Lib.hid (And.intro hP hB); have HR2 : Hid (RdB D w2 (.slice A m c) l) := Lib.hid (HR.out.keep (fun k hk => hB.block k (HD.out k hk))); clear hP hB hs))
  have T0 := Lib.hid trivial
  go_upto_region 2 with (first
    | ((with_reducible refine gate_dst (N := 5) rfl ?_); refine wp_allocPk rfl rfl ?_; intro w3 hP hB hs; have H3 := Lib.hid (And.intro hP hB); clear hP hB hs)
    | ((with_reducible refine gate_store (t := 26) (p := 5) rfl ?_)
       refine wp_stpk (p := Pk.mk 1 x_1_2 x_3_1 x_4_5 false 0 0 0 0 0 [] 0 0 0 0 0 0 0 0 0) (A := none) (L := 0) (c := 0) rfl rfl rfl rfl H3.out.1 rfl ?_
       intro w4 hP hO
       have HC0 := Lib.hid (CS.box (w := w) H2.out.1 H2.out.2 (Nat.le_refl _) rfl H3.out.2 hO hP)
       clear hP hO)
    | (go_at_call 49; clear T0; refine (number_calls (D := D) 1 2 _ _ l HR2.out (by decide)).mono ?_; rw [HX_1_2.out]; rintro e w9 ⟨rfl, hw⟩; rw [hw]; clear hw w9; have T1 := Lib.hid trivial)
    | (go_at_call 49; clear T1; refine (number_calls (D := D) 3 1 _ _ l HR2.out (by decide)).mono ?_; rw [HX_3_1.out]; rintro e w9 ⟨rfl, hw⟩; rw [hw]; clear hw w9; have T2 := Lib.hid trivial)
    | (go_at_call 49; clear T2; refine (number_calls (D := D) 4 5 _ _ l HR2.out (by decide)).mono ?_; rw [HX_4_5.out]; rintro e w9 ⟨rfl, hw⟩; rw [hw]; clear hw w9; have T3 := Lib.hid trivial))
  have HR4 : Hid (RdB D w4 (.slice A m c) l) := Lib.hid (HR.out.keep (fun k hk => HC0.out.B.block k (HD.out k hk)))
  clear H3 H2 HR2 T3
  have t4 : w4.cell? ⟨w2.heap.size, 4, none⟩ = some (.bool false) := (blk_cell HC0.out.Q 4).trans rfl
  have f4 := blk_frozen HC0.out.Q 4
  go_upto_region 5 with (first
    | (go_at_call 49; refine (number_calls (D := D) 9 1 _ _ l HR4.out (by decide)).mono ?_; rw [HX_9_1.out]; rintro e w9 ⟨rfl, hw⟩; rw [hw]; clear hw w9))
  have HC1 := Lib.hid (HC0.out.put 4 (.bool (decide (128 ≤ x_9_1))) (Pk.mk 1 x_1_2 x_3_1 x_4_5 (decide (128 ≤ x_9_1)) 0 0 0 0 0 [] 0 0 0 0 0 0 0 0 0) (.slice none 0 0) rfl)
  clear t4 f4
  generalize (w4.setCell ⟨w2.heap.size, 4, none⟩ (.bool (decide (128 ≤ x_9_1)))) = x1 at HC1 ⊢
  have HR5 : Hid (RdB D x1 (.slice A m c) l) := Lib.hid (HR.out.keep (fun k hk => HC1.out.B.block k (HD.out k hk)))
  clear HC0 HR4
  have t5 : x1.cell? ⟨w2.heap.size, 5, none⟩ = some (.int .i64 0) := (blk_cell HC1.out.Q 5).trans rfl
  have f5 := blk_frozen HC1.out.Q 5
  go_upto_region 6 with (fail)
  have HC2 := Lib.hid (HC1.out.put 5 (.int .i64 (wrap64 (Int.tmod x_9_1 128 - 1))) (Pk.mk 1 x_1_2 x_3_1 x_4_5 (decide (128 ≤ x_9_1)) (wrap64 (Int.tmod x_9_1 128 - 1)) 0 0 0 0 [] 0 0 0 0 0 0 0 0 0) (.slice none 0 0) rfl)
  clear t5 f5
  generalize (x1.setCell ⟨w2.heap.size, 5, none⟩ (.int .i64 (wrap64 (Int.tmod x_9_1 128 - 1)))) = x2 at HC2 ⊢
  have HR6 : Hid (RdB D x2 (.slice A m c) l) := Lib.hid (HR.out.keep (fun k hk => HC2.out.B.block k (HD.out k hk)))
  clear HC1 HR5
  rw [HSY.out] at HC2
  have t6 : x2.cell? ⟨w2.heap.size, 6, none⟩ = some (.int .i64 0) := (blk_cell HC2.out.Q 6).trans rfl
  have f6 := blk_frozen HC2.out.Q 6
  go_upto_region 7 with (first
    | (go_at_call 49; refine (number_calls (D := D) 10 2 _ _ l HR6.out (by decide)).mono ?_; rw [HX_10_2.out]; rintro e w9 ⟨rfl, hw⟩; rw [hw]; clear hw w9))
  have HC3 := Lib.hid (HC2.out.put 6 (.int .i64 x_10_2) (Pk.mk 1 x_1_2 x_3_1 x_4_5 (decide (128 ≤ x_9_1)) (x_9_1 % 128 - 1) x_10_2 0 0 0 [] 0 0 0 0 0 0 0 0 0) (.slice none 0 0) rfl)
  clear t6 f6
  generalize (x2.setCell ⟨w2.heap.size, 6, none⟩ (.int .i64 x_10_2)) = x3 at HC3 ⊢
  have HR7 : Hid (RdB D x3 (.slice A m c) l) := Lib.hid (HR.out.keep (fun k hk => HC3.out.B.block k (HD.out k hk)))
  clear HC2 HR6
  have t7 : x3.cell? ⟨w2.heap.size, 7, none⟩ = some (.int .i64 0) := (blk_cell HC3.out.Q 7).trans rfl
  have f7 := blk_frozen HC3.out.Q 7
  go_upto_region 8 with (first
    | (go_at_call 49; refine (number_calls (D := D) 12 2 _ _ l HR7.out (by decide)).mono ?_; rw [HX_12_2.out]; rintro e w9 ⟨rfl, hw⟩; rw [hw]; clear hw w9))
  have HC4 := Lib.hid (HC3.out.put 7 (.int .i64 x_12_2) (Pk.mk 1 x_1_2 x_3_1 x_4_5 (decide (128 ≤ x_9_1)) (x_9_1 % 128 - 1) x_10_2 x_12_2 0 0 [] 0 0 0 0 0 0 0 0 0) (.slice none 0 0) rfl)
  clear t7 f7
  generalize (x3.setCell ⟨w2.heap.size, 7, none⟩ (.int .i64 x_12_2)) = x4 at HC4 ⊢
  have HR8 : Hid (RdB D x4 (.slice A m c) l) := Lib.hid (HR.out.keep (fun k hk => HC4.out.B.block k (HD.out k hk)))
  clear HC3 HR7
  have t8 : x4.cell? ⟨w2.heap.size, 8, none⟩ = some (.int .i64 0) := (blk_cell HC4.out.Q 8).trans rfl
  have f8 := blk_frozen HC4.out.Q 8
  go_upto_region 9 with (first
    | (go_at_call 49; refine (number_calls (D := D) 14 1 _ _ l HR8.out (by decide)).mono ?_; rw [HX_14_1.out]; rintro e w9 ⟨rfl, hw⟩; rw [hw]; clear hw w9))
  have HC5 := Lib.hid (HC4.out.put 8 (.int .i64 x_14_1) (Pk.mk 1 x_1_2 x_3_1 x_4_5 (decide (128 ≤ x_9_1)) (x_9_1 % 128 - 1) x_10_2 x_12_2 x_14_1 0 [] 0 0 0 0 0 0 0 0 0) (.slice none 0 0) rfl)
  clear t8 f8
  generalize (x4.setCell ⟨w2.heap.size, 8, none⟩ (.int .i64 x_14_1)) = x5 at HC5 ⊢
  have HR9 : Hid (RdB D x5 (.slice A m c) l) := Lib.hid (HR.out.keep (fun k hk => HC5.out.B.block k (HD.out k hk)))
  clear HC4 HR8
  have t9 : x5.cell? ⟨w2.heap.size, 9, none⟩ = some (.int .i64 0) := (blk_cell HC5.out.Q 9).trans rfl
  have f9 := blk_frozen HC5.out.Q 9
  go_upto_region 10 with (first
    | (go_at_call 49; refine (number_calls (D := D) 15 2 _ _ l HR9.out (by decide)).mono ?_; rw [HX_15_2.out]; rintro e w9 ⟨rfl, hw⟩; rw [hw]; clear hw w9))
  have HC6 := Lib.hid (HC5.out.put 9 (.int .i64 x_15_2) (Pk.mk 1 x_1_2 x_3_1 x_4_5 (decide (128 ≤ x_9_1)) (x_9_1 % 128 - 1) x_10_2 x_12_2 x_14_1 x_15_2 [] 0 0 0 0 0 0 0 0 0) (.slice none 0 0) rfl)
  clear t9 f9
  generalize (x5.setCell ⟨w2.heap.size, 9, none⟩ (.int .i64 x_15_2)) = x6 at HC6 ⊢
  have HR10 : Hid (RdB D x6 (.slice A m c) l) := Lib.hid (HR.out.keep (fun k hk => HC6.out.B.block k (HD.out k hk)))
  clear HC5 HR9
  by_cases h17 : 17 < m
  · have d1 : decide (17 < m) = true := decide_eq_true h17
    have d2 : decide ((17 : Int) < (m : Int)) = true := decide_eq_true (by omega)
    obtain ⟨iU, hiU, hU0, hU1, hU2⟩ := info_parts infoU
    have hcut := cut_from (P := Tryd.prog) 22 5 .i64 Tryd.underlying22 hiU 1 hU1 A m c (17 : Int) (by omega) (by omega)
    rw [show ((17 : Int)).toNat = 17 from rfl] at hcut
    have HDR := Lib.hid (HR.out.drop 17 (by omega))
    generalize (if c = 17 then A else A.map (fun x => x.add (17 * 1))) = A2 at hcut HDR
    have hdl : (l.drop 17).length = m - 17 := by rw [List.length_drop, HM.out]
    have HDL := Lib.hid hdl
    have HB17 : Hid (Below w.heap.size w (x6.alloc (.cells #[] 5))) := Lib.hid (HC6.out.B.alloc HC6.out.B.size _)
    have HC1 : Hid (RdB D (x6.alloc (.cells #[] 5)) (.slice A2 (m - 17) (c - 17)) (l.drop 17)) := Lib.hid (HDR.out.keep (fun k hk => HB17.out.block k (HD.out k hk)))
    clear hdl
    go_upto_region 12 with (first
      | (at_builtin
         refine wp_copyO w.heap.size rfl (.tmp 41) (.tmp 43) rfl rfl rfl HC1.out (heap_new _ _) HC6.out.B.size HB17.out.size ?_
         rw [HDL.out]
         intro A10 c10 w10 hO hF
         have HC7 := Lib.hid (HC6.out.below (hF.below ((Below.refl _ _).alloc (Nat.le_refl _) _) (by simp) (fun k e => by omega)))
         have HOd := Lib.hid hO
         clear hO hF HC1
         have t10 : w10.cell? ⟨w2.heap.size, 10, none⟩ = some (.slice none 0 0) := (blk_cell HC7.out.Q 10).trans rfl
         have f10 := blk_frozen HC7.out.Q 10))
    have HOE : Hid (OB w.heap.size (w10.setCell ⟨w2.heap.size, 10, none⟩ (.slice A10 (m - 17) c10)) (.slice A10 (m - 17) c10) (l.drop 17)) := Lib.hid (HOd.out.only (Only.set _ _ _ _) HC7.out.Q)
    have HC8 := Lib.hid (HC7.out.put 10 (.slice A10 (m - 17) c10) (Pk.mk 1 x_1_2 x_3_1 x_4_5 (decide (128 ≤ x_9_1)) (x_9_1 % 128 - 1) x_10_2 x_12_2 x_14_1 x_15_2 (l.drop 17) 0 0 0 0 0 0 0 0 0) (.slice A10 (m - 17) c10) rfl)
    clear t10 f10 HC7 HOd
    generalize (w10.setCell ⟨w2.heap.size, 10, none⟩ (.slice A10 (m - 17) c10)) = x8 at HOE HC8 ⊢
    go_wp2_with (first
      | ((with_reducible refine gate_dst (N := 46) rfl ?_); refine wp_ldpk rfl (.tmp 5) rfl rfl HC8.out.Q ?_)
      | ((with_reducible refine gate_store (t := 26) (p := 4) rfl ?_)
         refine wp_stpk (p := Pk.mk 1 x_1_2 x_3_1 x_4_5 (decide (128 ≤ x_9_1)) (x_9_1 % 128 - 1) x_10_2 x_12_2 x_14_1 x_15_2 (l.drop 17) 0 0 0 0 0 0 0 0 0) (A := A10) (L := m - 17) (c := c10) rfl rfl rfl rfl HC8.out.R rfl ?_
         intro y4 hP hO
         have HE4 := Lib.hid (And.intro hP hO)
         clear hP hO))
    (try simp only [Exit.inBlock, Exit.then])
    refine bodyPost_ret (results_c1 rfl _ _ w.heap.size _ _ _ _ rfl HE4.out.1 Tryd.underlying26 rfl (show (Tryd.prog.info? 26).map (·.size) = some 20 by kernel_rfl)) rfl ?_
    exact ⟨(.slice A10 (m - 17) c10), by rw [HGS.out]; rfl, by rw [HGS.out]; exact HOE.out.only HE4.out.2 HC8.out.R, HE4.out.2.below HC8.out.B HC8.out.h1⟩
  · have d1 : decide (17 < m) = false := decide_eq_false h17
    have d2 : decide ((17 : Int) < (m : Int)) = false := decide_eq_false (by omega)
    have HE17 : Hid (l.drop 17 = []) := Lib.hid (List.drop_eq_nil_of_le (by have := HM.out; omega))
    rw [HE17.out] at HGS
    clear h17
    go_wp2_with (first
      | ((with_reducible refine gate_dst (N := 46) rfl ?_); refine wp_ldpk rfl (.tmp 5) rfl rfl HC6.out.Q ?_)
      | ((with_reducible refine gate_store (t := 26) (p := 4) rfl ?_)
         refine wp_stpk (p := Pk.mk 1 x_1_2 x_3_1 x_4_5 (decide (128 ≤ x_9_1)) (x_9_1 % 128 - 1) x_10_2 x_12_2 x_14_1 x_15_2 [] 0 0 0 0 0 0 0 0 0) (A := none) (L := 0) (c := 0) rfl rfl rfl rfl HC6.out.R rfl ?_
         intro y4 hP hO
         have HE4 := Lib.hid (And.intro hP hO)
         clear hP hO))
    (try simp only [Exit.inBlock, Exit.then])
    refine bodyPost_ret (results_c1 rfl _ _ w.heap.size _ _ _ _ rfl HE4.out.1 Tryd.underlying26 rfl (show (Tryd.prog.info? 26).map (·.size) = some 20 by kernel_rfl)) rfl ?_
    exact ⟨(.slice none 0 0), by rw [HGS.out]; rfl, by rw [HGS.out]; exact OB.nil _ _, HE4.out.2.below HC6.out.B HC6.out.h1⟩
end
section
open Go.RowKit Go.Deep Go.Proofs.YtfcofokbhhnfkaaDoor.Er Go.Proofs.YtfcofokbhhnfkaaDoorW.PrintWords Go.Proofs.YtfcofokbhhnfkaaDoorW.PrintLast Go.Proofs.YtfcofokbhhnfkaaDoorW.PrintMore
set_option maxHeartbeats 8000000 in
set_option maxRecDepth 100000 in
theorem guess2_calls {D : Nat → Prop} (w : World) (v : Value) (l : List Int) (hl : RdB D w v l) (hD : ∀ k, D k → k < w.heap.size) : Calls Tryd.prog 33 #[v, .int .i64 2] w (GesR w l 2) := by
  have HR := Lib.hid hl
  have HD := Lib.hid hD
  have hlt := hl.lt
  obtain ⟨x_1_2, e_1_2⟩ : ∃ x, x = nm l 1 2 := ⟨_, rfl⟩
  have HX_1_2 : Hid (nm l 1 2 = x_1_2) := Lib.hid e_1_2.symm
  obtain ⟨x_3_1, e_3_1⟩ : ∃ x, x = nm l 3 1 := ⟨_, rfl⟩
  have HX_3_1 : Hid (nm l 3 1 = x_3_1) := Lib.hid e_3_1.symm
  obtain ⟨x_4_5, e_4_5⟩ : ∃ x, x = nm l 4 5 := ⟨_, rfl⟩
  have HX_4_5 : Hid (nm l 4 5 = x_4_5) := Lib.hid e_4_5.symm
  obtain ⟨x_9_4, e_9_4⟩ : ∃ x, x = nm l 9 4 := ⟨_, rfl⟩
  have HX_9_4 : Hid (nm l 9 4 = x_9_4) := Lib.hid e_9_4.symm
  obtain ⟨x_13_1, e_13_1⟩ : ∃ x, x = nm l 13 1 := ⟨_, rfl⟩
  have HX_13_1 : Hid (nm l 13 1 = x_13_1) := Lib.hid e_13_1.symm
  obtain ⟨x_14_1, e_14_1⟩ : ∃ x, x = nm l 14 1 := ⟨_, rfl⟩
  have HX_14_1 : Hid (nm l 14 1 = x_14_1) := Lib.hid e_14_1.symm
  obtain ⟨x_15_1, e_15_1⟩ : ∃ x, x = nm l 15 1 := ⟨_, rfl⟩
  have HX_15_1 : Hid (nm l 15 1 = x_15_1) := Lib.hid e_15_1.symm
  obtain ⟨x_16_1, e_16_1⟩ : ∃ x, x = nm l 16 1 := ⟨_, rfl⟩
  have HX_16_1 : Hid (nm l 16 1 = x_16_1) := Lib.hid e_16_1.symm
  obtain ⟨x_17_1, e_17_1⟩ : ∃ x, x = nm l 17 1 := ⟨_, rfl⟩
  have HX_17_1 : Hid (nm l 17 1 = x_17_1) := Lib.hid e_17_1.symm
  obtain ⟨x_18_2, e_18_2⟩ : ∃ x, x = nm l 18 2 := ⟨_, rfl⟩
  have HX_18_2 : Hid (nm l 18 2 = x_18_2) := Lib.hid e_18_2.symm
  obtain ⟨x_20_2, e_20_2⟩ : ∃ x, x = nm l 20 2 := ⟨_, rfl⟩
  have HX_20_2 : Hid (nm l 20 2 = x_20_2) := Lib.hid e_20_2.symm
  obtain ⟨x_22_2, e_22_2⟩ : ∃ x, x = nm l 22 2 := ⟨_, rfl⟩
  have HX_22_2 : Hid (nm l 22 2 = x_22_2) := Lib.hid e_22_2.symm
  have HGS : Hid (guessP l 2 = Pk.mk 2 x_1_2 x_3_1 x_4_5 false 0 0 0 0 0 [] x_9_4 x_13_1 x_14_1 x_15_1 x_16_1 x_17_1 (x_18_2 + 1) x_20_2 x_22_2) := Lib.hid (by unfold guessP; rw [if_neg (by decide)]; simp only [← e_1_2, ← e_3_1, ← e_4_5, ← e_9_4, ← e_13_1, ← e_14_1, ← e_15_1, ← e_16_1, ← e_17_1, ← e_18_2, ← e_20_2, ← e_22_2])
  have HES : Hid (wrap64 (x_18_2 + 1) = x_18_2 + 1) := Lib.hid (esis_eq (by rw [e_18_2]; exact nm_bd hlt 18 2))
  clear hl hlt hD e_1_2 e_3_1 e_4_5 e_9_4 e_13_1 e_14_1 e_15_1 e_16_1 e_17_1 e_18_2 e_20_2 e_22_2
  go_enter Tryd.func33, Tryd.ntmps33
  go_upto_region 1 with (first
    | ((with_reducible refine gate_dst (N := 4) rfl ?_); refine wp_allocPk rfl rfl ?_; intro w2 hP hB hs; have H2 := Lib.hid (And.intro hP hB); have HR2 : Hid (RdB D w2 v l) := Lib.hid (HR.out.keep (fun k hk => hB.block k (HD.out k hk))); clear hP hB hs))
  have T0 := Lib.hid trivial
  go_upto_region 2 with (first
    | ((with_reducible refine gate_dst (N := 5) rfl ?_); refine wp_allocPk rfl rfl ?_; intro w3 hP hB hs; have H3 := Lib.hid (And.intro hP hB); clear hP hB hs)
    | ((with_reducible refine gate_store (t := 26) (p := 5) rfl ?_)
       refine wp_stpk (p := Pk.mk 2 x_1_2 x_3_1 x_4_5 false 0 0 0 0 0 [] 0 0 0 0 0 0 0 0 0) (A := none) (L := 0) (c := 0) rfl rfl rfl rfl H3.out.1 rfl ?_
       intro w4 hP hO
       have HC0 := Lib.hid (CS.box (w := w) H2.out.1 H2.out.2 (Nat.le_refl _) rfl H3.out.2 hO hP)
       clear hP hO)
    | (go_at_call 49; clear T0; refine (number_calls (D := D) 1 2 _ _ l HR2.out (by decide)).mono ?_; rw [HX_1_2.out]; rintro e w9 ⟨rfl, hw⟩; rw [hw]; clear hw w9; have T1 := Lib.hid trivial)
    | (go_at_call 49; clear T1; refine (number_calls (D := D) 3 1 _ _ l HR2.out (by decide)).mono ?_; rw [HX_3_1.out]; rintro e w9 ⟨rfl, hw⟩; rw [hw]; clear hw w9; have T2 := Lib.hid trivial)
    | (go_at_call 49; clear T2; refine (number_calls (D := D) 4 5 _ _ l HR2.out (by decide)).mono ?_; rw [HX_4_5.out]; rintro e w9 ⟨rfl, hw⟩; rw [hw]; clear hw w9; have T3 := Lib.hid trivial))
  have HR4 : Hid (RdB D w4 v l) := Lib.hid (HR.out.keep (fun k hk => HC0.out.B.block k (HD.out k hk)))
  clear H3 H2 HR2 T3
  go_upto_region 13 with (fail)
  have T0 := Lib.hid trivial
  have t11 : w4.cell? ⟨w2.heap.size, 11, none⟩ = some (.int .i64 0) := (blk_cell HC0.out.Q 11).trans rfl
  have f11 := blk_frozen HC0.out.Q 11
  have t12 : w4.cell? ⟨w2.heap.size, 12, none⟩ = some (.int .i64 0) := (blk_cell HC0.out.Q 12).trans rfl
  have f12 := blk_frozen HC0.out.Q 12
  have t13 : w4.cell? ⟨w2.heap.size, 13, none⟩ = some (.int .i64 0) := (blk_cell HC0.out.Q 13).trans rfl
  have f13 := blk_frozen HC0.out.Q 13
  have t14 : w4.cell? ⟨w2.heap.size, 14, none⟩ = some (.int .i64 0) := (blk_cell HC0.out.Q 14).trans rfl
  have f14 := blk_frozen HC0.out.Q 14
  have t15 : w4.cell? ⟨w2.heap.size, 15, none⟩ = some (.int .i64 0) := (blk_cell HC0.out.Q 15).trans rfl
  have f15 := blk_frozen HC0.out.Q 15
  go_upto_region 14 with (first
    | (go_at_call 49; clear T0; refine (number_calls (D := D) 9 4 _ _ l HR4.out (by decide)).mono ?_; rw [HX_9_4.out]; rintro e w9 ⟨rfl, hw⟩; rw [hw]; clear hw w9; have T1 := Lib.hid trivial)
    | (go_at_call 49; clear T1; refine (number_calls (D := D) 13 1 _ _ l HR4.out (by decide)).mono ?_; rw [HX_13_1.out]; rintro e w9 ⟨rfl, hw⟩; rw [hw]; clear hw w9; have T2 := Lib.hid trivial)
    | (go_at_call 49; clear T2; refine (number_calls (D := D) 14 1 _ _ l HR4.out (by decide)).mono ?_; rw [HX_14_1.out]; rintro e w9 ⟨rfl, hw⟩; rw [hw]; clear hw w9; have T3 := Lib.hid trivial)
    | (go_at_call 49; clear T3; refine (number_calls (D := D) 15 1 _ _ l HR4.out (by decide)).mono ?_; rw [HX_15_1.out]; rintro e w9 ⟨rfl, hw⟩; rw [hw]; clear hw w9; have T4 := Lib.hid trivial)
    | (go_at_call 49; clear T4; refine (number_calls (D := D) 16 1 _ _ l HR4.out (by decide)).mono ?_; rw [HX_16_1.out]; rintro e w9 ⟨rfl, hw⟩; rw [hw]; clear hw w9; have T5 := Lib.hid trivial))
  have HC1 := Lib.hid (((((HC0.out.put 11 (.int .i64 x_9_4) (Pk.mk 2 x_1_2 x_3_1 x_4_5 false 0 0 0 0 0 [] x_9_4 0 0 0 0 0 0 0 0) (.slice none 0 0) rfl).put 12 (.int .i64 x_13_1) (Pk.mk 2 x_1_2 x_3_1 x_4_5 false 0 0 0 0 0 [] x_9_4 x_13_1 0 0 0 0 0 0 0) (.slice none 0 0) rfl).put 13 (.int .i64 x_14_1) (Pk.mk 2 x_1_2 x_3_1 x_4_5 false 0 0 0 0 0 [] x_9_4 x_13_1 x_14_1 0 0 0 0 0 0) (.slice none 0 0) rfl).put 14 (.int .i64 x_15_1) (Pk.mk 2 x_1_2 x_3_1 x_4_5 false 0 0 0 0 0 [] x_9_4 x_13_1 x_14_1 x_15_1 0 0 0 0 0) (.slice none 0 0) rfl).put 15 (.int .i64 x_16_1) (Pk.mk 2 x_1_2 x_3_1 x_4_5 false 0 0 0 0 0 [] x_9_4 x_13_1 x_14_1 x_15_1 x_16_1 0 0 0 0) (.slice none 0 0) rfl)
  clear t11 f11 t12 f12 t13 f13 t14 f14 t15 f15
  generalize (((((w4.setCell ⟨w2.heap.size, 11, none⟩ (.int .i64 x_9_4)).setCell ⟨w2.heap.size, 12, none⟩ (.int .i64 x_13_1)).setCell ⟨w2.heap.size, 13, none⟩ (.int .i64 x_14_1)).setCell ⟨w2.heap.size, 14, none⟩ (.int .i64 x_15_1)).setCell ⟨w2.heap.size, 15, none⟩ (.int .i64 x_16_1)) = x1 at HC1 ⊢
  have HR5 : Hid (RdB D x1 v l) := Lib.hid (HR.out.keep (fun k hk => HC1.out.B.block k (HD.out k hk)))
  clear HC0 HR4
  have t16 : x1.cell? ⟨w2.heap.size, 16, none⟩ = some (.int .i64 0) := (blk_cell HC1.out.Q 16).trans rfl
  have f16 := blk_frozen HC1.out.Q 16
  go_upto_region 15 with (first
    | (go_at_call 49; refine (number_calls (D := D) 17 1 _ _ l HR5.out (by decide)).mono ?_; rw [HX_17_1.out]; rintro e w9 ⟨rfl, hw⟩; rw [hw]; clear hw w9))
  have HC2 := Lib.hid (HC1.out.put 16 (.int .i64 x_17_1) (Pk.mk 2 x_1_2 x_3_1 x_4_5 false 0 0 0 0 0 [] x_9_4 x_13_1 x_14_1 x_15_1 x_16_1 x_17_1 0 0 0) (.slice none 0 0) rfl)
  clear t16 f16
  generalize (x1.setCell ⟨w2.heap.size, 16, none⟩ (.int .i64 x_17_1)) = x2 at HC2 ⊢
  have HR6 : Hid (RdB D x2 v l) := Lib.hid (HR.out.keep (fun k hk => HC2.out.B.block k (HD.out k hk)))
  clear HC1 HR5
  have t17 : x2.cell? ⟨w2.heap.size, 17, none⟩ = some (.int .i64 0) := (blk_cell HC2.out.Q 17).trans rfl
  have f17 := blk_frozen HC2.out.Q 17
  go_upto_region 16 with (first
    | (go_at_call 49; refine (number_calls (D := D) 18 2 _ _ l HR6.out (by decide)).mono ?_; rw [HX_18_2.out]; rintro e w9 ⟨rfl, hw⟩; rw [hw]; clear hw w9))
  have HC3 := Lib.hid (HC2.out.put 17 (.int .i64 (wrap64 (x_18_2 + 1))) (Pk.mk 2 x_1_2 x_3_1 x_4_5 false 0 0 0 0 0 [] x_9_4 x_13_1 x_14_1 x_15_1 x_16_1 x_17_1 (wrap64 (x_18_2 + 1)) 0 0) (.slice none 0 0) rfl)
  clear t17 f17
  generalize (x2.setCell ⟨w2.heap.size, 17, none⟩ (.int .i64 (wrap64 (x_18_2 + 1)))) = x3 at HC3 ⊢
  have HR7 : Hid (RdB D x3 v l) := Lib.hid (HR.out.keep (fun k hk => HC3.out.B.block k (HD.out k hk)))
  clear HC2 HR6
  rw [HES.out] at HC3
  have t18 : x3.cell? ⟨w2.heap.size, 18, none⟩ = some (.int .i64 0) := (blk_cell HC3.out.Q 18).trans rfl
  have f18 := blk_frozen HC3.out.Q 18
  go_upto_region 17 with (first
    | (go_at_call 49; refine (number_calls (D := D) 20 2 _ _ l HR7.out (by decide)).mono ?_; rw [HX_20_2.out]; rintro e w9 ⟨rfl, hw⟩; rw [hw]; clear hw w9))
  have HC4 := Lib.hid (HC3.out.put 18 (.int .i64 x_20_2) (Pk.mk 2 x_1_2 x_3_1 x_4_5 false 0 0 0 0 0 [] x_9_4 x_13_1 x_14_1 x_15_1 x_16_1 x_17_1 (x_18_2 + 1) x_20_2 0) (.slice none 0 0) rfl)
  clear t18 f18
  generalize (x3.setCell ⟨w2.heap.size, 18, none⟩ (.int .i64 x_20_2)) = x4 at HC4 ⊢
  have HR8 : Hid (RdB D x4 v l) := Lib.hid (HR.out.keep (fun k hk => HC4.out.B.block k (HD.out k hk)))
  clear HC3 HR7
  have t19 : x4.cell? ⟨w2.heap.size, 19, none⟩ = some (.int .i64 0) := (blk_cell HC4.out.Q 19).trans rfl
  have f19 := blk_frozen HC4.out.Q 19
  go_upto_region 18 with (first
    | (go_at_call 49; refine (number_calls (D := D) 22 2 _ _ l HR8.out (by decide)).mono ?_; rw [HX_22_2.out]; rintro e w9 ⟨rfl, hw⟩; rw [hw]; clear hw w9))
  have HC5 := Lib.hid (HC4.out.put 19 (.int .i64 x_22_2) (Pk.mk 2 x_1_2 x_3_1 x_4_5 false 0 0 0 0 0 [] x_9_4 x_13_1 x_14_1 x_15_1 x_16_1 x_17_1 (x_18_2 + 1) x_20_2 x_22_2) (.slice none 0 0) rfl)
  clear t19 f19
  generalize (x4.setCell ⟨w2.heap.size, 19, none⟩ (.int .i64 x_22_2)) = x5 at HC5 ⊢
  have HR9 : Hid (RdB D x5 v l) := Lib.hid (HR.out.keep (fun k hk => HC5.out.B.block k (HD.out k hk)))
  clear HC4 HR8
  go_wp2_with (first
    | ((with_reducible refine gate_dst (N := 72) rfl ?_); refine wp_ldpk rfl (.tmp 5) rfl rfl HC5.out.Q ?_)
    | ((with_reducible refine gate_store (t := 26) (p := 4) rfl ?_)
       refine wp_stpk (p := Pk.mk 2 x_1_2 x_3_1 x_4_5 false 0 0 0 0 0 [] x_9_4 x_13_1 x_14_1 x_15_1 x_16_1 x_17_1 (x_18_2 + 1) x_20_2 x_22_2) (A := none) (L := 0) (c := 0) rfl rfl rfl rfl HC5.out.R rfl ?_
       intro y4 hP hO
       have HE4 := Lib.hid (And.intro hP hO)
       clear hP hO))
  (try simp only [Exit.inBlock, Exit.then])
  refine bodyPost_ret (results_c1 rfl _ _ w.heap.size _ _ _ _ rfl HE4.out.1 Tryd.underlying26 rfl (show (Tryd.prog.info? 26).map (·.size) = some 20 by kernel_rfl)) rfl ?_
  exact ⟨(.slice none 0 0), by rw [HGS.out]; rfl, by rw [HGS.out]; exact OB.nil _ _, HE4.out.2.below HC5.out.B HC5.out.h1⟩
end
section
open Go.RowKit Go.Deep Go.Proofs.YtfcofokbhhnfkaaDoor.Er Go.Proofs.YtfcofokbhhnfkaaDoorW.PrintWords Go.Proofs.YtfcofokbhhnfkaaDoorW.PrintLast Go.Proofs.YtfcofokbhhnfkaaDoorW.PrintMore
set_option maxHeartbeats 8000000 in
set_option maxRecDepth 100000 in
theorem rtake_calls {D : Nat → Prop} (w : World) (v : Value) (l : List Int) (hl : RdB D w v l) (hD : ∀ k, D k → k < w.heap.size) :
    Calls Tryd.prog 32 #[v] w fun e w' => ∃ v', e = .returned (.tuple #[v', .int .i64 (takeE l)]) ∧ RdB D w' v' (takeL l) ∧ Below w.heap.size w w' := by
  have HR := Lib.hid hl
  have HD := Lib.hid hD
  obtain ⟨A, c, rfl, hc1, hc2, hlt, _⟩ := hl
  have HLT := Lib.hid hlt
  obtain ⟨m, hm⟩ : ∃ m, m = l.length := ⟨_, rfl⟩
  have HM := Lib.hid hm
  rw [← hm] at HR hc1 hc2 ⊢
  obtain ⟨te, hte⟩ : ∃ te, te = takeE l := ⟨_, rfl⟩
  obtain ⟨tl, htl⟩ : ∃ tl, tl = takeL l := ⟨_, rfl⟩
  rw [← hte, ← htl]
  by_cases h4 : m < 4
  · have HE : Hid (te = 2 ∧ tl = []) := Lib.hid (by
      have e : takeE l = 2 := by unfold takeE; rw [if_pos (by omega)]
      exact ⟨hte.trans e, by rw [htl]; unfold takeL; rw [e, if_neg (by decide)]⟩)
    have d1 : decide (m < 4) = true := decide_eq_true h4
    have d2 : decide ((m : Int) < 4) = true := decide_eq_true (by omega)
    clear hm hD hlt hte htl h4
    go_enter Tryd.func32, Tryd.ntmps32
    go_wp2
    go_ret2
    exact ⟨.slice none 0 0, by rw [HE.out.1]; rfl, by rw [HE.out.2]; exact ⟨none, 0, rfl, Nat.le_refl _, (show 0 ≤ 140737488355328 by decide), (fun x hx => by cases hx), fun e => absurd rfl e⟩, Below.refl _ _⟩
  · have d1 : decide (m < 4) = false := decide_eq_false h4
    have d2 : decide ((m : Int) < 4) = false := decide_eq_false (by omega)
    obtain ⟨iU, hiU, hU0, hU1, hU2⟩ := info_parts infoU
    obtain ⟨mm, hmm⟩ : ∃ mm, mm = m - 4 := ⟨_, rfl⟩
    have HMM := Lib.hid hmm
    have hge4 : 4 ≤ m := by omega
    have hge4i : (4 : Int) ≤ (m : Int) := by omega
    have hsub : (0 : Int) ≤ (m : Int) - 4 ∧ (m : Int) - 4 ≤ (c : Int) := by omega
    have hwm : wrap64 ((m : Int) - 4) = (mm : Int) := by rw [w64 ⟨by omega, by omega⟩]; omega
    have hmc : mm ≤ c := by omega
    have hmc2 : (mm : Int) ≤ (c : Int) := by omega
    have hcut := cut_to (P := Tryd.prog) 22 5 .i64 (i := iU) Tryd.underlying22 hiU A m c (mm : Int) (by omega) (by omega) hc1
    rw [show ((mm : Int)).toNat = mm from rfl] at hcut
    have hlt4 : (l.take mm).length = mm := by rw [List.length_take]; omega
    have HT4 := Lib.hid hlt4
    have HEQ : Hid (takeE l = if addI (l.take mm) = l then 0 else 6) := Lib.hid (by unfold takeE; rw [if_neg (by omega), ← hm, ← hmm])
    have HRT := Lib.hid (HR.out.take mm (by omega))
    have HLA : Hid ((l.take mm).length + 4 ≤ 140737488355328) := Lib.hid (by omega)
    obtain ⟨s1, hs1⟩ : ∃ s, s = strOfNums (addI (l.take mm)) := ⟨_, rfl⟩
    obtain ⟨s2, hs2⟩ : ∃ s, s = strOfNums l := ⟨_, rfl⟩
    have HS1 : Hid (strOfNums (addI (l.take mm)) = s1) := Lib.hid hs1.symm
    have HS2 : Hid (strOfNums l = s2) := Lib.hid hs2.symm
    have hcmp : (s1.toList == s2.toList) = decide (addI (l.take mm) = l) := by
      rw [hs1, hs2]
      exact str_eq (addI_lt (fun x hx => HLT.out x (List.mem_of_mem_take hx))) HLT.out
    by_cases heq : addI (l.take mm) = l
    · have HE : Hid (te = 0 ∧ tl = l.take mm) := Lib.hid (by
        have e : takeE l = 0 := by rw [HEQ.out, if_pos heq]
        exact ⟨hte.trans e, by rw [htl]; unfold takeL; rw [if_pos e, ← HM.out, ← hmm]⟩)
      rw [decide_eq_true heq] at hcmp
      have hcmp2 : (s1.toList != s2.toList) = false := by simp [bne, hcmp]
      clear hm hD hlt hte htl h4 hlt4 hs1 hs2 heq HEQ hmm
      go_enter Tryd.func32, Tryd.ntmps32
      go_upto_region 3 with (fail)
      refine start_ (n := 10) (S := fun w' => Below w.heap.size w w') (ds := []) #[false, false, false, false, false, false, false, false, false, false] (by kernel_rfl) rfl rfl (Below.refl _ _).drew (fun hHeld => ?_)
      refine pure_ (i := 0) (N := some 7) (v := ?_) (a' := ?_) #[true, false, false, false, false, false, false, false, false, false] rfl rfl (by kernel_rfl) (fun _ _ _ h => h) (Or.inl ⟨by rfl, ?_⟩) ?_ ?_
      rotate_left
      · intro w'
        go_simp
        with_reducible rfl
      rotate_left
      · simp only [Act.put, List.setIfInBounds_toArray, List.set_cons_zero, List.set_cons_succ, i64_w, i32_w]
        rfl
      refine pure_ (i := 1) (N := some 8) (v := ?_) (a' := ?_) #[true, true, false, false, false, false, false, false, false, false] rfl rfl (by kernel_rfl) (fun _ _ _ h => h) (Or.inl ⟨by rfl, ?_⟩) ?_ ?_
      rotate_left
      · intro w'
        go_simp
        with_reducible rfl
      rotate_left
      · simp only [Act.put, List.setIfInBounds_toArray, List.set_cons_zero, List.set_cons_succ, i64_w, i32_w]
        rfl
      refine pure_ (i := 2) (N := some 9) (v := ?_) (a' := ?_) #[true, true, true, false, false, false, false, false, false, false] rfl rfl (by kernel_rfl) (fun _ _ _ h => h) (Or.inl ⟨by rfl, ?_⟩) ?_ ?_
      rotate_left
      · intro w'
        go_simp
        with_reducible rfl
      rotate_left
      · simp only [Act.put, List.setIfInBounds_toArray, List.set_cons_zero, List.set_cons_succ, i64_w, i32_w]
        rfl
      refine pure_ (i := 3) (N := some 10) (v := ?_) (a' := ?_) #[true, true, true, true, false, false, false, false, false, false] rfl rfl (by kernel_rfl) (fun _ _ _ h => h) (Or.inl ⟨by rfl, ?_⟩) ?_ ?_
      rotate_left
      · intro w'
        go_simp
        with_reducible rfl
      rotate_left
      · simp only [Act.put, List.setIfInBounds_toArray, List.set_cons_zero, List.set_cons_succ, i64_w, i32_w]
        rfl
      refine pure_ (i := 4) (N := some 11) (v := ?_) (a' := ?_) #[true, true, true, true, true, false, false, false, false, false] rfl rfl (by kernel_rfl) (fun _ _ _ h => h) (Or.inl ⟨by rfl, ?_⟩) ?_ ?_
      rotate_left
      · intro w'
        go_simp
        with_reducible rfl
      rotate_left
      · simp only [Act.put, List.setIfInBounds_toArray, List.set_cons_zero, List.set_cons_succ, i64_w, i32_w]
        rfl
      refine pure_ (i := 7) (N := some 14) (v := ?_) (a' := ?_) #[true, true, true, true, true, false, false, true, false, false] rfl rfl (by kernel_rfl) (fun _ _ _ h => h) (Or.inl ⟨by rfl, ?_⟩) ?_ ?_
      rotate_left
      · intro w'
        go_simp
        with_reducible rfl
      rotate_left
      · simp only [Act.put, List.setIfInBounds_toArray, List.set_cons_zero, List.set_cons_succ, i64_w, i32_w]
        rfl
      refine take_ (i := 8) (N := some 15) (v := .string s2) #[true, true, true, true, true, false, false, true, true, false] rfl rfl (by kernel_rfl) (fun _ _ _ h => h) (Or.inl ⟨by rfl, fun w' hs => run_cnv (.tmp 14) rfl rfl (HS2.out ▸ (HR.out.keep (fun k hk => hs.block k (HD.out k hk))).str)⟩) hHeld rfl ?_
      refine norm_ (a' := ?_) ?_ ?_
      rotate_left
      · show Act.put _ (some 15) _ = _
        simp only [Act.put, List.setIfInBounds_toArray, List.set_cons_zero, List.set_cons_succ, i64_w, i32_w]
        rfl
      refine one_ (i := 5) (N := some 12) #[true, true, true, true, true, true, false, true, true, false] rfl rfl (by kernel_rfl) (by decide) (fun K hK => ?_)
      refine call_ 28 #[.slice A mm c] (by rfl) rfl ?_ ?_
      · have he := enters_ (P := Tryd.prog) Tryd.func28 (by kernel_rfl) rfl #[.slice A mm c] w.drew
        unfold execOp
        simp [resolve, Deferred.ofValue, invoke, Act.eval, he]
      refine (radd_calls (D := D) w.drew (.slice A mm c) (l.take mm) (HRT.out.keep (fun k hk => hHeld.block k (HD.out k hk))) (fun k hk => Nat.lt_of_lt_of_le (HD.out k hk) hHeld.size) HLA.out).mono ?_
      rintro e w5 ⟨v5, rfl, ho, hb⟩
      refine ⟨_, rfl, ?_⟩
      have hH5x := hHeld.trans (hb.mono hHeld.size)
      have hs5 := ho.rb.rdt.str
      rw [HS1.out] at hs5
      clear ho hb
      refine hK.out _ _ hH5x (fun hH5 => ?_)
      clear hK K hH5x hHeld
      refine norm_ (a' := ?_) ?_ ?_
      rotate_left
      · show Act.put _ (some 12) _ = _
        simp only [Act.put, List.setIfInBounds_toArray, List.set_cons_zero, List.set_cons_succ, i64_w, i32_w]
        rfl
      refine one_ (i := 6) (N := some 13) #[true, true, true, true, true, true, true, true, true, false] rfl rfl (by kernel_rfl) (by decide) (fun K hK => ?_)
      refine value_ (by rfl) rfl (run_cnv (.tmp 12) rfl rfl hs5) ?_
      refine hK.out _ _ hH5 (fun _ => ?_)
      clear hK K
      refine norm_ (a' := ?_) ?_ ?_
      rotate_left
      · show Act.put _ (some 13) _ = _
        simp only [Act.put, List.setIfInBounds_toArray, List.set_cons_zero, List.set_cons_succ, i64_w, i32_w]
        rfl
      refine pure_ (i := 9) (N := some 16) (v := ?_) (a' := ?_) #[true, true, true, true, true, true, true, true, true, true] rfl rfl (by kernel_rfl) (fun _ _ _ h => h) (Or.inl ⟨by rfl, ?_⟩) ?_ ?_
      rotate_left
      · intro w'
        go_simp
        with_reducible rfl
      rotate_left
      · simp only [Act.put, List.setIfInBounds_toArray, List.set_cons_zero, List.set_cons_succ, i64_w, i32_w]
        rfl
      refine done_ (by kernel_rfl) ?_
      go_wp2
      go_ret2
      exact ⟨.slice A (m - 4) c, by rw [HE.out.1]; rfl, by rw [HE.out.2, ← HMM.out]; exact HRT.out.keep (fun k hk => hH5.block k (HD.out k hk)), hH5⟩
    · have HE : Hid (te = 6 ∧ tl = []) := Lib.hid (by
        have e : takeE l = 6 := by rw [HEQ.out, if_neg heq]
        exact ⟨hte.trans e, by rw [htl]; unfold takeL; rw [e, if_neg (by decide)]⟩)
      rw [decide_eq_false heq] at hcmp
      have hcmp2 : (s1.toList != s2.toList) = true := by simp [bne, hcmp]
      clear hm hD hlt hte htl h4 hlt4 hs1 hs2 heq HEQ hmm
      go_enter Tryd.func32, Tryd.ntmps32
      go_upto_region 3 with (fail)
      refine start_ (n := 10) (S := fun w' => Below w.heap.size w w') (ds := []) #[false, false, false, false, false, false, false, false, false, false] (by kernel_rfl) rfl rfl (Below.refl _ _).drew (fun hHeld => ?_)
      refine pure_ (i := 0) (N := some 7) (v := ?_) (a' := ?_) #[true, false, false, false, false, false, false, false, false, false] rfl rfl (by kernel_rfl) (fun _ _ _ h => h) (Or.inl ⟨by rfl, ?_⟩) ?_ ?_
      rotate_left
      · intro w'
        go_simp
        with_reducible rfl
      rotate_left
      · simp only [Act.put, List.setIfInBounds_toArray, List.set_cons_zero, List.set_cons_succ, i64_w, i32_w]
        rfl
      refine pure_ (i := 1) (N := some 8) (v := ?_) (a' := ?_) #[true, true, false, false, false, false, false, false, false, false] rfl rfl (by kernel_rfl) (fun _ _ _ h => h) (Or.inl ⟨by rfl, ?_⟩) ?_ ?_
      rotate_left
      · intro w'
        go_simp
        with_reducible rfl
      rotate_left
      · simp only [Act.put, List.setIfInBounds_toArray, List.set_cons_zero, List.set_cons_succ, i64_w, i32_w]
        rfl
      refine pure_ (i := 2) (N := some 9) (v := ?_) (a' := ?_) #[true, true, true, false, false, false, false, false, false, false] rfl rfl (by kernel_rfl) (fun _ _ _ h => h) (Or.inl ⟨by rfl, ?_⟩) ?_ ?_
      rotate_left
      · intro w'
        go_simp
        with_reducible rfl
      rotate_left
      · simp only [Act.put, List.setIfInBounds_toArray, List.set_cons_zero, List.set_cons_succ, i64_w, i32_w]
        rfl
      refine pure_ (i := 3) (N := some 10) (v := ?_) (a' := ?_) #[true, true, true, true, false, false, false, false, false, false] rfl rfl (by kernel_rfl) (fun _ _ _ h => h) (Or.inl ⟨by rfl, ?_⟩) ?_ ?_
      rotate_left
      · intro w'
        go_simp
        with_reducible rfl
      rotate_left
      · simp only [Act.put, List.setIfInBounds_toArray, List.set_cons_zero, List.set_cons_succ, i64_w, i32_w]
        rfl
      refine pure_ (i := 4) (N := some 11) (v := ?_) (a' := ?_) #[true, true, true, true, true, false, false, false, false, false] rfl rfl (by kernel_rfl) (fun _ _ _ h => h) (Or.inl ⟨by rfl, ?_⟩) ?_ ?_
      rotate_left
      · intro w'
        go_simp
        with_reducible rfl
      rotate_left
      · simp only [Act.put, List.setIfInBounds_toArray, List.set_cons_zero, List.set_cons_succ, i64_w, i32_w]
        rfl
      refine pure_ (i := 7) (N := some 14) (v := ?_) (a' := ?_) #[true, true, true, true, true, false, false, true, false, false] rfl rfl (by kernel_rfl) (fun _ _ _ h => h) (Or.inl ⟨by rfl, ?_⟩) ?_ ?_
      rotate_left
      · intro w'
        go_simp
        with_reducible rfl
      rotate_left
      · simp only [Act.put, List.setIfInBounds_toArray, List.set_cons_zero, List.set_cons_succ, i64_w, i32_w]
        rfl
      refine take_ (i := 8) (N := some 15) (v := .string s2) #[true, true, true, true, true, false, false, true, true, false] rfl rfl (by kernel_rfl) (fun _ _ _ h => h) (Or.inl ⟨by rfl, fun w' hs => run_cnv (.tmp 14) rfl rfl (HS2.out ▸ (HR.out.keep (fun k hk => hs.block k (HD.out k hk))).str)⟩) hHeld rfl ?_
      refine norm_ (a' := ?_) ?_ ?_
      rotate_left
      · show Act.put _ (some 15) _ = _
        simp only [Act.put, List.setIfInBounds_toArray, List.set_cons_zero, List.set_cons_succ, i64_w, i32_w]
        rfl
      refine one_ (i := 5) (N := some 12) #[true, true, true, true, true, true, false, true, true, false] rfl rfl (by kernel_rfl) (by decide) (fun K hK => ?_)
      refine call_ 28 #[.slice A mm c] (by rfl) rfl ?_ ?_
      · have he := enters_ (P := Tryd.prog) Tryd.func28 (by kernel_rfl) rfl #[.slice A mm c] w.drew
        unfold execOp
        simp [resolve, Deferred.ofValue, invoke, Act.eval, he]
      refine (radd_calls (D := D) w.drew (.slice A mm c) (l.take mm) (HRT.out.keep (fun k hk => hHeld.block k (HD.out k hk))) (fun k hk => Nat.lt_of_lt_of_le (HD.out k hk) hHeld.size) HLA.out).mono ?_
      rintro e w5 ⟨v5, rfl, ho, hb⟩
      refine ⟨_, rfl, ?_⟩
      have hH5x := hHeld.trans (hb.mono hHeld.size)
      have hs5 := ho.rb.rdt.str
      rw [HS1.out] at hs5
      clear ho hb
      refine hK.out _ _ hH5x (fun hH5 => ?_)
      clear hK K hH5x hHeld
      refine norm_ (a' := ?_) ?_ ?_
      rotate_left
      · show Act.put _ (some 12) _ = _
        simp only [Act.put, List.setIfInBounds_toArray, List.set_cons_zero, List.set_cons_succ, i64_w, i32_w]
        rfl
      refine one_ (i := 6) (N := some 13) #[true, true, true, true, true, true, true, true, true, false] rfl rfl (by kernel_rfl) (by decide) (fun K hK => ?_)
      refine value_ (by rfl) rfl (run_cnv (.tmp 12) rfl rfl hs5) ?_
      refine hK.out _ _ hH5 (fun _ => ?_)
      clear hK K
      refine norm_ (a' := ?_) ?_ ?_
      rotate_left
      · show Act.put _ (some 13) _ = _
        simp only [Act.put, List.setIfInBounds_toArray, List.set_cons_zero, List.set_cons_succ, i64_w, i32_w]
        rfl
      refine pure_ (i := 9) (N := some 16) (v := ?_) (a' := ?_) #[true, true, true, true, true, true, true, true, true, true] rfl rfl (by kernel_rfl) (fun _ _ _ h => h) (Or.inl ⟨by rfl, ?_⟩) ?_ ?_
      rotate_left
      · intro w'
        go_simp
        with_reducible rfl
      rotate_left
      · simp only [Act.put, List.setIfInBounds_toArray, List.set_cons_zero, List.set_cons_succ, i64_w, i32_w]
        rfl
      refine done_ (by kernel_rfl) ?_
      go_wp2
      go_ret2
      exact ⟨.slice none 0 0, by rw [HE.out.1]; rfl, by rw [HE.out.2]; exact ⟨none, 0, rfl, Nat.le_refl _, (show 0 ≤ 140737488355328 by decide), (fun x hx => by cases hx), fun e => absurd rfl e⟩, hH5⟩
end
section
open Go.RowKit Go.Deep Go.Proofs.YtfcofokbhhnfkaaDoor.Er Go.Proofs.YtfcofokbhhnfkaaDoorW.PrintWords Go.Proofs.YtfcofokbhhnfkaaDoorW.PrintLast Go.Proofs.YtfcofokbhhnfkaaDoorW.PrintMore
/-- On the way through the reference's Get. -/
structure GR (w : World) (D : Nat → Prop) (vB : Value) (B : List Int) (W : World) : Prop where
  R : PkAt W w.heap.size pk0 (.slice none 0 0)
  B : RdB D W vB B
  be : Below w.heap.size w W
theorem GR.below {w : World} {D : Nat → Prop} {vB : Value} {B : List Int} {W W' : World} (h : GR w D vB B W) (hD : ∀ k, D k → k < w.heap.size) (hb : Below W.heap.size W W') : GR w D vB B W' := ⟨h.R.below hb, h.B.keep (fun k hk => hb.block k (Nat.lt_of_lt_of_le (hD k hk) h.be.size)), h.be.trans (hb.mono h.be.size)⟩
theorem RdB.lift {D : Nat → Prop} {w W : World} {v : Value} {l : List Int} (h : RdB D W v l) (hD : ∀ k, D k → k < W.heap.size) : RdB (fun k => k < W.heap.size) W v l := by
  obtain ⟨A, c, h1, h2, h3, h4, h5⟩ := h
  refine ⟨A, c, h1, h2, h3, h4, fun hne => ?_⟩
  obtain ⟨a, e, hd, hx⟩ := h5 hne
  exact ⟨a, e, hD _ hd, hx⟩
/-- The same, with the guess in its box (at pb). -/
structure GS2 (w : World) (D : Nat → Prop) (vB : Value) (B : List Int) (w6 : World) (q : Pk) (v : Value) (W : World) : Prop where
  G : GR w D vB B W
  P : PkAt W w6.heap.size q v
  D : OB w.heap.size W v q.data
theorem GS2.below {w : World} {D : Nat → Prop} {vB : Value} {B : List Int} {w6 : World} {q : Pk} {v : Value} {W W' : World} (h : GS2 w D vB B w6 q v W) (hD : ∀ k, D k → k < w.heap.size) (hb : Below W.heap.size W W') : GS2 w D vB B w6 q v W' := ⟨h.G.below hD hb, h.P.below hb, h.D.below hb⟩
theorem GS2.drew {w : World} {D : Nat → Prop} {vB : Value} {B : List Int} {w6 : World} {q : Pk} {v : Value} {W : World} (h : GS2 w D vB B w6 q v W) (hD : ∀ k, D k → k < w.heap.size) : GS2 w D vB B w6 q v W.drew := h.below hD (Below.refl _ _).drew
theorem guess_lt {B : List Int} (hB : ∀ x ∈ B, 0 ≤ x ∧ x < 256) (k : Int) (hk : k = 1 ∨ k = 2) : ∀ x ∈ (guessP B k).data, 0 ≤ x ∧ x < 256 := by
  unfold guessP
  rcases hk with rfl | rfl
  · rw [if_pos rfl]; exact fun x hx => hB x (List.mem_of_mem_drop hx)
  · rw [if_neg (by decide)]; intro x hx; cases hx
def GetQ (w : World) (l : List Int) (e : Ending) (w' : World) : Prop := ∃ v', e = .returned (.tuple #[pkV (getP l) v', .int .i64 (getE l)]) ∧ OB w.heap.size w' v' (getP l).data ∧ Below w.heap.size w w'
set_option maxHeartbeats 16000000 in
set_option maxRecDepth 100000 in
theorem rget_calls {D : Nat → Prop} (w : World) (v : Value) (l : List Int) (hl : RdB D w v l) (hD : ∀ k, D k → k < w.heap.size) : Calls Tryd.prog 15 #[v] w (GetQ w l) := by
  have HR := Lib.hid hl
  have HD := Lib.hid hD
  obtain ⟨n, hn⟩ : ∃ n, n = takeE l := ⟨_, rfl⟩
  have HN : Hid (takeE l = n) := Lib.hid hn.symm
  obtain ⟨B, hB⟩ : ∃ B, B = takeL l := ⟨_, rfl⟩
  have HB : Hid (takeL l = B ∧ ∀ x ∈ B, 0 ≤ x ∧ x < 256) := Lib.hid ⟨hB.symm, by rw [hB]; exact takeL_lt hl.lt⟩
  by_cases h0 : n = 0
  rotate_left
  · have f1 : (n != 0) = true := bne_iff_ne.2 h0
    have f2 : (n == 0) = false := beq_eq_false_iff_ne.2 h0
    have HQ : Hid (getP l = pk0 ∧ getE l = n) := Lib.hid ⟨if_neg (by rw [HN.out]; exact h0), by unfold getE; rw [if_neg (by rw [HN.out]; exact h0), HN.out]⟩
    clear hl hD hn hB h0
    go_enter Tryd.func15, Tryd.ntmps15
    go_wp2_with (first
      | ((with_reducible refine gate_dst (N := 2) rfl ?_); refine wp_allocPk rfl rfl ?_; intro w1 hP hB hs; have H1 := Lib.hid (And.intro hP hB); clear hP hB hs)
      | (go_at_call 32; refine (rtake_calls (D := D) _ v l (HR.out.keep (fun k hk => H1.out.2.block k (HD.out k hk))) (fun k hk => Nat.lt_of_lt_of_le (HD.out k hk) H1.out.2.size)).mono ?_; rw [HN.out]; rintro e w2 ⟨v2, rfl, hr, hb⟩; have H2 := Lib.hid (And.intro (H1.out.1.below hb) (H1.out.2.trans (hb.mono H1.out.2.size))); clear hr hb)
      | ((with_reducible refine gate_store (t := 26) (p := 2) rfl ?_)
         refine wp_stpk (p := pk0) (A := none) (L := 0) (c := 0) rfl rfl rfl rfl H2.out.1 rfl ?_
         intro w4 hP hO
         have HE4 := Lib.hid (And.intro hP hO)
         clear hP hO))
    (try simp only [Exit.inBlock, Exit.then])
    refine bodyPost_ret (results_ct rfl _ _ w.heap.size _ _ _ _ rfl HE4.out.1 Tryd.underlying26 rfl (show (Tryd.prog.info? 26).map (·.size) = some 20 by kernel_rfl)) rfl ?_
    exact ⟨.slice none 0 0, by rw [HQ.out.1, HQ.out.2]; rfl, by rw [HQ.out.1]; exact OB.nil _ _, HE4.out.2.below H2.out.2 (Nat.le_refl _)⟩
  have HG : Hid (getP l = (bodyG B).1 ∧ getE l = (bodyG B).2) := Lib.hid ⟨by rw [hB]; exact if_pos (by rw [HN.out]; exact h0), by rw [hB]; exact if_pos (by rw [HN.out]; exact h0)⟩
  subst h0
  clear hl hD hn hB
  go_enter Tryd.func15, Tryd.ntmps15
  go_wp2_with (first
    | ((with_reducible refine gate_dst (N := 2) rfl ?_); refine wp_allocPk rfl rfl ?_; intro w1 hP hB hs; have H1 := Lib.hid (And.intro hP hB); clear hP hB hs)
    | (go_at_call 32; refine (rtake_calls (D := D) _ v l (HR.out.keep (fun k hk => H1.out.2.block k (HD.out k hk))) (fun k hk => Nat.lt_of_lt_of_le (HD.out k hk) H1.out.2.size)).mono ?_; rw [HN.out, HB.out.1]; rintro e w2 ⟨v2, rfl, hr, hb⟩; have H2 : Hid (GR w D v2 B w2) := Lib.hid ⟨H1.out.1.below hb, hr, H1.out.2.trans (hb.mono H1.out.2.size)⟩; clear hr hb))
  go_loopg [6, 7] 3 (fun kq v6 v7 wr => ∃ k : Nat, v6 = .int .i64 k ∧ Hid (kq = 4 - k ∧ (k = 1 ∨ k = 2 ∧ ¬ hitG B 1 ∨ k = 3 ∧ ¬ hitG B 1 ∧ ¬ hitG B 2)) ∧ Hid (GR w D v2 B wr))
  case atStart => exact ⟨1, rfl, Lib.hid ⟨rfl, .inl rfl⟩, H2⟩
  case round =>
    obtain ⟨k, rfl, HK, HS⟩ := hrel
    obtain ⟨s2, hs2⟩ : ∃ s, s = strOfNums B := ⟨_, rfl⟩
    have HS2 : Hid (strOfNums B = s2) := Lib.hid hs2.symm
    rcases HK.out.2 with hk | hk | hk
    · obtain rfl : k = 1 := hk
      obtain ⟨q, hq⟩ : ∃ q, q = guessP B 1 := ⟨_, rfl⟩
      obtain ⟨d, hd⟩ : ∃ d, d = q.data.length := ⟨_, rfl⟩
      have HGQ : Hid (guessP B 1 = q) := Lib.hid hq.symm
      have HDQ := Lib.hid hd
      have HPB : Hid (PkB q) := Lib.hid (by rw [hq]; exact guess_B HB.out.2 1 (by decide))
      have hhit : hitG B 1 ↔ whyP q = 0 ∧ bodyI q = B := by unfold hitG; rw [← hq]
      have hokd : ∀ h : hitG B 1, bodyG B = (q, 0) := fun h => by rw [hq]; exact hit_ok h
      have HOKD := Lib.hid hokd
      by_cases hw : whyP q = 0
      rotate_left
      · obtain ⟨wn, hwn⟩ : ∃ n, n = whyP q := ⟨_, rfl⟩
        have HW : Hid (whyP q = wn) := Lib.hid hwn.symm
        have f1 : (wn == 0) = false := beq_eq_false_iff_ne.2 (by rw [hwn]; exact hw)
        have f3 : (wn != 0) = true := bne_iff_ne.2 (by rw [hwn]; exact hw)
        have HNH : Hid (¬ hitG B 1) := Lib.hid (fun h => hw (hhit.1 h).1)
        clear hw hwn hq hd hhit hs2 hokd
        go_upto_region 8 with (first
          | ((with_reducible refine gate_dst (N := 7) rfl ?_); refine wp_allocPk rfl rfl ?_; intro y5 hP hB hs; have H5 := Lib.hid (And.intro hP hB); clear hP hB hs)
          | ((with_reducible refine gate_store (t := 26) (p := 7) rfl ?_)
             refine wp_stpk (p := q) (A := A5) (L := d) (c := c5) rfl rfl rfl rfl H5.out.1 rfl ?_
             intro w7 hP hO
             have hb := hO.below H5.out.2 (Nat.le_refl _)
             have HC7 : Hid (GS2 w D v2 B w6 q (.slice A5 d c5) w7) := Lib.hid ⟨H6.out.1.below HD.out hb, hP, H6.out.2.below hb⟩
             clear hP hO hb H5 H6)
          | (go_at_call 33; refine (guess1_calls (D := D) _ v2 B HS.out.B (fun k hk => Nat.lt_of_lt_of_le (HD.out k hk) HS.out.be.size)).mono ?_; unfold GesR; rw [HGQ.out]; rintro e w6 ⟨v6, rfl, ho, hb⟩; obtain ⟨A5, c5, rfl, _⟩ := ho.val; rw [← HDQ.out] at ho ⊢; have H6 := Lib.hid (And.intro (HS.out.below HD.out hb) (ho.base HS.out.be.size)); clear ho hb HS))
        refine start_ (n := 11) (S := fun w' => GS2 w D v2 B w6 q (.slice A5 d c5) w') (ds := []) #[false, false, false, false, false, false, false, false, false, false, false] (by kernel_rfl) rfl rfl (HC7.out.drew HD.out) (fun hHeld => ?_)
        refine take_ (i := 0) (N := some 24) (v := pkV q (.slice A5 d c5)) #[true, false, false, false, false, false, false, false, false, false, false] rfl rfl (by kernel_rfl) (fun _ _ _ h => h) (Or.inl ⟨by rfl, fun w' hs => run_ldpk (.tmp 7) rfl rfl hs.P⟩) hHeld rfl ?_
        refine norm_ (a' := ?_) ?_ ?_
        rotate_left
        · show Act.put _ (some 24) _ = _
          simp only [Act.put, List.setIfInBounds_toArray, List.set_cons_zero, List.set_cons_succ, i64_w, i32_w]
          rfl
        refine one_ (i := 1) (N := some 25) #[true, true, false, false, false, false, false, false, false, false, false] rfl rfl (by kernel_rfl) (by decide) (fun K hK => ?_)
        refine call_ 10 #[pkV q (.slice A5 d c5)] (by rfl) rfl ?_ ?_
        · have he := enters_ (P := Tryd.prog) Tryd.func10 (by kernel_rfl) rfl #[pkV q (.slice A5 d c5)] w7.drew
          unfold execOp
          simp [resolve, Deferred.ofValue, invoke, Act.eval, he]
        refine (rcheck_calls q (.slice A5 d c5) w7.drew (hHeld.D.rb.rdlt) HPB.out).mono ?_
        rw [HW.out]
        rintro e w8 ⟨rfl, hb⟩
        refine ⟨_, rfl, ?_⟩
        have hH8x := hHeld.below HD.out hb
        clear hb
        refine hK.out _ _ hH8x (fun hH8 => ?_)
        clear hK K hH8x hHeld
        refine norm_ (a' := ?_) ?_ ?_
        rotate_left
        · show Act.put _ (some 25) _ = _
          simp only [Act.put, List.setIfInBounds_toArray, List.set_cons_zero, List.set_cons_succ, i64_w, i32_w]
          rfl
        refine pure_ (i := 2) (N := some 26) (v := ?_) (a' := ?_) #[true, true, true, false, false, false, false, false, false, false, false] rfl rfl (by kernel_rfl) (fun _ _ _ h => h) (Or.inl ⟨by rfl, ?_⟩) ?_ ?_
        rotate_left
        · intro w'
          go_simp
          with_reducible rfl
        rotate_left
        · simp only [Act.put, List.setIfInBounds_toArray, List.set_cons_zero, List.set_cons_succ, i64_w, i32_w]
          rfl
        refine pure_ (i := 3) (N := some 27) (v := ?_) (a' := ?_) #[true, true, true, true, false, false, false, false, false, false, false] rfl rfl (by kernel_rfl) (fun _ _ _ h => h) (Or.inl ⟨by rfl, ?_⟩) ?_ ?_
        rotate_left
        · intro w'
          go_simp
          with_reducible rfl
        rotate_left
        · simp only [Act.put, List.setIfInBounds_toArray, List.set_cons_zero, List.set_cons_succ, i64_w, i32_w]
          rfl
        refine pure_ (i := 4) (N := some 28) (v := undef) #[true, true, true, true, true, false, false, false, false, false, false] rfl rfl (by kernel_rfl) (fun _ _ _ h => h) (Or.inr ⟨by rfl, rfl⟩) rfl ?_
        refine norm_ (a' := ?_) ?_ ?_
        rotate_left
        · show Act.put _ (some 28) _ = _
          simp only [Act.put, List.setIfInBounds_toArray, List.set_cons_zero, List.set_cons_succ, i64_w, i32_w]
          rfl
        refine pure_ (i := 7) (N := some 31) (v := undef) #[true, true, true, true, true, false, false, true, false, false, false] rfl rfl (by kernel_rfl) (fun _ _ _ h => h) (Or.inr ⟨by rfl, rfl⟩) rfl ?_
        refine norm_ (a' := ?_) ?_ ?_
        rotate_left
        · show Act.put _ (some 31) _ = _
          simp only [Act.put, List.setIfInBounds_toArray, List.set_cons_zero, List.set_cons_succ, i64_w, i32_w]
          rfl
        refine pure_ (i := 8) (N := some 32) (v := undef) #[true, true, true, true, true, false, false, true, true, false, false] rfl rfl (by kernel_rfl) (fun _ _ _ h => h) (Or.inr ⟨by rfl, rfl⟩) rfl ?_
        refine norm_ (a' := ?_) ?_ ?_
        rotate_left
        · show Act.put _ (some 32) _ = _
          simp only [Act.put, List.setIfInBounds_toArray, List.set_cons_zero, List.set_cons_succ, i64_w, i32_w]
          rfl
        refine one_ (i := 5) (N := some 29) #[true, true, true, true, true, true, false, true, true, false, false] rfl rfl (by kernel_rfl) (by decide) (fun K hK => ?_)
        refine off_ (by rfl) ?_
        refine hK.out _ _ hH8 (fun _ => ?_)
        clear hK K
        refine norm_ (a' := ?_) ?_ ?_
        rotate_left
        · show Act.put _ (some 29) _ = _
          simp only [Act.put, List.setIfInBounds_toArray, List.set_cons_zero, List.set_cons_succ, i64_w, i32_w]
          rfl
        refine one_ (i := 6) (N := some 30) #[true, true, true, true, true, true, true, true, true, false, false] rfl rfl (by kernel_rfl) (by decide) (fun K hK => ?_)
        refine off_ (by rfl) ?_
        refine hK.out _ _ hH8 (fun _ => ?_)
        clear hK K
        refine norm_ (a' := ?_) ?_ ?_
        rotate_left
        · show Act.put _ (some 30) _ = _
          simp only [Act.put, List.setIfInBounds_toArray, List.set_cons_zero, List.set_cons_succ, i64_w, i32_w]
          rfl
        refine pure_ (i := 9) (N := some 33) (v := undef) #[true, true, true, true, true, true, true, true, true, true, false] rfl rfl (by kernel_rfl) (fun _ _ _ h => h) (Or.inr ⟨by rfl, rfl⟩) rfl ?_
        refine norm_ (a' := ?_) ?_ ?_
        rotate_left
        · show Act.put _ (some 33) _ = _
          simp only [Act.put, List.setIfInBounds_toArray, List.set_cons_zero, List.set_cons_succ, i64_w, i32_w]
          rfl
        refine pure_ (i := 10) (N := some 34) (v := ?_) (a' := ?_) #[true, true, true, true, true, true, true, true, true, true, true] rfl rfl (by kernel_rfl) (fun _ _ _ h => h) (Or.inl ⟨by rfl, ?_⟩) ?_ ?_
        rotate_left
        · intro w'
          go_simp
          with_reducible rfl
        rotate_left
        · simp only [Act.put, List.setIfInBounds_toArray, List.set_cons_zero, List.set_cons_succ, i64_w, i32_w]
          rfl
        refine done_ (by kernel_rfl) ?_
        have HS9 : Hid (GR w D v2 B w8) := Lib.hid hH8.G
        clear hH8
        go_wp2
        go_roundg (2)
        case measure => have := HK.out; omega
        case rel => exact ⟨2, rfl, Lib.hid ⟨rfl, .inr (.inl ⟨rfl, HNH.out⟩)⟩, HS9⟩
      have HW : Hid (whyP q = 0) := Lib.hid hw
      obtain ⟨s1, hs1⟩ : ∃ s, s = strOfNums (bodyI q) := ⟨_, rfl⟩
      have HS1 : Hid (strOfNums (bodyI q) = s1) := Lib.hid hs1.symm
      have hqd : ∀ x ∈ q.data, 0 ≤ x ∧ x < 256 := by rw [hq]; exact guess_lt HB.out.2 1 (by decide)
      have hcmp : (s1.toList == s2.toList) = decide (bodyI q = B) := by
        rw [hs1, hs2]
        exact str_eq (putBody_lt q hqd) HB.out.2
      by_cases heq : bodyI q = B
      · rw [decide_eq_true heq] at hcmp
        have HQ : Hid (bodyG B = (q, 0)) := Lib.hid (hokd (hhit.2 ⟨hw, heq⟩))
        clear hw hq hd hhit hs2 hs1 heq hqd hokd
        go_upto_region 8 with (first
          | ((with_reducible refine gate_dst (N := 7) rfl ?_); refine wp_allocPk rfl rfl ?_; intro y5 hP hB hs; have H5 := Lib.hid (And.intro hP hB); clear hP hB hs)
          | ((with_reducible refine gate_store (t := 26) (p := 7) rfl ?_)
             refine wp_stpk (p := q) (A := A5) (L := d) (c := c5) rfl rfl rfl rfl H5.out.1 rfl ?_
             intro w7 hP hO
             have hb := hO.below H5.out.2 (Nat.le_refl _)
             have HC7 : Hid (GS2 w D v2 B w6 q (.slice A5 d c5) w7) := Lib.hid ⟨H6.out.1.below HD.out hb, hP, H6.out.2.below hb⟩
             clear hP hO hb H5 H6)
          | (go_at_call 33; refine (guess1_calls (D := D) _ v2 B HS.out.B (fun k hk => Nat.lt_of_lt_of_le (HD.out k hk) HS.out.be.size)).mono ?_; unfold GesR; rw [HGQ.out]; rintro e w6 ⟨v6, rfl, ho, hb⟩; obtain ⟨A5, c5, rfl, _⟩ := ho.val; rw [← HDQ.out] at ho ⊢; have H6 := Lib.hid (And.intro (HS.out.below HD.out hb) (ho.base HS.out.be.size)); clear ho hb HS))
        refine start_ (n := 11) (S := fun w' => GS2 w D v2 B w6 q (.slice A5 d c5) w') (ds := []) #[false, false, false, false, false, false, false, false, false, false, false] (by kernel_rfl) rfl rfl (HC7.out.drew HD.out) (fun hHeld => ?_)
        refine take_ (i := 0) (N := some 24) (v := pkV q (.slice A5 d c5)) #[true, false, false, false, false, false, false, false, false, false, false] rfl rfl (by kernel_rfl) (fun _ _ _ h => h) (Or.inl ⟨by rfl, fun w' hs => run_ldpk (.tmp 7) rfl rfl hs.P⟩) hHeld rfl ?_
        refine norm_ (a' := ?_) ?_ ?_
        rotate_left
        · show Act.put _ (some 24) _ = _
          simp only [Act.put, List.setIfInBounds_toArray, List.set_cons_zero, List.set_cons_succ, i64_w, i32_w]
          rfl
        refine one_ (i := 1) (N := some 25) #[true, true, false, false, false, false, false, false, false, false, false] rfl rfl (by kernel_rfl) (by decide) (fun K hK => ?_)
        refine call_ 10 #[pkV q (.slice A5 d c5)] (by rfl) rfl ?_ ?_
        · have he := enters_ (P := Tryd.prog) Tryd.func10 (by kernel_rfl) rfl #[pkV q (.slice A5 d c5)] w7.drew
          unfold execOp
          simp [resolve, Deferred.ofValue, invoke, Act.eval, he]
        refine (rcheck_calls q (.slice A5 d c5) w7.drew (hHeld.D.rb.rdlt) HPB.out).mono ?_
        rw [HW.out]
        rintro e w8 ⟨rfl, hb⟩
        refine ⟨_, rfl, ?_⟩
        have hH8x := hHeld.below HD.out hb
        clear hb
        refine hK.out _ _ hH8x (fun hH8 => ?_)
        clear hK K hH8x hHeld
        refine norm_ (a' := ?_) ?_ ?_
        rotate_left
        · show Act.put _ (some 25) _ = _
          simp only [Act.put, List.setIfInBounds_toArray, List.set_cons_zero, List.set_cons_succ, i64_w, i32_w]
          rfl
        refine pure_ (i := 2) (N := some 26) (v := ?_) (a' := ?_) #[true, true, true, false, false, false, false, false, false, false, false] rfl rfl (by kernel_rfl) (fun _ _ _ h => h) (Or.inl ⟨by rfl, ?_⟩) ?_ ?_
        rotate_left
        · intro w'
          go_simp
          with_reducible rfl
        rotate_left
        · simp only [Act.put, List.setIfInBounds_toArray, List.set_cons_zero, List.set_cons_succ, i64_w, i32_w]
          rfl
        refine pure_ (i := 3) (N := some 27) (v := ?_) (a' := ?_) #[true, true, true, true, false, false, false, false, false, false, false] rfl rfl (by kernel_rfl) (fun _ _ _ h => h) (Or.inl ⟨by rfl, ?_⟩) ?_ ?_
        rotate_left
        · intro w'
          go_simp
          with_reducible rfl
        rotate_left
        · simp only [Act.put, List.setIfInBounds_toArray, List.set_cons_zero, List.set_cons_succ, i64_w, i32_w]
          rfl
        refine take_ (i := 4) (N := some 28) (v := pkV q (.slice A5 d c5)) #[true, true, true, true, true, false, false, false, false, false, false] rfl rfl (by kernel_rfl) (fun _ _ _ h => h) (Or.inl ⟨by rfl, fun w' hs => run_ldpk (.tmp 7) rfl rfl hs.P⟩) hH8 rfl ?_
        refine norm_ (a' := ?_) ?_ ?_
        rotate_left
        · show Act.put _ (some 28) _ = _
          simp only [Act.put, List.setIfInBounds_toArray, List.set_cons_zero, List.set_cons_succ, i64_w, i32_w]
          rfl
        refine pure_ (i := 7) (N := some 31) (v := ?_) (a' := ?_) #[true, true, true, true, true, false, false, true, false, false, false] rfl rfl (by kernel_rfl) (fun _ _ _ h => h) (Or.inl ⟨by rfl, ?_⟩) ?_ ?_
        rotate_left
        · intro w'
          go_simp
          with_reducible rfl
        rotate_left
        · simp only [Act.put, List.setIfInBounds_toArray, List.set_cons_zero, List.set_cons_succ, i64_w, i32_w]
          rfl
        refine take_ (i := 8) (N := some 32) (v := .string s2) #[true, true, true, true, true, false, false, true, true, false, false] rfl rfl (by kernel_rfl) (fun _ _ _ h => h) (Or.inl ⟨by rfl, fun w' hs => run_cnv (.tmp 31) rfl rfl (HS2.out ▸ hs.G.B.str)⟩) hH8 rfl ?_
        refine norm_ (a' := ?_) ?_ ?_
        rotate_left
        · show Act.put _ (some 32) _ = _
          simp only [Act.put, List.setIfInBounds_toArray, List.set_cons_zero, List.set_cons_succ, i64_w, i32_w]
          rfl
        refine one_ (i := 5) (N := some 29) #[true, true, true, true, true, true, false, true, true, false, false] rfl rfl (by kernel_rfl) (by decide) (fun K hK => ?_)
        refine call_ 29 #[pkV q (.slice A5 d c5)] (by rfl) rfl ?_ ?_
        · have he := enters_ (P := Tryd.prog) Tryd.func29 (by kernel_rfl) rfl #[pkV q (.slice A5 d c5)] w8
          unfold execOp
          simp [resolve, Deferred.ofValue, invoke, Act.eval, he]
        refine (rbody_calls q (.slice A5 d c5) w8 hH8.D.rb.rdlt HW.out).mono ?_
        rintro e w9 ⟨v9, rfl, ho, hb⟩
        refine ⟨_, rfl, ?_⟩
        have hH9x := hH8.below HD.out hb
        have hs9 := ho.rb.rdt.str
        rw [HS1.out] at hs9
        clear ho hb
        refine hK.out _ _ hH9x (fun hH9 => ?_)
        clear hK K hH9x hH8
        refine norm_ (a' := ?_) ?_ ?_
        rotate_left
        · show Act.put _ (some 29) _ = _
          simp only [Act.put, List.setIfInBounds_toArray, List.set_cons_zero, List.set_cons_succ, i64_w, i32_w]
          rfl
        refine one_ (i := 6) (N := some 30) #[true, true, true, true, true, true, true, true, true, false, false] rfl rfl (by kernel_rfl) (by decide) (fun K hK => ?_)
        refine value_ (by rfl) rfl (run_cnv (.tmp 29) rfl rfl hs9) ?_
        refine hK.out _ _ hH9 (fun _ => ?_)
        clear hK K
        refine norm_ (a' := ?_) ?_ ?_
        rotate_left
        · show Act.put _ (some 30) _ = _
          simp only [Act.put, List.setIfInBounds_toArray, List.set_cons_zero, List.set_cons_succ, i64_w, i32_w]
          rfl
        refine pure_ (i := 9) (N := some 33) (v := ?_) (a' := ?_) #[true, true, true, true, true, true, true, true, true, true, false] rfl rfl (by kernel_rfl) (fun _ _ _ h => h) (Or.inl ⟨by rfl, ?_⟩) ?_ ?_
        rotate_left
        · intro w'
          go_simp
          with_reducible rfl
        rotate_left
        · simp only [Act.put, List.setIfInBounds_toArray, List.set_cons_zero, List.set_cons_succ, i64_w, i32_w]
          rfl
        refine pure_ (i := 10) (N := some 34) (v := ?_) (a' := ?_) #[true, true, true, true, true, true, true, true, true, true, true] rfl rfl (by kernel_rfl) (fun _ _ _ h => h) (Or.inl ⟨by rfl, ?_⟩) ?_ ?_
        rotate_left
        · intro w'
          go_simp
          with_reducible rfl
        rotate_left
        · simp only [Act.put, List.setIfInBounds_toArray, List.set_cons_zero, List.set_cons_succ, i64_w, i32_w]
          rfl
        refine done_ (by kernel_rfl) ?_
        go_wp2_with (first
          | ((with_reducible refine gate_dst (N := 35) rfl ?_); refine wp_ldpk rfl (.tmp 7) rfl rfl hH9.P ?_)
          | ((with_reducible refine gate_store (t := 26) (p := 2) rfl ?_)
             refine wp_stpk (p := q) (A := A5) (L := d) (c := c5) rfl rfl rfl rfl hH9.G.R rfl ?_
             intro y4 hP hO
             have HE4 := Lib.hid (And.intro hP hO)
             clear hP hO))
        (try simp only [Exit.inBlock, Exit.then])
        refine bodyPost_ret (results_ct rfl _ _ w.heap.size _ _ _ _ rfl HE4.out.1 Tryd.underlying26 rfl (show (Tryd.prog.info? 26).map (·.size) = some 20 by kernel_rfl)) rfl ?_
        exact ⟨.slice A5 d c5, by rw [HG.out.1, HG.out.2, HQ.out]; rfl, by rw [HG.out.1, HQ.out]; exact hH9.D.only HE4.out.2 hH9.G.R, HE4.out.2.below hH9.G.be (Nat.le_refl _)⟩
      · rw [decide_eq_false heq] at hcmp
        have HNH : Hid (¬ hitG B 1) := Lib.hid (fun h => heq (hhit.1 h).2)
        clear hw hq hd hhit hs2 hs1 heq hqd hokd
        go_upto_region 8 with (first
          | ((with_reducible refine gate_dst (N := 7) rfl ?_); refine wp_allocPk rfl rfl ?_; intro y5 hP hB hs; have H5 := Lib.hid (And.intro hP hB); clear hP hB hs)
          | ((with_reducible refine gate_store (t := 26) (p := 7) rfl ?_)
             refine wp_stpk (p := q) (A := A5) (L := d) (c := c5) rfl rfl rfl rfl H5.out.1 rfl ?_
             intro w7 hP hO
             have hb := hO.below H5.out.2 (Nat.le_refl _)
             have HC7 : Hid (GS2 w D v2 B w6 q (.slice A5 d c5) w7) := Lib.hid ⟨H6.out.1.below HD.out hb, hP, H6.out.2.below hb⟩
             clear hP hO hb H5 H6)
          | (go_at_call 33; refine (guess1_calls (D := D) _ v2 B HS.out.B (fun k hk => Nat.lt_of_lt_of_le (HD.out k hk) HS.out.be.size)).mono ?_; unfold GesR; rw [HGQ.out]; rintro e w6 ⟨v6, rfl, ho, hb⟩; obtain ⟨A5, c5, rfl, _⟩ := ho.val; rw [← HDQ.out] at ho ⊢; have H6 := Lib.hid (And.intro (HS.out.below HD.out hb) (ho.base HS.out.be.size)); clear ho hb HS))
        refine start_ (n := 11) (S := fun w' => GS2 w D v2 B w6 q (.slice A5 d c5) w') (ds := []) #[false, false, false, false, false, false, false, false, false, false, false] (by kernel_rfl) rfl rfl (HC7.out.drew HD.out) (fun hHeld => ?_)
        refine take_ (i := 0) (N := some 24) (v := pkV q (.slice A5 d c5)) #[true, false, false, false, false, false, false, false, false, false, false] rfl rfl (by kernel_rfl) (fun _ _ _ h => h) (Or.inl ⟨by rfl, fun w' hs => run_ldpk (.tmp 7) rfl rfl hs.P⟩) hHeld rfl ?_
        refine norm_ (a' := ?_) ?_ ?_
        rotate_left
        · show Act.put _ (some 24) _ = _
          simp only [Act.put, List.setIfInBounds_toArray, List.set_cons_zero, List.set_cons_succ, i64_w, i32_w]
          rfl
        refine one_ (i := 1) (N := some 25) #[true, true, false, false, false, false, false, false, false, false, false] rfl rfl (by kernel_rfl) (by decide) (fun K hK => ?_)
        refine call_ 10 #[pkV q (.slice A5 d c5)] (by rfl) rfl ?_ ?_
        · have he := enters_ (P := Tryd.prog) Tryd.func10 (by kernel_rfl) rfl #[pkV q (.slice A5 d c5)] w7.drew
          unfold execOp
          simp [resolve, Deferred.ofValue, invoke, Act.eval, he]
        refine (rcheck_calls q (.slice A5 d c5) w7.drew (hHeld.D.rb.rdlt) HPB.out).mono ?_
        rw [HW.out]
        rintro e w8 ⟨rfl, hb⟩
        refine ⟨_, rfl, ?_⟩
        have hH8x := hHeld.below HD.out hb
        clear hb
        refine hK.out _ _ hH8x (fun hH8 => ?_)
        clear hK K hH8x hHeld
        refine norm_ (a' := ?_) ?_ ?_
        rotate_left
        · show Act.put _ (some 25) _ = _
          simp only [Act.put, List.setIfInBounds_toArray, List.set_cons_zero, List.set_cons_succ, i64_w, i32_w]
          rfl
        refine pure_ (i := 2) (N := some 26) (v := ?_) (a' := ?_) #[true, true, true, false, false, false, false, false, false, false, false] rfl rfl (by kernel_rfl) (fun _ _ _ h => h) (Or.inl ⟨by rfl, ?_⟩) ?_ ?_
        rotate_left
        · intro w'
          go_simp
          with_reducible rfl
        rotate_left
        · simp only [Act.put, List.setIfInBounds_toArray, List.set_cons_zero, List.set_cons_succ, i64_w, i32_w]
          rfl
        refine pure_ (i := 3) (N := some 27) (v := ?_) (a' := ?_) #[true, true, true, true, false, false, false, false, false, false, false] rfl rfl (by kernel_rfl) (fun _ _ _ h => h) (Or.inl ⟨by rfl, ?_⟩) ?_ ?_
        rotate_left
        · intro w'
          go_simp
          with_reducible rfl
        rotate_left
        · simp only [Act.put, List.setIfInBounds_toArray, List.set_cons_zero, List.set_cons_succ, i64_w, i32_w]
          rfl
        refine take_ (i := 4) (N := some 28) (v := pkV q (.slice A5 d c5)) #[true, true, true, true, true, false, false, false, false, false, false] rfl rfl (by kernel_rfl) (fun _ _ _ h => h) (Or.inl ⟨by rfl, fun w' hs => run_ldpk (.tmp 7) rfl rfl hs.P⟩) hH8 rfl ?_
        refine norm_ (a' := ?_) ?_ ?_
        rotate_left
        · show Act.put _ (some 28) _ = _
          simp only [Act.put, List.setIfInBounds_toArray, List.set_cons_zero, List.set_cons_succ, i64_w, i32_w]
          rfl
        refine pure_ (i := 7) (N := some 31) (v := ?_) (a' := ?_) #[true, true, true, true, true, false, false, true, false, false, false] rfl rfl (by kernel_rfl) (fun _ _ _ h => h) (Or.inl ⟨by rfl, ?_⟩) ?_ ?_
        rotate_left
        · intro w'
          go_simp
          with_reducible rfl
        rotate_left
        · simp only [Act.put, List.setIfInBounds_toArray, List.set_cons_zero, List.set_cons_succ, i64_w, i32_w]
          rfl
        refine take_ (i := 8) (N := some 32) (v := .string s2) #[true, true, true, true, true, false, false, true, true, false, false] rfl rfl (by kernel_rfl) (fun _ _ _ h => h) (Or.inl ⟨by rfl, fun w' hs => run_cnv (.tmp 31) rfl rfl (HS2.out ▸ hs.G.B.str)⟩) hH8 rfl ?_
        refine norm_ (a' := ?_) ?_ ?_
        rotate_left
        · show Act.put _ (some 32) _ = _
          simp only [Act.put, List.setIfInBounds_toArray, List.set_cons_zero, List.set_cons_succ, i64_w, i32_w]
          rfl
        refine one_ (i := 5) (N := some 29) #[true, true, true, true, true, true, false, true, true, false, false] rfl rfl (by kernel_rfl) (by decide) (fun K hK => ?_)
        refine call_ 29 #[pkV q (.slice A5 d c5)] (by rfl) rfl ?_ ?_
        · have he := enters_ (P := Tryd.prog) Tryd.func29 (by kernel_rfl) rfl #[pkV q (.slice A5 d c5)] w8
          unfold execOp
          simp [resolve, Deferred.ofValue, invoke, Act.eval, he]
        refine (rbody_calls q (.slice A5 d c5) w8 hH8.D.rb.rdlt HW.out).mono ?_
        rintro e w9 ⟨v9, rfl, ho, hb⟩
        refine ⟨_, rfl, ?_⟩
        have hH9x := hH8.below HD.out hb
        have hs9 := ho.rb.rdt.str
        rw [HS1.out] at hs9
        clear ho hb
        refine hK.out _ _ hH9x (fun hH9 => ?_)
        clear hK K hH9x hH8
        refine norm_ (a' := ?_) ?_ ?_
        rotate_left
        · show Act.put _ (some 29) _ = _
          simp only [Act.put, List.setIfInBounds_toArray, List.set_cons_zero, List.set_cons_succ, i64_w, i32_w]
          rfl
        refine one_ (i := 6) (N := some 30) #[true, true, true, true, true, true, true, true, true, false, false] rfl rfl (by kernel_rfl) (by decide) (fun K hK => ?_)
        refine value_ (by rfl) rfl (run_cnv (.tmp 29) rfl rfl hs9) ?_
        refine hK.out _ _ hH9 (fun _ => ?_)
        clear hK K
        refine norm_ (a' := ?_) ?_ ?_
        rotate_left
        · show Act.put _ (some 30) _ = _
          simp only [Act.put, List.setIfInBounds_toArray, List.set_cons_zero, List.set_cons_succ, i64_w, i32_w]
          rfl
        refine pure_ (i := 9) (N := some 33) (v := ?_) (a' := ?_) #[true, true, true, true, true, true, true, true, true, true, false] rfl rfl (by kernel_rfl) (fun _ _ _ h => h) (Or.inl ⟨by rfl, ?_⟩) ?_ ?_
        rotate_left
        · intro w'
          go_simp
          with_reducible rfl
        rotate_left
        · simp only [Act.put, List.setIfInBounds_toArray, List.set_cons_zero, List.set_cons_succ, i64_w, i32_w]
          rfl
        refine pure_ (i := 10) (N := some 34) (v := ?_) (a' := ?_) #[true, true, true, true, true, true, true, true, true, true, true] rfl rfl (by kernel_rfl) (fun _ _ _ h => h) (Or.inl ⟨by rfl, ?_⟩) ?_ ?_
        rotate_left
        · intro w'
          go_simp
          with_reducible rfl
        rotate_left
        · simp only [Act.put, List.setIfInBounds_toArray, List.set_cons_zero, List.set_cons_succ, i64_w, i32_w]
          rfl
        refine done_ (by kernel_rfl) ?_
        have HS9 : Hid (GR w D v2 B w9) := Lib.hid hH9.G
        clear hH9
        go_wp2
        go_roundg (2)
        case measure => have := HK.out; omega
        case rel => exact ⟨2, rfl, Lib.hid ⟨rfl, .inr (.inl ⟨rfl, HNH.out⟩)⟩, HS9⟩
    · obtain ⟨rfl, hn1⟩ := hk
      obtain ⟨q, hq⟩ : ∃ q, q = guessP B 2 := ⟨_, rfl⟩
      obtain ⟨d, hd⟩ : ∃ d, d = q.data.length := ⟨_, rfl⟩
      have HGQ : Hid (guessP B 2 = q) := Lib.hid hq.symm
      have HDQ := Lib.hid hd
      have HPB : Hid (PkB q) := Lib.hid (by rw [hq]; exact guess_B HB.out.2 2 (by decide))
      have hhit : hitG B 2 ↔ whyP q = 0 ∧ bodyI q = B := by unfold hitG; rw [← hq]
      have hokd : ∀ h : hitG B 2, bodyG B = (q, 0) := fun h => by rw [hq]; exact hit_ok h
      have HOKD := Lib.hid hokd
      have HN1 := Lib.hid hn1
      by_cases hw : whyP q = 0
      rotate_left
      · obtain ⟨wn, hwn⟩ : ∃ n, n = whyP q := ⟨_, rfl⟩
        have HW : Hid (whyP q = wn) := Lib.hid hwn.symm
        have f1 : (wn == 0) = false := beq_eq_false_iff_ne.2 (by rw [hwn]; exact hw)
        have f3 : (wn != 0) = true := bne_iff_ne.2 (by rw [hwn]; exact hw)
        have HNH : Hid (¬ hitG B 2) := Lib.hid (fun h => hw (hhit.1 h).1)
        clear hw hwn hq hd hhit hs2 hokd
        go_upto_region 8 with (first
          | ((with_reducible refine gate_dst (N := 7) rfl ?_); refine wp_allocPk rfl rfl ?_; intro y5 hP hB hs; have H5 := Lib.hid (And.intro hP hB); clear hP hB hs)
          | ((with_reducible refine gate_store (t := 26) (p := 7) rfl ?_)
             refine wp_stpk (p := q) (A := A5) (L := d) (c := c5) rfl rfl rfl rfl H5.out.1 rfl ?_
             intro w7 hP hO
             have hb := hO.below H5.out.2 (Nat.le_refl _)
             have HC7 : Hid (GS2 w D v2 B w6 q (.slice A5 d c5) w7) := Lib.hid ⟨H6.out.1.below HD.out hb, hP, H6.out.2.below hb⟩
             clear hP hO hb H5 H6)
          | (go_at_call 33; refine (guess2_calls (D := D) _ v2 B HS.out.B (fun k hk => Nat.lt_of_lt_of_le (HD.out k hk) HS.out.be.size)).mono ?_; unfold GesR; rw [HGQ.out]; rintro e w6 ⟨v6, rfl, ho, hb⟩; obtain ⟨A5, c5, rfl, _⟩ := ho.val; rw [← HDQ.out] at ho ⊢; have H6 := Lib.hid (And.intro (HS.out.below HD.out hb) (ho.base HS.out.be.size)); clear ho hb HS))
        refine start_ (n := 11) (S := fun w' => GS2 w D v2 B w6 q (.slice A5 d c5) w') (ds := []) #[false, false, false, false, false, false, false, false, false, false, false] (by kernel_rfl) rfl rfl (HC7.out.drew HD.out) (fun hHeld => ?_)
        refine take_ (i := 0) (N := some 24) (v := pkV q (.slice A5 d c5)) #[true, false, false, false, false, false, false, false, false, false, false] rfl rfl (by kernel_rfl) (fun _ _ _ h => h) (Or.inl ⟨by rfl, fun w' hs => run_ldpk (.tmp 7) rfl rfl hs.P⟩) hHeld rfl ?_
        refine norm_ (a' := ?_) ?_ ?_
        rotate_left
        · show Act.put _ (some 24) _ = _
          simp only [Act.put, List.setIfInBounds_toArray, List.set_cons_zero, List.set_cons_succ, i64_w, i32_w]
          rfl
        refine one_ (i := 1) (N := some 25) #[true, true, false, false, false, false, false, false, false, false, false] rfl rfl (by kernel_rfl) (by decide) (fun K hK => ?_)
        refine call_ 10 #[pkV q (.slice A5 d c5)] (by rfl) rfl ?_ ?_
        · have he := enters_ (P := Tryd.prog) Tryd.func10 (by kernel_rfl) rfl #[pkV q (.slice A5 d c5)] w7.drew
          unfold execOp
          simp [resolve, Deferred.ofValue, invoke, Act.eval, he]
        refine (rcheck_calls q (.slice A5 d c5) w7.drew (hHeld.D.rb.rdlt) HPB.out).mono ?_
        rw [HW.out]
        rintro e w8 ⟨rfl, hb⟩
        refine ⟨_, rfl, ?_⟩
        have hH8x := hHeld.below HD.out hb
        clear hb
        refine hK.out _ _ hH8x (fun hH8 => ?_)
        clear hK K hH8x hHeld
        refine norm_ (a' := ?_) ?_ ?_
        rotate_left
        · show Act.put _ (some 25) _ = _
          simp only [Act.put, List.setIfInBounds_toArray, List.set_cons_zero, List.set_cons_succ, i64_w, i32_w]
          rfl
        refine pure_ (i := 2) (N := some 26) (v := ?_) (a' := ?_) #[true, true, true, false, false, false, false, false, false, false, false] rfl rfl (by kernel_rfl) (fun _ _ _ h => h) (Or.inl ⟨by rfl, ?_⟩) ?_ ?_
        rotate_left
        · intro w'
          go_simp
          with_reducible rfl
        rotate_left
        · simp only [Act.put, List.setIfInBounds_toArray, List.set_cons_zero, List.set_cons_succ, i64_w, i32_w]
          rfl
        refine pure_ (i := 3) (N := some 27) (v := ?_) (a' := ?_) #[true, true, true, true, false, false, false, false, false, false, false] rfl rfl (by kernel_rfl) (fun _ _ _ h => h) (Or.inl ⟨by rfl, ?_⟩) ?_ ?_
        rotate_left
        · intro w'
          go_simp
          with_reducible rfl
        rotate_left
        · simp only [Act.put, List.setIfInBounds_toArray, List.set_cons_zero, List.set_cons_succ, i64_w, i32_w]
          rfl
        refine pure_ (i := 4) (N := some 28) (v := undef) #[true, true, true, true, true, false, false, false, false, false, false] rfl rfl (by kernel_rfl) (fun _ _ _ h => h) (Or.inr ⟨by rfl, rfl⟩) rfl ?_
        refine norm_ (a' := ?_) ?_ ?_
        rotate_left
        · show Act.put _ (some 28) _ = _
          simp only [Act.put, List.setIfInBounds_toArray, List.set_cons_zero, List.set_cons_succ, i64_w, i32_w]
          rfl
        refine pure_ (i := 7) (N := some 31) (v := undef) #[true, true, true, true, true, false, false, true, false, false, false] rfl rfl (by kernel_rfl) (fun _ _ _ h => h) (Or.inr ⟨by rfl, rfl⟩) rfl ?_
        refine norm_ (a' := ?_) ?_ ?_
        rotate_left
        · show Act.put _ (some 31) _ = _
          simp only [Act.put, List.setIfInBounds_toArray, List.set_cons_zero, List.set_cons_succ, i64_w, i32_w]
          rfl
        refine pure_ (i := 8) (N := some 32) (v := undef) #[true, true, true, true, true, false, false, true, true, false, false] rfl rfl (by kernel_rfl) (fun _ _ _ h => h) (Or.inr ⟨by rfl, rfl⟩) rfl ?_
        refine norm_ (a' := ?_) ?_ ?_
        rotate_left
        · show Act.put _ (some 32) _ = _
          simp only [Act.put, List.setIfInBounds_toArray, List.set_cons_zero, List.set_cons_succ, i64_w, i32_w]
          rfl
        refine one_ (i := 5) (N := some 29) #[true, true, true, true, true, true, false, true, true, false, false] rfl rfl (by kernel_rfl) (by decide) (fun K hK => ?_)
        refine off_ (by rfl) ?_
        refine hK.out _ _ hH8 (fun _ => ?_)
        clear hK K
        refine norm_ (a' := ?_) ?_ ?_
        rotate_left
        · show Act.put _ (some 29) _ = _
          simp only [Act.put, List.setIfInBounds_toArray, List.set_cons_zero, List.set_cons_succ, i64_w, i32_w]
          rfl
        refine one_ (i := 6) (N := some 30) #[true, true, true, true, true, true, true, true, true, false, false] rfl rfl (by kernel_rfl) (by decide) (fun K hK => ?_)
        refine off_ (by rfl) ?_
        refine hK.out _ _ hH8 (fun _ => ?_)
        clear hK K
        refine norm_ (a' := ?_) ?_ ?_
        rotate_left
        · show Act.put _ (some 30) _ = _
          simp only [Act.put, List.setIfInBounds_toArray, List.set_cons_zero, List.set_cons_succ, i64_w, i32_w]
          rfl
        refine pure_ (i := 9) (N := some 33) (v := undef) #[true, true, true, true, true, true, true, true, true, true, false] rfl rfl (by kernel_rfl) (fun _ _ _ h => h) (Or.inr ⟨by rfl, rfl⟩) rfl ?_
        refine norm_ (a' := ?_) ?_ ?_
        rotate_left
        · show Act.put _ (some 33) _ = _
          simp only [Act.put, List.setIfInBounds_toArray, List.set_cons_zero, List.set_cons_succ, i64_w, i32_w]
          rfl
        refine pure_ (i := 10) (N := some 34) (v := ?_) (a' := ?_) #[true, true, true, true, true, true, true, true, true, true, true] rfl rfl (by kernel_rfl) (fun _ _ _ h => h) (Or.inl ⟨by rfl, ?_⟩) ?_ ?_
        rotate_left
        · intro w'
          go_simp
          with_reducible rfl
        rotate_left
        · simp only [Act.put, List.setIfInBounds_toArray, List.set_cons_zero, List.set_cons_succ, i64_w, i32_w]
          rfl
        refine done_ (by kernel_rfl) ?_
        have HS9 : Hid (GR w D v2 B w8) := Lib.hid hH8.G
        clear hH8
        go_wp2
        go_roundg (1)
        case measure => have := HK.out; omega
        case rel => exact ⟨3, rfl, Lib.hid ⟨rfl, .inr (.inr ⟨rfl, HN1.out, HNH.out⟩)⟩, HS9⟩
      have HW : Hid (whyP q = 0) := Lib.hid hw
      obtain ⟨s1, hs1⟩ : ∃ s, s = strOfNums (bodyI q) := ⟨_, rfl⟩
      have HS1 : Hid (strOfNums (bodyI q) = s1) := Lib.hid hs1.symm
      have hqd : ∀ x ∈ q.data, 0 ≤ x ∧ x < 256 := by rw [hq]; exact guess_lt HB.out.2 2 (by decide)
      have hcmp : (s1.toList == s2.toList) = decide (bodyI q = B) := by
        rw [hs1, hs2]
        exact str_eq (putBody_lt q hqd) HB.out.2
      by_cases heq : bodyI q = B
      · rw [decide_eq_true heq] at hcmp
        have HQ : Hid (bodyG B = (q, 0)) := Lib.hid (hokd (hhit.2 ⟨hw, heq⟩))
        clear hw hq hd hhit hs2 hs1 heq hqd hokd
        go_upto_region 8 with (first
          | ((with_reducible refine gate_dst (N := 7) rfl ?_); refine wp_allocPk rfl rfl ?_; intro y5 hP hB hs; have H5 := Lib.hid (And.intro hP hB); clear hP hB hs)
          | ((with_reducible refine gate_store (t := 26) (p := 7) rfl ?_)
             refine wp_stpk (p := q) (A := A5) (L := d) (c := c5) rfl rfl rfl rfl H5.out.1 rfl ?_
             intro w7 hP hO
             have hb := hO.below H5.out.2 (Nat.le_refl _)
             have HC7 : Hid (GS2 w D v2 B w6 q (.slice A5 d c5) w7) := Lib.hid ⟨H6.out.1.below HD.out hb, hP, H6.out.2.below hb⟩
             clear hP hO hb H5 H6)
          | (go_at_call 33; refine (guess2_calls (D := D) _ v2 B HS.out.B (fun k hk => Nat.lt_of_lt_of_le (HD.out k hk) HS.out.be.size)).mono ?_; unfold GesR; rw [HGQ.out]; rintro e w6 ⟨v6, rfl, ho, hb⟩; obtain ⟨A5, c5, rfl, _⟩ := ho.val; rw [← HDQ.out] at ho ⊢; have H6 := Lib.hid (And.intro (HS.out.below HD.out hb) (ho.base HS.out.be.size)); clear ho hb HS))
        refine start_ (n := 11) (S := fun w' => GS2 w D v2 B w6 q (.slice A5 d c5) w') (ds := []) #[false, false, false, false, false, false, false, false, false, false, false] (by kernel_rfl) rfl rfl (HC7.out.drew HD.out) (fun hHeld => ?_)
        refine take_ (i := 0) (N := some 24) (v := pkV q (.slice A5 d c5)) #[true, false, false, false, false, false, false, false, false, false, false] rfl rfl (by kernel_rfl) (fun _ _ _ h => h) (Or.inl ⟨by rfl, fun w' hs => run_ldpk (.tmp 7) rfl rfl hs.P⟩) hHeld rfl ?_
        refine norm_ (a' := ?_) ?_ ?_
        rotate_left
        · show Act.put _ (some 24) _ = _
          simp only [Act.put, List.setIfInBounds_toArray, List.set_cons_zero, List.set_cons_succ, i64_w, i32_w]
          rfl
        refine one_ (i := 1) (N := some 25) #[true, true, false, false, false, false, false, false, false, false, false] rfl rfl (by kernel_rfl) (by decide) (fun K hK => ?_)
        refine call_ 10 #[pkV q (.slice A5 d c5)] (by rfl) rfl ?_ ?_
        · have he := enters_ (P := Tryd.prog) Tryd.func10 (by kernel_rfl) rfl #[pkV q (.slice A5 d c5)] w7.drew
          unfold execOp
          simp [resolve, Deferred.ofValue, invoke, Act.eval, he]
        refine (rcheck_calls q (.slice A5 d c5) w7.drew (hHeld.D.rb.rdlt) HPB.out).mono ?_
        rw [HW.out]
        rintro e w8 ⟨rfl, hb⟩
        refine ⟨_, rfl, ?_⟩
        have hH8x := hHeld.below HD.out hb
        clear hb
        refine hK.out _ _ hH8x (fun hH8 => ?_)
        clear hK K hH8x hHeld
        refine norm_ (a' := ?_) ?_ ?_
        rotate_left
        · show Act.put _ (some 25) _ = _
          simp only [Act.put, List.setIfInBounds_toArray, List.set_cons_zero, List.set_cons_succ, i64_w, i32_w]
          rfl
        refine pure_ (i := 2) (N := some 26) (v := ?_) (a' := ?_) #[true, true, true, false, false, false, false, false, false, false, false] rfl rfl (by kernel_rfl) (fun _ _ _ h => h) (Or.inl ⟨by rfl, ?_⟩) ?_ ?_
        rotate_left
        · intro w'
          go_simp
          with_reducible rfl
        rotate_left
        · simp only [Act.put, List.setIfInBounds_toArray, List.set_cons_zero, List.set_cons_succ, i64_w, i32_w]
          rfl
        refine pure_ (i := 3) (N := some 27) (v := ?_) (a' := ?_) #[true, true, true, true, false, false, false, false, false, false, false] rfl rfl (by kernel_rfl) (fun _ _ _ h => h) (Or.inl ⟨by rfl, ?_⟩) ?_ ?_
        rotate_left
        · intro w'
          go_simp
          with_reducible rfl
        rotate_left
        · simp only [Act.put, List.setIfInBounds_toArray, List.set_cons_zero, List.set_cons_succ, i64_w, i32_w]
          rfl
        refine take_ (i := 4) (N := some 28) (v := pkV q (.slice A5 d c5)) #[true, true, true, true, true, false, false, false, false, false, false] rfl rfl (by kernel_rfl) (fun _ _ _ h => h) (Or.inl ⟨by rfl, fun w' hs => run_ldpk (.tmp 7) rfl rfl hs.P⟩) hH8 rfl ?_
        refine norm_ (a' := ?_) ?_ ?_
        rotate_left
        · show Act.put _ (some 28) _ = _
          simp only [Act.put, List.setIfInBounds_toArray, List.set_cons_zero, List.set_cons_succ, i64_w, i32_w]
          rfl
        refine pure_ (i := 7) (N := some 31) (v := ?_) (a' := ?_) #[true, true, true, true, true, false, false, true, false, false, false] rfl rfl (by kernel_rfl) (fun _ _ _ h => h) (Or.inl ⟨by rfl, ?_⟩) ?_ ?_
        rotate_left
        · intro w'
          go_simp
          with_reducible rfl
        rotate_left
        · simp only [Act.put, List.setIfInBounds_toArray, List.set_cons_zero, List.set_cons_succ, i64_w, i32_w]
          rfl
        refine take_ (i := 8) (N := some 32) (v := .string s2) #[true, true, true, true, true, false, false, true, true, false, false] rfl rfl (by kernel_rfl) (fun _ _ _ h => h) (Or.inl ⟨by rfl, fun w' hs => run_cnv (.tmp 31) rfl rfl (HS2.out ▸ hs.G.B.str)⟩) hH8 rfl ?_
        refine norm_ (a' := ?_) ?_ ?_
        rotate_left
        · show Act.put _ (some 32) _ = _
          simp only [Act.put, List.setIfInBounds_toArray, List.set_cons_zero, List.set_cons_succ, i64_w, i32_w]
          rfl
        refine one_ (i := 5) (N := some 29) #[true, true, true, true, true, true, false, true, true, false, false] rfl rfl (by kernel_rfl) (by decide) (fun K hK => ?_)
        refine call_ 29 #[pkV q (.slice A5 d c5)] (by rfl) rfl ?_ ?_
        · have he := enters_ (P := Tryd.prog) Tryd.func29 (by kernel_rfl) rfl #[pkV q (.slice A5 d c5)] w8
          unfold execOp
          simp [resolve, Deferred.ofValue, invoke, Act.eval, he]
        refine (rbody_calls q (.slice A5 d c5) w8 hH8.D.rb.rdlt HW.out).mono ?_
        rintro e w9 ⟨v9, rfl, ho, hb⟩
        refine ⟨_, rfl, ?_⟩
        have hH9x := hH8.below HD.out hb
        have hs9 := ho.rb.rdt.str
        rw [HS1.out] at hs9
        clear ho hb
        refine hK.out _ _ hH9x (fun hH9 => ?_)
        clear hK K hH9x hH8
        refine norm_ (a' := ?_) ?_ ?_
        rotate_left
        · show Act.put _ (some 29) _ = _
          simp only [Act.put, List.setIfInBounds_toArray, List.set_cons_zero, List.set_cons_succ, i64_w, i32_w]
          rfl
        refine one_ (i := 6) (N := some 30) #[true, true, true, true, true, true, true, true, true, false, false] rfl rfl (by kernel_rfl) (by decide) (fun K hK => ?_)
        refine value_ (by rfl) rfl (run_cnv (.tmp 29) rfl rfl hs9) ?_
        refine hK.out _ _ hH9 (fun _ => ?_)
        clear hK K
        refine norm_ (a' := ?_) ?_ ?_
        rotate_left
        · show Act.put _ (some 30) _ = _
          simp only [Act.put, List.setIfInBounds_toArray, List.set_cons_zero, List.set_cons_succ, i64_w, i32_w]
          rfl
        refine pure_ (i := 9) (N := some 33) (v := ?_) (a' := ?_) #[true, true, true, true, true, true, true, true, true, true, false] rfl rfl (by kernel_rfl) (fun _ _ _ h => h) (Or.inl ⟨by rfl, ?_⟩) ?_ ?_
        rotate_left
        · intro w'
          go_simp
          with_reducible rfl
        rotate_left
        · simp only [Act.put, List.setIfInBounds_toArray, List.set_cons_zero, List.set_cons_succ, i64_w, i32_w]
          rfl
        refine pure_ (i := 10) (N := some 34) (v := ?_) (a' := ?_) #[true, true, true, true, true, true, true, true, true, true, true] rfl rfl (by kernel_rfl) (fun _ _ _ h => h) (Or.inl ⟨by rfl, ?_⟩) ?_ ?_
        rotate_left
        · intro w'
          go_simp
          with_reducible rfl
        rotate_left
        · simp only [Act.put, List.setIfInBounds_toArray, List.set_cons_zero, List.set_cons_succ, i64_w, i32_w]
          rfl
        refine done_ (by kernel_rfl) ?_
        go_wp2_with (first
          | ((with_reducible refine gate_dst (N := 35) rfl ?_); refine wp_ldpk rfl (.tmp 7) rfl rfl hH9.P ?_)
          | ((with_reducible refine gate_store (t := 26) (p := 2) rfl ?_)
             refine wp_stpk (p := q) (A := A5) (L := d) (c := c5) rfl rfl rfl rfl hH9.G.R rfl ?_
             intro y4 hP hO
             have HE4 := Lib.hid (And.intro hP hO)
             clear hP hO))
        (try simp only [Exit.inBlock, Exit.then])
        refine bodyPost_ret (results_ct rfl _ _ w.heap.size _ _ _ _ rfl HE4.out.1 Tryd.underlying26 rfl (show (Tryd.prog.info? 26).map (·.size) = some 20 by kernel_rfl)) rfl ?_
        exact ⟨.slice A5 d c5, by rw [HG.out.1, HG.out.2, HQ.out]; rfl, by rw [HG.out.1, HQ.out]; exact hH9.D.only HE4.out.2 hH9.G.R, HE4.out.2.below hH9.G.be (Nat.le_refl _)⟩
      · rw [decide_eq_false heq] at hcmp
        have HNH : Hid (¬ hitG B 2) := Lib.hid (fun h => heq (hhit.1 h).2)
        clear hw hq hd hhit hs2 hs1 heq hqd hokd
        go_upto_region 8 with (first
          | ((with_reducible refine gate_dst (N := 7) rfl ?_); refine wp_allocPk rfl rfl ?_; intro y5 hP hB hs; have H5 := Lib.hid (And.intro hP hB); clear hP hB hs)
          | ((with_reducible refine gate_store (t := 26) (p := 7) rfl ?_)
             refine wp_stpk (p := q) (A := A5) (L := d) (c := c5) rfl rfl rfl rfl H5.out.1 rfl ?_
             intro w7 hP hO
             have hb := hO.below H5.out.2 (Nat.le_refl _)
             have HC7 : Hid (GS2 w D v2 B w6 q (.slice A5 d c5) w7) := Lib.hid ⟨H6.out.1.below HD.out hb, hP, H6.out.2.below hb⟩
             clear hP hO hb H5 H6)
          | (go_at_call 33; refine (guess2_calls (D := D) _ v2 B HS.out.B (fun k hk => Nat.lt_of_lt_of_le (HD.out k hk) HS.out.be.size)).mono ?_; unfold GesR; rw [HGQ.out]; rintro e w6 ⟨v6, rfl, ho, hb⟩; obtain ⟨A5, c5, rfl, _⟩ := ho.val; rw [← HDQ.out] at ho ⊢; have H6 := Lib.hid (And.intro (HS.out.below HD.out hb) (ho.base HS.out.be.size)); clear ho hb HS))
        refine start_ (n := 11) (S := fun w' => GS2 w D v2 B w6 q (.slice A5 d c5) w') (ds := []) #[false, false, false, false, false, false, false, false, false, false, false] (by kernel_rfl) rfl rfl (HC7.out.drew HD.out) (fun hHeld => ?_)
        refine take_ (i := 0) (N := some 24) (v := pkV q (.slice A5 d c5)) #[true, false, false, false, false, false, false, false, false, false, false] rfl rfl (by kernel_rfl) (fun _ _ _ h => h) (Or.inl ⟨by rfl, fun w' hs => run_ldpk (.tmp 7) rfl rfl hs.P⟩) hHeld rfl ?_
        refine norm_ (a' := ?_) ?_ ?_
        rotate_left
        · show Act.put _ (some 24) _ = _
          simp only [Act.put, List.setIfInBounds_toArray, List.set_cons_zero, List.set_cons_succ, i64_w, i32_w]
          rfl
        refine one_ (i := 1) (N := some 25) #[true, true, false, false, false, false, false, false, false, false, false] rfl rfl (by kernel_rfl) (by decide) (fun K hK => ?_)
        refine call_ 10 #[pkV q (.slice A5 d c5)] (by rfl) rfl ?_ ?_
        · have he := enters_ (P := Tryd.prog) Tryd.func10 (by kernel_rfl) rfl #[pkV q (.slice A5 d c5)] w7.drew
          unfold execOp
          simp [resolve, Deferred.ofValue, invoke, Act.eval, he]
        refine (rcheck_calls q (.slice A5 d c5) w7.drew (hHeld.D.rb.rdlt) HPB.out).mono ?_
        rw [HW.out]
        rintro e w8 ⟨rfl, hb⟩
        refine ⟨_, rfl, ?_⟩
        have hH8x := hHeld.below HD.out hb
        clear hb
        refine hK.out _ _ hH8x (fun hH8 => ?_)
        clear hK K hH8x hHeld
        refine norm_ (a' := ?_) ?_ ?_
        rotate_left
        · show Act.put _ (some 25) _ = _
          simp only [Act.put, List.setIfInBounds_toArray, List.set_cons_zero, List.set_cons_succ, i64_w, i32_w]
          rfl
        refine pure_ (i := 2) (N := some 26) (v := ?_) (a' := ?_) #[true, true, true, false, false, false, false, false, false, false, false] rfl rfl (by kernel_rfl) (fun _ _ _ h => h) (Or.inl ⟨by rfl, ?_⟩) ?_ ?_
        rotate_left
        · intro w'
          go_simp
          with_reducible rfl
        rotate_left
        · simp only [Act.put, List.setIfInBounds_toArray, List.set_cons_zero, List.set_cons_succ, i64_w, i32_w]
          rfl
        refine pure_ (i := 3) (N := some 27) (v := ?_) (a' := ?_) #[true, true, true, true, false, false, false, false, false, false, false] rfl rfl (by kernel_rfl) (fun _ _ _ h => h) (Or.inl ⟨by rfl, ?_⟩) ?_ ?_
        rotate_left
        · intro w'
          go_simp
          with_reducible rfl
        rotate_left
        · simp only [Act.put, List.setIfInBounds_toArray, List.set_cons_zero, List.set_cons_succ, i64_w, i32_w]
          rfl
        refine take_ (i := 4) (N := some 28) (v := pkV q (.slice A5 d c5)) #[true, true, true, true, true, false, false, false, false, false, false] rfl rfl (by kernel_rfl) (fun _ _ _ h => h) (Or.inl ⟨by rfl, fun w' hs => run_ldpk (.tmp 7) rfl rfl hs.P⟩) hH8 rfl ?_
        refine norm_ (a' := ?_) ?_ ?_
        rotate_left
        · show Act.put _ (some 28) _ = _
          simp only [Act.put, List.setIfInBounds_toArray, List.set_cons_zero, List.set_cons_succ, i64_w, i32_w]
          rfl
        refine pure_ (i := 7) (N := some 31) (v := ?_) (a' := ?_) #[true, true, true, true, true, false, false, true, false, false, false] rfl rfl (by kernel_rfl) (fun _ _ _ h => h) (Or.inl ⟨by rfl, ?_⟩) ?_ ?_
        rotate_left
        · intro w'
          go_simp
          with_reducible rfl
        rotate_left
        · simp only [Act.put, List.setIfInBounds_toArray, List.set_cons_zero, List.set_cons_succ, i64_w, i32_w]
          rfl
        refine take_ (i := 8) (N := some 32) (v := .string s2) #[true, true, true, true, true, false, false, true, true, false, false] rfl rfl (by kernel_rfl) (fun _ _ _ h => h) (Or.inl ⟨by rfl, fun w' hs => run_cnv (.tmp 31) rfl rfl (HS2.out ▸ hs.G.B.str)⟩) hH8 rfl ?_
        refine norm_ (a' := ?_) ?_ ?_
        rotate_left
        · show Act.put _ (some 32) _ = _
          simp only [Act.put, List.setIfInBounds_toArray, List.set_cons_zero, List.set_cons_succ, i64_w, i32_w]
          rfl
        refine one_ (i := 5) (N := some 29) #[true, true, true, true, true, true, false, true, true, false, false] rfl rfl (by kernel_rfl) (by decide) (fun K hK => ?_)
        refine call_ 29 #[pkV q (.slice A5 d c5)] (by rfl) rfl ?_ ?_
        · have he := enters_ (P := Tryd.prog) Tryd.func29 (by kernel_rfl) rfl #[pkV q (.slice A5 d c5)] w8
          unfold execOp
          simp [resolve, Deferred.ofValue, invoke, Act.eval, he]
        refine (rbody_calls q (.slice A5 d c5) w8 hH8.D.rb.rdlt HW.out).mono ?_
        rintro e w9 ⟨v9, rfl, ho, hb⟩
        refine ⟨_, rfl, ?_⟩
        have hH9x := hH8.below HD.out hb
        have hs9 := ho.rb.rdt.str
        rw [HS1.out] at hs9
        clear ho hb
        refine hK.out _ _ hH9x (fun hH9 => ?_)
        clear hK K hH9x hH8
        refine norm_ (a' := ?_) ?_ ?_
        rotate_left
        · show Act.put _ (some 29) _ = _
          simp only [Act.put, List.setIfInBounds_toArray, List.set_cons_zero, List.set_cons_succ, i64_w, i32_w]
          rfl
        refine one_ (i := 6) (N := some 30) #[true, true, true, true, true, true, true, true, true, false, false] rfl rfl (by kernel_rfl) (by decide) (fun K hK => ?_)
        refine value_ (by rfl) rfl (run_cnv (.tmp 29) rfl rfl hs9) ?_
        refine hK.out _ _ hH9 (fun _ => ?_)
        clear hK K
        refine norm_ (a' := ?_) ?_ ?_
        rotate_left
        · show Act.put _ (some 30) _ = _
          simp only [Act.put, List.setIfInBounds_toArray, List.set_cons_zero, List.set_cons_succ, i64_w, i32_w]
          rfl
        refine pure_ (i := 9) (N := some 33) (v := ?_) (a' := ?_) #[true, true, true, true, true, true, true, true, true, true, false] rfl rfl (by kernel_rfl) (fun _ _ _ h => h) (Or.inl ⟨by rfl, ?_⟩) ?_ ?_
        rotate_left
        · intro w'
          go_simp
          with_reducible rfl
        rotate_left
        · simp only [Act.put, List.setIfInBounds_toArray, List.set_cons_zero, List.set_cons_succ, i64_w, i32_w]
          rfl
        refine pure_ (i := 10) (N := some 34) (v := ?_) (a' := ?_) #[true, true, true, true, true, true, true, true, true, true, true] rfl rfl (by kernel_rfl) (fun _ _ _ h => h) (Or.inl ⟨by rfl, ?_⟩) ?_ ?_
        rotate_left
        · intro w'
          go_simp
          with_reducible rfl
        rotate_left
        · simp only [Act.put, List.setIfInBounds_toArray, List.set_cons_zero, List.set_cons_succ, i64_w, i32_w]
          rfl
        refine done_ (by kernel_rfl) ?_
        have HS9 : Hid (GR w D v2 B w9) := Lib.hid hH9.G
        clear hH9
        go_wp2
        go_roundg (1)
        case measure => have := HK.out; omega
        case rel => exact ⟨3, rfl, Lib.hid ⟨rfl, .inr (.inr ⟨rfl, HN1.out, HNH.out⟩)⟩, HS9⟩
    · obtain ⟨rfl, h1, h2⟩ := hk
      have HQ := Lib.hid (hit_no HB.out.2 h1 h2)
      clear h1 h2 hs2
      go_wp2_with (first
        | ((with_reducible refine gate_store (t := 26) (p := 2) rfl ?_)
           refine wp_stpk (p := pk0) (A := none) (L := 0) (c := 0) rfl rfl rfl rfl HS.out.R rfl ?_
           intro w4 hP hO
           have HE4 := Lib.hid (And.intro hP hO)
           clear hP hO))
      (try simp only [Exit.inBlock, Exit.then])
      refine bodyPost_ret (results_ct rfl _ _ w.heap.size _ _ _ _ rfl HE4.out.1 Tryd.underlying26 rfl (show (Tryd.prog.info? 26).map (·.size) = some 20 by kernel_rfl)) rfl ?_
      exact ⟨.slice none 0 0, by rw [HG.out.1, HG.out.2, HQ.out]; rfl, by rw [HG.out.1, HQ.out]; exact OB.nil _ _, HE4.out.2.below HS.out.be (Nat.le_refl _)⟩
end
end Go.Proofs.YtfcofokbhhnfkaaDoor.Byt
