/- blocking.symbols, blocking.why, blocking.Check by their contracts. Printed by mkw14.py. -/
import Derived.Test.YtfcofokbhhnfkaaDoorRng
import Derived.Test.YtfcofokbhhnfkaaDoorUp
namespace Go.Proofs.YtfcofokbhhnfkaaDoor.Byt
set_option linter.unusedSimpArgs false
set_option linter.unusedVariables false
open Go.RowKit Go.Deep Go.Proofs.YtfcofokbhhnfkaaDoor.Er Go.Proofs.YtfcofokbhhnfkaaDoorW.PrintWords Go.Proofs.YtfcofokbhhnfkaaDoorW.PrintLast
theorem up_eq (n m : Int) (h0 : 0 ≤ n) (h1 : n ≤ 4294967295) (hm : 1 ≤ m) : wrap64 (wrap64 (Int.tdiv n m) + (if Int.tmod n m > 0 then 1 else 0)) = n / m + if n % m > 0 then 1 else 0 := by
  have e1 : Int.tdiv n m = n / m := Int.tdiv_eq_ediv_of_nonneg h0
  have e2 : Int.tmod n m = n % m := Int.tmod_eq_emod_of_nonneg h0
  have h2 : 0 ≤ n / m := Int.ediv_nonneg h0 (by omega)
  have h3 : n / m ≤ n := Int.ediv_le_self _ h0
  rw [e1, e2, w64 (n := n / m) ⟨by omega, by omega⟩]
  split <;> exact w64 ⟨by omega, by omega⟩
set_option maxHeartbeats 4000000 in
theorem symbols_calls (n m : Int) (w : World) (h : 0 ≤ n ∧ n ≤ 4294967295 ∧ 1 ≤ m) : Calls Tryd.prog 56 #[.int .i64 n, .int .i64 m] w fun e w' => e = .returned (.int .i64 (symN n m)) ∧ Below w.heap.size w w' := by
  have HU := Lib.hid (up_eq n m h.1 h.2.1 h.2.2)
  have hm : m ≠ 0 := by omega
  have HM := Lib.hid hm
  obtain ⟨u, hu⟩ : ∃ u, u = n / m + if n % m > 0 then 1 else 0 := ⟨_, rfl⟩
  have HS : Hid (symN n m = if u < 1 then 1 else u) := Lib.hid (by rw [hu]; rfl)
  rw [← hu] at HU
  rw [HS.out]
  clear hm hu h
  go_enter Tryd.func56, Tryd.ntmps56
  go_wp2_with (first | (go_at_call 57; refine (Wire.up_calls n m w HM.out).mono ?_; rw [HU.out]; rintro e w1 ⟨rfl, hb⟩; have HB := Lib.hid hb; clear hb))
  · go_ret
    exact ⟨congrArg (fun z => Ending.returned (Value.int .i64 z)) (show max 1 u = 1 by omega), HB.out⟩
  · go_ret
    exact ⟨congrArg (fun z => Ending.returned (Value.int .i64 z)) (show max 1 u = u by omega), HB.out⟩
set_option maxHeartbeats 16000000 in
set_option maxRecDepth 100000 in
theorem why14_calls (size sym blocks long short : Int) (w : World) (hsz : size ≤ 4294967295) : Calls Tryd.prog 54 #[planV size sym blocks long short] w fun e w' => ∃ n : Int, e = .returned (.int .i64 n) ∧ (n = 0 ↔ PlanOk size sym blocks long short) ∧ Below w.heap.size w w' := by
  by_cases h_p1 : size < 0
  · skip
    have HR : Hid (¬ PlanOk size sym blocks long short) := Lib.hid (fun h => by simp only [PlanOk] at h; split at h <;> omega)
    have f_p1 : decide (size < 0) = true := decide_eq_true h_p1
    clear h_p1
    go_enter Tryd.func54, Tryd.ntmps54
    go_wp2_with (first
      | ((with_reducible refine gate_dst (N := 1) rfl ?_); refine wp_boxPl rfl (.tmp 0) rfl rfl ?_; intro w1 hP hB; have HB := Lib.hid hB; obtain ⟨s0, s1, s2, s3, s4⟩ := Wire.cell5 hP; clear hP hB))
    go_ret
    exact ⟨1, rfl, ⟨fun h => (by cases h), fun h => absurd h HR.out⟩, HB.out⟩
  by_cases h_p2 : sym < 1
  · skip
    have HR : Hid (¬ PlanOk size sym blocks long short) := Lib.hid (fun h => by simp only [PlanOk] at h; split at h <;> omega)
    have f_p1 : decide (size < 0) = false := decide_eq_false h_p1
    have f_p2 : decide (sym < 1) = true := decide_eq_true h_p2
    clear h_p1 h_p2
    go_enter Tryd.func54, Tryd.ntmps54
    go_wp2_with (first
      | ((with_reducible refine gate_dst (N := 1) rfl ?_); refine wp_boxPl rfl (.tmp 0) rfl rfl ?_; intro w1 hP hB; have HB := Lib.hid hB; obtain ⟨s0, s1, s2, s3, s4⟩ := Wire.cell5 hP; clear hP hB))
    go_ret
    exact ⟨1, rfl, ⟨fun h => (by cases h), fun h => absurd h HR.out⟩, HB.out⟩
  by_cases h_p3 : 64 < sym
  · skip
    have HR : Hid (¬ PlanOk size sym blocks long short) := Lib.hid (fun h => by simp only [PlanOk] at h; split at h <;> omega)
    have f_p1 : decide (size < 0) = false := decide_eq_false h_p1
    have f_p2 : decide (sym < 1) = false := decide_eq_false h_p2
    have f_p3 : decide (64 < sym) = true := decide_eq_true h_p3
    clear h_p1 h_p2 h_p3
    go_enter Tryd.func54, Tryd.ntmps54
    go_wp2_with (first
      | ((with_reducible refine gate_dst (N := 1) rfl ?_); refine wp_boxPl rfl (.tmp 0) rfl rfl ?_; intro w1 hP hB; have HB := Lib.hid hB; obtain ⟨s0, s1, s2, s3, s4⟩ := Wire.cell5 hP; clear hP hB))
    go_ret
    exact ⟨1, rfl, ⟨fun h => (by cases h), fun h => absurd h HR.out⟩, HB.out⟩
  by_cases h_b1 : 0 < long
  · skip
    by_cases h_b2 : short < 129
    · skip
      by_cases h_c1 : blocks < 1
      · skip
        have HR : Hid (¬ PlanOk size sym blocks long short) := Lib.hid (fun h => by simp only [PlanOk] at h; split at h <;> omega)
        have f_p1 : decide (size < 0) = false := decide_eq_false h_p1
        have f_p2 : decide (sym < 1) = false := decide_eq_false h_p2
        have f_p3 : decide (64 < sym) = false := decide_eq_false h_p3
        have f_b1 : decide (0 < long) = true := decide_eq_true h_b1
        have f_b2 : decide (short < 129) = true := decide_eq_true h_b2
        have f_c1 : decide (blocks < 1) = true := decide_eq_true h_c1
        clear h_p1 h_p2 h_p3 h_b1 h_b2 h_c1
        go_enter Tryd.func54, Tryd.ntmps54
        go_wp2_with (first
          | ((with_reducible refine gate_dst (N := 1) rfl ?_); refine wp_boxPl rfl (.tmp 0) rfl rfl ?_; intro w1 hP hB; have HB := Lib.hid hB; obtain ⟨s0, s1, s2, s3, s4⟩ := Wire.cell5 hP; clear hP hB))
        go_ret
        exact ⟨2, rfl, ⟨fun h => (by cases h), fun h => absurd h HR.out⟩, HB.out⟩
      by_cases h_c2 : 16 < blocks
      · skip
        have HR : Hid (¬ PlanOk size sym blocks long short) := Lib.hid (fun h => by simp only [PlanOk] at h; split at h <;> omega)
        have f_p1 : decide (size < 0) = false := decide_eq_false h_p1
        have f_p2 : decide (sym < 1) = false := decide_eq_false h_p2
        have f_p3 : decide (64 < sym) = false := decide_eq_false h_p3
        have f_b1 : decide (0 < long) = true := decide_eq_true h_b1
        have f_b2 : decide (short < 129) = true := decide_eq_true h_b2
        have f_c1 : decide (blocks < 1) = false := decide_eq_false h_c1
        have f_c2 : decide (16 < blocks) = true := decide_eq_true h_c2
        clear h_p1 h_p2 h_p3 h_b1 h_b2 h_c1 h_c2
        go_enter Tryd.func54, Tryd.ntmps54
        go_wp2_with (first
          | ((with_reducible refine gate_dst (N := 1) rfl ?_); refine wp_boxPl rfl (.tmp 0) rfl rfl ?_; intro w1 hP hB; have HB := Lib.hid hB; obtain ⟨s0, s1, s2, s3, s4⟩ := Wire.cell5 hP; clear hP hB))
        go_ret
        exact ⟨2, rfl, ⟨fun h => (by cases h), fun h => absurd h HR.out⟩, HB.out⟩
      by_cases h_c3 : long < 0
      · skip
        have HR : Hid (¬ PlanOk size sym blocks long short) := Lib.hid (fun h => by simp only [PlanOk] at h; split at h <;> omega)
        have f_p1 : decide (size < 0) = false := decide_eq_false h_p1
        have f_p2 : decide (sym < 1) = false := decide_eq_false h_p2
        have f_p3 : decide (64 < sym) = false := decide_eq_false h_p3
        have f_b1 : decide (0 < long) = true := decide_eq_true h_b1
        have f_b2 : decide (short < 129) = true := decide_eq_true h_b2
        have f_c1 : decide (blocks < 1) = false := decide_eq_false h_c1
        have f_c2 : decide (16 < blocks) = false := decide_eq_false h_c2
        have f_c3 : decide (long < 0) = true := decide_eq_true h_c3
        clear h_p1 h_p2 h_p3 h_b1 h_b2 h_c1 h_c2 h_c3
        go_enter Tryd.func54, Tryd.ntmps54
        go_wp2_with (first
          | ((with_reducible refine gate_dst (N := 1) rfl ?_); refine wp_boxPl rfl (.tmp 0) rfl rfl ?_; intro w1 hP hB; have HB := Lib.hid hB; obtain ⟨s0, s1, s2, s3, s4⟩ := Wire.cell5 hP; clear hP hB))
        go_ret
        exact ⟨2, rfl, ⟨fun h => (by cases h), fun h => absurd h HR.out⟩, HB.out⟩
      by_cases h_c4 : blocks ≤ long
      · skip
        have HR : Hid (¬ PlanOk size sym blocks long short) := Lib.hid (fun h => by simp only [PlanOk] at h; split at h <;> omega)
        have f_p1 : decide (size < 0) = false := decide_eq_false h_p1
        have f_p2 : decide (sym < 1) = false := decide_eq_false h_p2
        have f_p3 : decide (64 < sym) = false := decide_eq_false h_p3
        have f_b1 : decide (0 < long) = true := decide_eq_true h_b1
        have f_b2 : decide (short < 129) = true := decide_eq_true h_b2
        have f_c1 : decide (blocks < 1) = false := decide_eq_false h_c1
        have f_c2 : decide (16 < blocks) = false := decide_eq_false h_c2
        have f_c3 : decide (long < 0) = false := decide_eq_false h_c3
        have f_c4 : decide (blocks ≤ long) = true := decide_eq_true h_c4
        clear h_p1 h_p2 h_p3 h_b1 h_b2 h_c1 h_c2 h_c3 h_c4
        go_enter Tryd.func54, Tryd.ntmps54
        go_wp2_with (first
          | ((with_reducible refine gate_dst (N := 1) rfl ?_); refine wp_boxPl rfl (.tmp 0) rfl rfl ?_; intro w1 hP hB; have HB := Lib.hid hB; obtain ⟨s0, s1, s2, s3, s4⟩ := Wire.cell5 hP; clear hP hB))
        go_ret
        exact ⟨2, rfl, ⟨fun h => (by cases h), fun h => absurd h HR.out⟩, HB.out⟩
      by_cases h_c5 : short < 1
      · skip
        have HR : Hid (¬ PlanOk size sym blocks long short) := Lib.hid (fun h => by simp only [PlanOk] at h; split at h <;> omega)
        have f_p1 : decide (size < 0) = false := decide_eq_false h_p1
        have f_p2 : decide (sym < 1) = false := decide_eq_false h_p2
        have f_p3 : decide (64 < sym) = false := decide_eq_false h_p3
        have f_b1 : decide (0 < long) = true := decide_eq_true h_b1
        have f_b2 : decide (short < 129) = true := decide_eq_true h_b2
        have f_c1 : decide (blocks < 1) = false := decide_eq_false h_c1
        have f_c2 : decide (16 < blocks) = false := decide_eq_false h_c2
        have f_c3 : decide (long < 0) = false := decide_eq_false h_c3
        have f_c4 : decide (blocks ≤ long) = false := decide_eq_false h_c4
        have f_c5 : decide (short < 1) = true := decide_eq_true h_c5
        clear h_p1 h_p2 h_p3 h_b1 h_b2 h_c1 h_c2 h_c3 h_c4 h_c5
        go_enter Tryd.func54, Tryd.ntmps54
        go_wp2_with (first
          | ((with_reducible refine gate_dst (N := 1) rfl ?_); refine wp_boxPl rfl (.tmp 0) rfl rfl ?_; intro w1 hP hB; have HB := Lib.hid hB; obtain ⟨s0, s1, s2, s3, s4⟩ := Wire.cell5 hP; clear hP hB))
        go_ret
        exact ⟨2, rfl, ⟨fun h => (by cases h), fun h => absurd h HR.out⟩, HB.out⟩
      by_cases h_c6 : 128 < short + 1
      · skip
        have HR : Hid (¬ PlanOk size sym blocks long short) := Lib.hid (fun h => by simp only [PlanOk] at h; split at h <;> omega)
        have hw : wrap64 (short + 1) = short + 1 := w64 ⟨by omega, by omega⟩
        have f_p1 : decide (size < 0) = false := decide_eq_false h_p1
        have f_p2 : decide (sym < 1) = false := decide_eq_false h_p2
        have f_p3 : decide (64 < sym) = false := decide_eq_false h_p3
        have f_b1 : decide (0 < long) = true := decide_eq_true h_b1
        have f_b2 : decide (short < 129) = true := decide_eq_true h_b2
        have f_c1 : decide (blocks < 1) = false := decide_eq_false h_c1
        have f_c2 : decide (16 < blocks) = false := decide_eq_false h_c2
        have f_c3 : decide (long < 0) = false := decide_eq_false h_c3
        have f_c4 : decide (blocks ≤ long) = false := decide_eq_false h_c4
        have f_c5 : decide (short < 1) = false := decide_eq_false h_c5
        have f_c6 : decide (128 < short + 1) = true := decide_eq_true h_c6
        clear h_p1 h_p2 h_p3 h_b1 h_b2 h_c1 h_c2 h_c3 h_c4 h_c5 h_c6
        go_enter Tryd.func54, Tryd.ntmps54
        go_wp2_with (first
          | ((with_reducible refine gate_dst (N := 1) rfl ?_); refine wp_boxPl rfl (.tmp 0) rfl rfl ?_; intro w1 hP hB; have HB := Lib.hid hB; obtain ⟨s0, s1, s2, s3, s4⟩ := Wire.cell5 hP; clear hP hB))
        go_ret
        exact ⟨2, rfl, ⟨fun h => (by cases h), fun h => absurd h HR.out⟩, HB.out⟩
      have HR : Hid (blocks * short + long = symN size sym ↔ PlanOk size sym blocks long short) := Lib.hid ⟨fun h => ⟨by omega, by omega, by omega, by omega, by omega, by split <;> omega, h⟩, fun h => h.2.2.2.2.2.2⟩
      have HSZ : Hid (0 ≤ size ∧ size ≤ 4294967295 ∧ 1 ≤ sym) := Lib.hid (by omega)
      obtain ⟨X, hX⟩ : ∃ X, X = blocks * short := ⟨_, rfl⟩
      have hX2 : 0 ≤ X ∧ X ≤ 16 * 128 := by rw [hX]; exact ⟨Int.mul_nonneg (by omega) (by omega), Int.mul_le_mul (by omega) (by omega) (by omega) (by omega)⟩
      have hwX : wrap64 (blocks * short) = X := by rw [← hX]; exact w64 ⟨by omega, by omega⟩
      have hwY : wrap64 (X + long) = X + long := w64 ⟨by omega, by omega⟩
      rw [← hX] at HR
      have hw : wrap64 (short + 1) = short + 1 := w64 ⟨by omega, by omega⟩
      have f_p1 : decide (size < 0) = false := decide_eq_false h_p1
      have f_p2 : decide (sym < 1) = false := decide_eq_false h_p2
      have f_p3 : decide (64 < sym) = false := decide_eq_false h_p3
      have f_b1 : decide (0 < long) = true := decide_eq_true h_b1
      have f_b2 : decide (short < 129) = true := decide_eq_true h_b2
      have f_c1 : decide (blocks < 1) = false := decide_eq_false h_c1
      have f_c2 : decide (16 < blocks) = false := decide_eq_false h_c2
      have f_c3 : decide (long < 0) = false := decide_eq_false h_c3
      have f_c4 : decide (blocks ≤ long) = false := decide_eq_false h_c4
      have f_c5 : decide (short < 1) = false := decide_eq_false h_c5
      have f_c6 : decide (128 < short + 1) = false := decide_eq_false h_c6
      clear hX hX2 h_p1 h_p2 h_p3 h_b1 h_b2 h_c1 h_c2 h_c3 h_c4 h_c5 h_c6
      go_enter Tryd.func54, Tryd.ntmps54
      go_upto_region 8 with (first
        | ((with_reducible refine gate_dst (N := 1) rfl ?_); refine wp_boxPl rfl (.tmp 0) rfl rfl ?_; intro w1 hP hB; have HB := Lib.hid hB; obtain ⟨s0, s1, s2, s3, s4⟩ := Wire.cell5 hP; clear hP hB))
      refine start_ (n := 14) (S := fun w' => w'.cell? ⟨w.heap.size, 0, none⟩ = some (.int .i64 size) ∧ w'.cell? ⟨w.heap.size, 1, none⟩ = some (.int .i64 sym) ∧ w'.cell? ⟨w.heap.size, 2, none⟩ = some (.int .i64 blocks) ∧ w'.cell? ⟨w.heap.size, 3, none⟩ = some (.int .i64 long) ∧ w'.cell? ⟨w.heap.size, 4, none⟩ = some (.int .i64 short) ∧ Below w.heap.size w w') (ds := []) #[false, false, false, false, false, false, false, false, false, false, false, false, false, false] (by kernel_rfl) rfl rfl ⟨s0, s1, s2, s3, s4, HB.out.drew⟩ (fun hHeld => ?_)
      refine pure_ (i := 0) (N := some 59) (v := ?_) (a' := ?_) #[true, false, false, false, false, false, false, false, false, false, false, false, false, false] rfl rfl (by kernel_rfl) (fun _ _ _ h => h) (Or.inl ⟨by rfl, ?_⟩) ?_ ?_
      rotate_left
      · intro w'
        go_simp
        with_reducible rfl
      rotate_left
      · simp only [Act.put, List.setIfInBounds_toArray, List.set_cons_zero, List.set_cons_succ, i64_w, i32_w]
        rfl
      refine take_ (i := 1) (N := some 60) (v := ?_) (a' := ?_) #[true, true, false, false, false, false, false, false, false, false, false, false, false, false] rfl rfl (by kernel_rfl) (fun _ _ _ h => h) (Or.inl ⟨by rfl, ?_⟩) hHeld ?_ ?_
      rotate_left
      · rintro w' ⟨s0, s1, s2, s3, s4, s5⟩
        go_simp
        with_reducible rfl
      rotate_left
      · simp only [Act.put, List.setIfInBounds_toArray, List.set_cons_zero, List.set_cons_succ, i64_w, i32_w]
        rfl
      refine pure_ (i := 2) (N := some 61) (v := ?_) (a' := ?_) #[true, true, true, false, false, false, false, false, false, false, false, false, false, false] rfl rfl (by kernel_rfl) (fun _ _ _ h => h) (Or.inl ⟨by rfl, ?_⟩) ?_ ?_
      rotate_left
      · intro w'
        go_simp
        with_reducible rfl
      rotate_left
      · simp only [Act.put, List.setIfInBounds_toArray, List.set_cons_zero, List.set_cons_succ, i64_w, i32_w]
        rfl
      refine take_ (i := 3) (N := some 62) (v := ?_) (a' := ?_) #[true, true, true, true, false, false, false, false, false, false, false, false, false, false] rfl rfl (by kernel_rfl) (fun _ _ _ h => h) (Or.inl ⟨by rfl, ?_⟩) hHeld ?_ ?_
      rotate_left
      · rintro w' ⟨s0, s1, s2, s3, s4, s5⟩
        go_simp
        with_reducible rfl
      rotate_left
      · simp only [Act.put, List.setIfInBounds_toArray, List.set_cons_zero, List.set_cons_succ, i64_w, i32_w]
        rfl
      refine pure_ (i := 4) (N := some 63) (v := ?_) (a' := ?_) #[true, true, true, true, true, false, false, false, false, false, false, false, false, false] rfl rfl (by kernel_rfl) (fun _ _ _ h => h) (Or.inl ⟨by rfl, ?_⟩) ?_ ?_
      rotate_left
      · intro w'
        go_simp
        with_reducible rfl
      rotate_left
      · simp only [Act.put, List.setIfInBounds_toArray, List.set_cons_zero, List.set_cons_succ, i64_w, i32_w]
        rfl
      refine pure_ (i := 5) (N := some 64) (v := ?_) (a' := ?_) #[true, true, true, true, true, true, false, false, false, false, false, false, false, false] rfl rfl (by kernel_rfl) (fun _ _ _ h => h) (Or.inl ⟨by rfl, ?_⟩) ?_ ?_
      rotate_left
      · intro w'
        go_simp
        with_reducible rfl
      rotate_left
      · simp only [Act.put, List.setIfInBounds_toArray, List.set_cons_zero, List.set_cons_succ, i64_w, i32_w]
        rfl
      refine take_ (i := 6) (N := some 65) (v := ?_) (a' := ?_) #[true, true, true, true, true, true, true, false, false, false, false, false, false, false] rfl rfl (by kernel_rfl) (fun _ _ _ h => h) (Or.inl ⟨by rfl, ?_⟩) hHeld ?_ ?_
      rotate_left
      · rintro w' ⟨s0, s1, s2, s3, s4, s5⟩
        go_simp
        with_reducible rfl
      rotate_left
      · simp only [Act.put, List.setIfInBounds_toArray, List.set_cons_zero, List.set_cons_succ, i64_w, i32_w]
        rfl
      refine pure_ (i := 7) (N := some 66) (v := ?_) (a' := ?_) #[true, true, true, true, true, true, true, true, false, false, false, false, false, false] rfl rfl (by kernel_rfl) (fun _ _ _ h => h) (Or.inl ⟨by rfl, ?_⟩) ?_ ?_
      rotate_left
      · intro w'
        go_simp
        with_reducible rfl
      rotate_left
      · simp only [Act.put, List.setIfInBounds_toArray, List.set_cons_zero, List.set_cons_succ, i64_w, i32_w]
        rfl
      refine pure_ (i := 8) (N := some 67) (v := ?_) (a' := ?_) #[true, true, true, true, true, true, true, true, true, false, false, false, false, false] rfl rfl (by kernel_rfl) (fun _ _ _ h => h) (Or.inl ⟨by rfl, ?_⟩) ?_ ?_
      rotate_left
      · intro w'
        go_simp
        with_reducible rfl
      rotate_left
      · simp only [Act.put, List.setIfInBounds_toArray, List.set_cons_zero, List.set_cons_succ, i64_w, i32_w]
        rfl
      refine take_ (i := 9) (N := some 68) (v := ?_) (a' := ?_) #[true, true, true, true, true, true, true, true, true, true, false, false, false, false] rfl rfl (by kernel_rfl) (fun _ _ _ h => h) (Or.inl ⟨by rfl, ?_⟩) hHeld ?_ ?_
      rotate_left
      · rintro w' ⟨s0, s1, s2, s3, s4, s5⟩
        go_simp
        with_reducible rfl
      rotate_left
      · simp only [Act.put, List.setIfInBounds_toArray, List.set_cons_zero, List.set_cons_succ, i64_w, i32_w]
        rfl
      refine pure_ (i := 10) (N := some 69) (v := ?_) (a' := ?_) #[true, true, true, true, true, true, true, true, true, true, true, false, false, false] rfl rfl (by kernel_rfl) (fun _ _ _ h => h) (Or.inl ⟨by rfl, ?_⟩) ?_ ?_
      rotate_left
      · intro w'
        go_simp
        with_reducible rfl
      rotate_left
      · simp only [Act.put, List.setIfInBounds_toArray, List.set_cons_zero, List.set_cons_succ, i64_w, i32_w]
        rfl
      refine take_ (i := 11) (N := some 70) (v := ?_) (a' := ?_) #[true, true, true, true, true, true, true, true, true, true, true, true, false, false] rfl rfl (by kernel_rfl) (fun _ _ _ h => h) (Or.inl ⟨by rfl, ?_⟩) hHeld ?_ ?_
      rotate_left
      · rintro w' ⟨s0, s1, s2, s3, s4, s5⟩
        go_simp
        with_reducible rfl
      rotate_left
      · simp only [Act.put, List.setIfInBounds_toArray, List.set_cons_zero, List.set_cons_succ, i64_w, i32_w]
        rfl
      refine one_ (i := 12) (N := some 71) #[true, true, true, true, true, true, true, true, true, true, true, true, true, false] rfl rfl (by kernel_rfl) (by decide) (fun K hK => ?_)
      refine call_ 56 #[.int .i64 size, .int .i64 sym] (by rfl) rfl ?_ ?_
      · have he := enters_ (P := Tryd.prog) Tryd.func56 (by kernel_rfl) rfl #[.int .i64 size, .int .i64 sym] w1.drew
        unfold execOp
        simp [resolve, Deferred.ofValue, invoke, Act.eval, he]
      · refine (symbols_calls size sym w1.drew HSZ.out).mono ?_
        rintro e w6 ⟨rfl, hB6⟩
        refine ⟨_, rfl, ?_⟩
        have hlt : w.heap.size < w1.drew.heap.size := World.block_lt_of_cell? w1.drew ⟨w.heap.size, 0, none⟩ hHeld.1
        have HS6 := Lib.hid (And.intro ((hB6.cell (p := ⟨w.heap.size, 0, none⟩) hlt).trans hHeld.1) (And.intro ((hB6.cell (p := ⟨w.heap.size, 1, none⟩) hlt).trans hHeld.2.1) (And.intro ((hB6.cell (p := ⟨w.heap.size, 2, none⟩) hlt).trans hHeld.2.2.1) (And.intro ((hB6.cell (p := ⟨w.heap.size, 3, none⟩) hlt).trans hHeld.2.2.2.1) (And.intro ((hB6.cell (p := ⟨w.heap.size, 4, none⟩) hlt).trans hHeld.2.2.2.2.1) (hHeld.2.2.2.2.2.trans (hB6.mono hHeld.2.2.2.2.2.size)))))))
        clear hB6 hlt
        refine hK.out _ _ HS6.out (fun hHeld6 => ?_)
        clear hK K hHeld
        refine norm_ (a' := ?_) ?_ ?_
        rotate_left
        · show Act.put _ (some 71) _ = _
          simp only [Act.put, List.setIfInBounds_toArray, List.set_cons_zero, List.set_cons_succ, i64_w, i32_w]
          rfl
        refine pure_ (i := 13) (N := some 72) (v := ?_) (a' := ?_) #[true, true, true, true, true, true, true, true, true, true, true, true, true, true] rfl rfl (by kernel_rfl) (fun _ _ _ h => h) (Or.inl ⟨by rfl, ?_⟩) ?_ ?_
        rotate_left
        · intro w'
          go_simp
          with_reducible rfl
        rotate_left
        · simp only [Act.put, List.setIfInBounds_toArray, List.set_cons_zero, List.set_cons_succ, i64_w, i32_w]
          rfl
        refine done_ (by kernel_rfl) ?_
        clear hHeld6
        obtain ⟨Y, hY⟩ : ∃ Y, Y = symN size sym := ⟨_, rfl⟩
        rw [← hY] at HR ⊢
        clear hY
        by_cases hq : X + long = Y
        · have HR2 := Lib.hid (HR.out.1 hq)
          have c_q : (X + long == Y) = true := beq_iff_eq.2 hq
          clear hq
          go_wp2
          go_ret
          exact ⟨0, rfl, ⟨fun _ => HR2.out, fun _ => rfl⟩, HS6.out.2.2.2.2.2⟩
        · have HR2 : Hid (¬ PlanOk size sym blocks long short) := Lib.hid (fun h => hq (HR.out.2 h))
          have c_q : (X + long == Y) = false := beq_eq_false_iff_ne.2 hq
          clear hq
          go_wp2
          go_ret
          exact ⟨2, rfl, ⟨fun h => (by cases h), fun h => absurd h HR2.out⟩, HS6.out.2.2.2.2.2⟩
    by_cases h_c1 : blocks < 1
    · skip
      have HR : Hid (¬ PlanOk size sym blocks long short) := Lib.hid (fun h => by simp only [PlanOk] at h; split at h <;> omega)
      have f_p1 : decide (size < 0) = false := decide_eq_false h_p1
      have f_p2 : decide (sym < 1) = false := decide_eq_false h_p2
      have f_p3 : decide (64 < sym) = false := decide_eq_false h_p3
      have f_b1 : decide (0 < long) = true := decide_eq_true h_b1
      have f_b2 : decide (short < 129) = false := decide_eq_false h_b2
      have f_c1 : decide (blocks < 1) = true := decide_eq_true h_c1
      clear h_p1 h_p2 h_p3 h_b1 h_b2 h_c1
      go_enter Tryd.func54, Tryd.ntmps54
      go_wp2_with (first
        | ((with_reducible refine gate_dst (N := 1) rfl ?_); refine wp_boxPl rfl (.tmp 0) rfl rfl ?_; intro w1 hP hB; have HB := Lib.hid hB; obtain ⟨s0, s1, s2, s3, s4⟩ := Wire.cell5 hP; clear hP hB))
      go_ret
      exact ⟨2, rfl, ⟨fun h => (by cases h), fun h => absurd h HR.out⟩, HB.out⟩
    by_cases h_c2 : 16 < blocks
    · skip
      have HR : Hid (¬ PlanOk size sym blocks long short) := Lib.hid (fun h => by simp only [PlanOk] at h; split at h <;> omega)
      have f_p1 : decide (size < 0) = false := decide_eq_false h_p1
      have f_p2 : decide (sym < 1) = false := decide_eq_false h_p2
      have f_p3 : decide (64 < sym) = false := decide_eq_false h_p3
      have f_b1 : decide (0 < long) = true := decide_eq_true h_b1
      have f_b2 : decide (short < 129) = false := decide_eq_false h_b2
      have f_c1 : decide (blocks < 1) = false := decide_eq_false h_c1
      have f_c2 : decide (16 < blocks) = true := decide_eq_true h_c2
      clear h_p1 h_p2 h_p3 h_b1 h_b2 h_c1 h_c2
      go_enter Tryd.func54, Tryd.ntmps54
      go_wp2_with (first
        | ((with_reducible refine gate_dst (N := 1) rfl ?_); refine wp_boxPl rfl (.tmp 0) rfl rfl ?_; intro w1 hP hB; have HB := Lib.hid hB; obtain ⟨s0, s1, s2, s3, s4⟩ := Wire.cell5 hP; clear hP hB))
      go_ret
      exact ⟨2, rfl, ⟨fun h => (by cases h), fun h => absurd h HR.out⟩, HB.out⟩
    by_cases h_c3 : long < 0
    · skip
      have HR : Hid (¬ PlanOk size sym blocks long short) := Lib.hid (fun h => by simp only [PlanOk] at h; split at h <;> omega)
      have f_p1 : decide (size < 0) = false := decide_eq_false h_p1
      have f_p2 : decide (sym < 1) = false := decide_eq_false h_p2
      have f_p3 : decide (64 < sym) = false := decide_eq_false h_p3
      have f_b1 : decide (0 < long) = true := decide_eq_true h_b1
      have f_b2 : decide (short < 129) = false := decide_eq_false h_b2
      have f_c1 : decide (blocks < 1) = false := decide_eq_false h_c1
      have f_c2 : decide (16 < blocks) = false := decide_eq_false h_c2
      have f_c3 : decide (long < 0) = true := decide_eq_true h_c3
      clear h_p1 h_p2 h_p3 h_b1 h_b2 h_c1 h_c2 h_c3
      go_enter Tryd.func54, Tryd.ntmps54
      go_wp2_with (first
        | ((with_reducible refine gate_dst (N := 1) rfl ?_); refine wp_boxPl rfl (.tmp 0) rfl rfl ?_; intro w1 hP hB; have HB := Lib.hid hB; obtain ⟨s0, s1, s2, s3, s4⟩ := Wire.cell5 hP; clear hP hB))
      go_ret
      exact ⟨2, rfl, ⟨fun h => (by cases h), fun h => absurd h HR.out⟩, HB.out⟩
    by_cases h_c4 : blocks ≤ long
    · skip
      have HR : Hid (¬ PlanOk size sym blocks long short) := Lib.hid (fun h => by simp only [PlanOk] at h; split at h <;> omega)
      have f_p1 : decide (size < 0) = false := decide_eq_false h_p1
      have f_p2 : decide (sym < 1) = false := decide_eq_false h_p2
      have f_p3 : decide (64 < sym) = false := decide_eq_false h_p3
      have f_b1 : decide (0 < long) = true := decide_eq_true h_b1
      have f_b2 : decide (short < 129) = false := decide_eq_false h_b2
      have f_c1 : decide (blocks < 1) = false := decide_eq_false h_c1
      have f_c2 : decide (16 < blocks) = false := decide_eq_false h_c2
      have f_c3 : decide (long < 0) = false := decide_eq_false h_c3
      have f_c4 : decide (blocks ≤ long) = true := decide_eq_true h_c4
      clear h_p1 h_p2 h_p3 h_b1 h_b2 h_c1 h_c2 h_c3 h_c4
      go_enter Tryd.func54, Tryd.ntmps54
      go_wp2_with (first
        | ((with_reducible refine gate_dst (N := 1) rfl ?_); refine wp_boxPl rfl (.tmp 0) rfl rfl ?_; intro w1 hP hB; have HB := Lib.hid hB; obtain ⟨s0, s1, s2, s3, s4⟩ := Wire.cell5 hP; clear hP hB))
      go_ret
      exact ⟨2, rfl, ⟨fun h => (by cases h), fun h => absurd h HR.out⟩, HB.out⟩
    by_cases h_c5 : short < 1
    · skip
      have HR : Hid (¬ PlanOk size sym blocks long short) := Lib.hid (fun h => by simp only [PlanOk] at h; split at h <;> omega)
      have f_p1 : decide (size < 0) = false := decide_eq_false h_p1
      have f_p2 : decide (sym < 1) = false := decide_eq_false h_p2
      have f_p3 : decide (64 < sym) = false := decide_eq_false h_p3
      have f_b1 : decide (0 < long) = true := decide_eq_true h_b1
      have f_b2 : decide (short < 129) = false := decide_eq_false h_b2
      have f_c1 : decide (blocks < 1) = false := decide_eq_false h_c1
      have f_c2 : decide (16 < blocks) = false := decide_eq_false h_c2
      have f_c3 : decide (long < 0) = false := decide_eq_false h_c3
      have f_c4 : decide (blocks ≤ long) = false := decide_eq_false h_c4
      have f_c5 : decide (short < 1) = true := decide_eq_true h_c5
      clear h_p1 h_p2 h_p3 h_b1 h_b2 h_c1 h_c2 h_c3 h_c4 h_c5
      go_enter Tryd.func54, Tryd.ntmps54
      go_wp2_with (first
        | ((with_reducible refine gate_dst (N := 1) rfl ?_); refine wp_boxPl rfl (.tmp 0) rfl rfl ?_; intro w1 hP hB; have HB := Lib.hid hB; obtain ⟨s0, s1, s2, s3, s4⟩ := Wire.cell5 hP; clear hP hB))
      go_ret
      exact ⟨2, rfl, ⟨fun h => (by cases h), fun h => absurd h HR.out⟩, HB.out⟩
    have HR : Hid (¬ PlanOk size sym blocks long short) := Lib.hid (fun h => by simp only [PlanOk] at h; split at h <;> omega)
    have f_p1 : decide (size < 0) = false := decide_eq_false h_p1
    have f_p2 : decide (sym < 1) = false := decide_eq_false h_p2
    have f_p3 : decide (64 < sym) = false := decide_eq_false h_p3
    have f_b1 : decide (0 < long) = true := decide_eq_true h_b1
    have f_b2 : decide (short < 129) = false := decide_eq_false h_b2
    have f_c1 : decide (blocks < 1) = false := decide_eq_false h_c1
    have f_c2 : decide (16 < blocks) = false := decide_eq_false h_c2
    have f_c3 : decide (long < 0) = false := decide_eq_false h_c3
    have f_c4 : decide (blocks ≤ long) = false := decide_eq_false h_c4
    have f_c5 : decide (short < 1) = false := decide_eq_false h_c5
    have f_c6 : decide (128 < short) = true := decide_eq_true (by omega)
    clear h_p1 h_p2 h_p3 h_b1 h_b2 h_c1 h_c2 h_c3 h_c4 h_c5
    go_enter Tryd.func54, Tryd.ntmps54
    go_wp2_with (first
      | ((with_reducible refine gate_dst (N := 1) rfl ?_); refine wp_boxPl rfl (.tmp 0) rfl rfl ?_; intro w1 hP hB; have HB := Lib.hid hB; obtain ⟨s0, s1, s2, s3, s4⟩ := Wire.cell5 hP; clear hP hB))
    go_ret
    exact ⟨2, rfl, ⟨fun h => (by cases h), fun h => absurd h HR.out⟩, HB.out⟩
  by_cases h_c1 : blocks < 1
  · skip
    have HR : Hid (¬ PlanOk size sym blocks long short) := Lib.hid (fun h => by simp only [PlanOk] at h; split at h <;> omega)
    have f_p1 : decide (size < 0) = false := decide_eq_false h_p1
    have f_p2 : decide (sym < 1) = false := decide_eq_false h_p2
    have f_p3 : decide (64 < sym) = false := decide_eq_false h_p3
    have f_b1 : decide (0 < long) = false := decide_eq_false h_b1
    have f_c1 : decide (blocks < 1) = true := decide_eq_true h_c1
    clear h_p1 h_p2 h_p3 h_b1 h_c1
    go_enter Tryd.func54, Tryd.ntmps54
    go_wp2_with (first
      | ((with_reducible refine gate_dst (N := 1) rfl ?_); refine wp_boxPl rfl (.tmp 0) rfl rfl ?_; intro w1 hP hB; have HB := Lib.hid hB; obtain ⟨s0, s1, s2, s3, s4⟩ := Wire.cell5 hP; clear hP hB))
    go_ret
    exact ⟨2, rfl, ⟨fun h => (by cases h), fun h => absurd h HR.out⟩, HB.out⟩
  by_cases h_c2 : 16 < blocks
  · skip
    have HR : Hid (¬ PlanOk size sym blocks long short) := Lib.hid (fun h => by simp only [PlanOk] at h; split at h <;> omega)
    have f_p1 : decide (size < 0) = false := decide_eq_false h_p1
    have f_p2 : decide (sym < 1) = false := decide_eq_false h_p2
    have f_p3 : decide (64 < sym) = false := decide_eq_false h_p3
    have f_b1 : decide (0 < long) = false := decide_eq_false h_b1
    have f_c1 : decide (blocks < 1) = false := decide_eq_false h_c1
    have f_c2 : decide (16 < blocks) = true := decide_eq_true h_c2
    clear h_p1 h_p2 h_p3 h_b1 h_c1 h_c2
    go_enter Tryd.func54, Tryd.ntmps54
    go_wp2_with (first
      | ((with_reducible refine gate_dst (N := 1) rfl ?_); refine wp_boxPl rfl (.tmp 0) rfl rfl ?_; intro w1 hP hB; have HB := Lib.hid hB; obtain ⟨s0, s1, s2, s3, s4⟩ := Wire.cell5 hP; clear hP hB))
    go_ret
    exact ⟨2, rfl, ⟨fun h => (by cases h), fun h => absurd h HR.out⟩, HB.out⟩
  by_cases h_c3 : long < 0
  · skip
    have HR : Hid (¬ PlanOk size sym blocks long short) := Lib.hid (fun h => by simp only [PlanOk] at h; split at h <;> omega)
    have f_p1 : decide (size < 0) = false := decide_eq_false h_p1
    have f_p2 : decide (sym < 1) = false := decide_eq_false h_p2
    have f_p3 : decide (64 < sym) = false := decide_eq_false h_p3
    have f_b1 : decide (0 < long) = false := decide_eq_false h_b1
    have f_c1 : decide (blocks < 1) = false := decide_eq_false h_c1
    have f_c2 : decide (16 < blocks) = false := decide_eq_false h_c2
    have f_c3 : decide (long < 0) = true := decide_eq_true h_c3
    clear h_p1 h_p2 h_p3 h_b1 h_c1 h_c2 h_c3
    go_enter Tryd.func54, Tryd.ntmps54
    go_wp2_with (first
      | ((with_reducible refine gate_dst (N := 1) rfl ?_); refine wp_boxPl rfl (.tmp 0) rfl rfl ?_; intro w1 hP hB; have HB := Lib.hid hB; obtain ⟨s0, s1, s2, s3, s4⟩ := Wire.cell5 hP; clear hP hB))
    go_ret
    exact ⟨2, rfl, ⟨fun h => (by cases h), fun h => absurd h HR.out⟩, HB.out⟩
  by_cases h_c4 : blocks ≤ long
  · skip
    have HR : Hid (¬ PlanOk size sym blocks long short) := Lib.hid (fun h => by simp only [PlanOk] at h; split at h <;> omega)
    have f_p1 : decide (size < 0) = false := decide_eq_false h_p1
    have f_p2 : decide (sym < 1) = false := decide_eq_false h_p2
    have f_p3 : decide (64 < sym) = false := decide_eq_false h_p3
    have f_b1 : decide (0 < long) = false := decide_eq_false h_b1
    have f_c1 : decide (blocks < 1) = false := decide_eq_false h_c1
    have f_c2 : decide (16 < blocks) = false := decide_eq_false h_c2
    have f_c3 : decide (long < 0) = false := decide_eq_false h_c3
    have f_c4 : decide (blocks ≤ long) = true := decide_eq_true h_c4
    clear h_p1 h_p2 h_p3 h_b1 h_c1 h_c2 h_c3 h_c4
    go_enter Tryd.func54, Tryd.ntmps54
    go_wp2_with (first
      | ((with_reducible refine gate_dst (N := 1) rfl ?_); refine wp_boxPl rfl (.tmp 0) rfl rfl ?_; intro w1 hP hB; have HB := Lib.hid hB; obtain ⟨s0, s1, s2, s3, s4⟩ := Wire.cell5 hP; clear hP hB))
    go_ret
    exact ⟨2, rfl, ⟨fun h => (by cases h), fun h => absurd h HR.out⟩, HB.out⟩
  by_cases h_c5 : short < 1
  · skip
    have HR : Hid (¬ PlanOk size sym blocks long short) := Lib.hid (fun h => by simp only [PlanOk] at h; split at h <;> omega)
    have f_p1 : decide (size < 0) = false := decide_eq_false h_p1
    have f_p2 : decide (sym < 1) = false := decide_eq_false h_p2
    have f_p3 : decide (64 < sym) = false := decide_eq_false h_p3
    have f_b1 : decide (0 < long) = false := decide_eq_false h_b1
    have f_c1 : decide (blocks < 1) = false := decide_eq_false h_c1
    have f_c2 : decide (16 < blocks) = false := decide_eq_false h_c2
    have f_c3 : decide (long < 0) = false := decide_eq_false h_c3
    have f_c4 : decide (blocks ≤ long) = false := decide_eq_false h_c4
    have f_c5 : decide (short < 1) = true := decide_eq_true h_c5
    clear h_p1 h_p2 h_p3 h_b1 h_c1 h_c2 h_c3 h_c4 h_c5
    go_enter Tryd.func54, Tryd.ntmps54
    go_wp2_with (first
      | ((with_reducible refine gate_dst (N := 1) rfl ?_); refine wp_boxPl rfl (.tmp 0) rfl rfl ?_; intro w1 hP hB; have HB := Lib.hid hB; obtain ⟨s0, s1, s2, s3, s4⟩ := Wire.cell5 hP; clear hP hB))
    go_ret
    exact ⟨2, rfl, ⟨fun h => (by cases h), fun h => absurd h HR.out⟩, HB.out⟩
  by_cases h_c6 : 128 < short
  · skip
    have HR : Hid (¬ PlanOk size sym blocks long short) := Lib.hid (fun h => by simp only [PlanOk] at h; split at h <;> omega)
    have f_p1 : decide (size < 0) = false := decide_eq_false h_p1
    have f_p2 : decide (sym < 1) = false := decide_eq_false h_p2
    have f_p3 : decide (64 < sym) = false := decide_eq_false h_p3
    have f_b1 : decide (0 < long) = false := decide_eq_false h_b1
    have f_c1 : decide (blocks < 1) = false := decide_eq_false h_c1
    have f_c2 : decide (16 < blocks) = false := decide_eq_false h_c2
    have f_c3 : decide (long < 0) = false := decide_eq_false h_c3
    have f_c4 : decide (blocks ≤ long) = false := decide_eq_false h_c4
    have f_c5 : decide (short < 1) = false := decide_eq_false h_c5
    have f_c6 : decide (128 < short) = true := decide_eq_true h_c6
    clear h_p1 h_p2 h_p3 h_b1 h_c1 h_c2 h_c3 h_c4 h_c5 h_c6
    go_enter Tryd.func54, Tryd.ntmps54
    go_wp2_with (first
      | ((with_reducible refine gate_dst (N := 1) rfl ?_); refine wp_boxPl rfl (.tmp 0) rfl rfl ?_; intro w1 hP hB; have HB := Lib.hid hB; obtain ⟨s0, s1, s2, s3, s4⟩ := Wire.cell5 hP; clear hP hB))
    go_ret
    exact ⟨2, rfl, ⟨fun h => (by cases h), fun h => absurd h HR.out⟩, HB.out⟩
  have HR : Hid (blocks * short + long = symN size sym ↔ PlanOk size sym blocks long short) := Lib.hid ⟨fun h => ⟨by omega, by omega, by omega, by omega, by omega, by split <;> omega, h⟩, fun h => h.2.2.2.2.2.2⟩
  have HSZ : Hid (0 ≤ size ∧ size ≤ 4294967295 ∧ 1 ≤ sym) := Lib.hid (by omega)
  obtain ⟨X, hX⟩ : ∃ X, X = blocks * short := ⟨_, rfl⟩
  have hX2 : 0 ≤ X ∧ X ≤ 16 * 128 := by rw [hX]; exact ⟨Int.mul_nonneg (by omega) (by omega), Int.mul_le_mul (by omega) (by omega) (by omega) (by omega)⟩
  have hwX : wrap64 (blocks * short) = X := by rw [← hX]; exact w64 ⟨by omega, by omega⟩
  have hwY : wrap64 (X + long) = X + long := w64 ⟨by omega, by omega⟩
  rw [← hX] at HR
  have f_p1 : decide (size < 0) = false := decide_eq_false h_p1
  have f_p2 : decide (sym < 1) = false := decide_eq_false h_p2
  have f_p3 : decide (64 < sym) = false := decide_eq_false h_p3
  have f_b1 : decide (0 < long) = false := decide_eq_false h_b1
  have f_c1 : decide (blocks < 1) = false := decide_eq_false h_c1
  have f_c2 : decide (16 < blocks) = false := decide_eq_false h_c2
  have f_c3 : decide (long < 0) = false := decide_eq_false h_c3
  have f_c4 : decide (blocks ≤ long) = false := decide_eq_false h_c4
  have f_c5 : decide (short < 1) = false := decide_eq_false h_c5
  have f_c6 : decide (128 < short) = false := decide_eq_false h_c6
  clear hX hX2 h_p1 h_p2 h_p3 h_b1 h_c1 h_c2 h_c3 h_c4 h_c5 h_c6
  go_enter Tryd.func54, Tryd.ntmps54
  go_upto_region 8 with (first
    | ((with_reducible refine gate_dst (N := 1) rfl ?_); refine wp_boxPl rfl (.tmp 0) rfl rfl ?_; intro w1 hP hB; have HB := Lib.hid hB; obtain ⟨s0, s1, s2, s3, s4⟩ := Wire.cell5 hP; clear hP hB))
  refine start_ (n := 14) (S := fun w' => w'.cell? ⟨w.heap.size, 0, none⟩ = some (.int .i64 size) ∧ w'.cell? ⟨w.heap.size, 1, none⟩ = some (.int .i64 sym) ∧ w'.cell? ⟨w.heap.size, 2, none⟩ = some (.int .i64 blocks) ∧ w'.cell? ⟨w.heap.size, 3, none⟩ = some (.int .i64 long) ∧ w'.cell? ⟨w.heap.size, 4, none⟩ = some (.int .i64 short) ∧ Below w.heap.size w w') (ds := []) #[false, false, false, false, false, false, false, false, false, false, false, false, false, false] (by kernel_rfl) rfl rfl ⟨s0, s1, s2, s3, s4, HB.out.drew⟩ (fun hHeld => ?_)
  refine pure_ (i := 0) (N := some 59) (v := ?_) (a' := ?_) #[true, false, false, false, false, false, false, false, false, false, false, false, false, false] rfl rfl (by kernel_rfl) (fun _ _ _ h => h) (Or.inl ⟨by rfl, ?_⟩) ?_ ?_
  rotate_left
  · intro w'
    go_simp
    with_reducible rfl
  rotate_left
  · simp only [Act.put, List.setIfInBounds_toArray, List.set_cons_zero, List.set_cons_succ, i64_w, i32_w]
    rfl
  refine take_ (i := 1) (N := some 60) (v := ?_) (a' := ?_) #[true, true, false, false, false, false, false, false, false, false, false, false, false, false] rfl rfl (by kernel_rfl) (fun _ _ _ h => h) (Or.inl ⟨by rfl, ?_⟩) hHeld ?_ ?_
  rotate_left
  · rintro w' ⟨s0, s1, s2, s3, s4, s5⟩
    go_simp
    with_reducible rfl
  rotate_left
  · simp only [Act.put, List.setIfInBounds_toArray, List.set_cons_zero, List.set_cons_succ, i64_w, i32_w]
    rfl
  refine pure_ (i := 2) (N := some 61) (v := ?_) (a' := ?_) #[true, true, true, false, false, false, false, false, false, false, false, false, false, false] rfl rfl (by kernel_rfl) (fun _ _ _ h => h) (Or.inl ⟨by rfl, ?_⟩) ?_ ?_
  rotate_left
  · intro w'
    go_simp
    with_reducible rfl
  rotate_left
  · simp only [Act.put, List.setIfInBounds_toArray, List.set_cons_zero, List.set_cons_succ, i64_w, i32_w]
    rfl
  refine take_ (i := 3) (N := some 62) (v := ?_) (a' := ?_) #[true, true, true, true, false, false, false, false, false, false, false, false, false, false] rfl rfl (by kernel_rfl) (fun _ _ _ h => h) (Or.inl ⟨by rfl, ?_⟩) hHeld ?_ ?_
  rotate_left
  · rintro w' ⟨s0, s1, s2, s3, s4, s5⟩
    go_simp
    with_reducible rfl
  rotate_left
  · simp only [Act.put, List.setIfInBounds_toArray, List.set_cons_zero, List.set_cons_succ, i64_w, i32_w]
    rfl
  refine pure_ (i := 4) (N := some 63) (v := ?_) (a' := ?_) #[true, true, true, true, true, false, false, false, false, false, false, false, false, false] rfl rfl (by kernel_rfl) (fun _ _ _ h => h) (Or.inl ⟨by rfl, ?_⟩) ?_ ?_
  rotate_left
  · intro w'
    go_simp
    with_reducible rfl
  rotate_left
  · simp only [Act.put, List.setIfInBounds_toArray, List.set_cons_zero, List.set_cons_succ, i64_w, i32_w]
    rfl
  refine pure_ (i := 5) (N := some 64) (v := ?_) (a' := ?_) #[true, true, true, true, true, true, false, false, false, false, false, false, false, false] rfl rfl (by kernel_rfl) (fun _ _ _ h => h) (Or.inl ⟨by rfl, ?_⟩) ?_ ?_
  rotate_left
  · intro w'
    go_simp
    with_reducible rfl
  rotate_left
  · simp only [Act.put, List.setIfInBounds_toArray, List.set_cons_zero, List.set_cons_succ, i64_w, i32_w]
    rfl
  refine take_ (i := 6) (N := some 65) (v := ?_) (a' := ?_) #[true, true, true, true, true, true, true, false, false, false, false, false, false, false] rfl rfl (by kernel_rfl) (fun _ _ _ h => h) (Or.inl ⟨by rfl, ?_⟩) hHeld ?_ ?_
  rotate_left
  · rintro w' ⟨s0, s1, s2, s3, s4, s5⟩
    go_simp
    with_reducible rfl
  rotate_left
  · simp only [Act.put, List.setIfInBounds_toArray, List.set_cons_zero, List.set_cons_succ, i64_w, i32_w]
    rfl
  refine pure_ (i := 7) (N := some 66) (v := ?_) (a' := ?_) #[true, true, true, true, true, true, true, true, false, false, false, false, false, false] rfl rfl (by kernel_rfl) (fun _ _ _ h => h) (Or.inl ⟨by rfl, ?_⟩) ?_ ?_
  rotate_left
  · intro w'
    go_simp
    with_reducible rfl
  rotate_left
  · simp only [Act.put, List.setIfInBounds_toArray, List.set_cons_zero, List.set_cons_succ, i64_w, i32_w]
    rfl
  refine pure_ (i := 8) (N := some 67) (v := ?_) (a' := ?_) #[true, true, true, true, true, true, true, true, true, false, false, false, false, false] rfl rfl (by kernel_rfl) (fun _ _ _ h => h) (Or.inl ⟨by rfl, ?_⟩) ?_ ?_
  rotate_left
  · intro w'
    go_simp
    with_reducible rfl
  rotate_left
  · simp only [Act.put, List.setIfInBounds_toArray, List.set_cons_zero, List.set_cons_succ, i64_w, i32_w]
    rfl
  refine take_ (i := 9) (N := some 68) (v := ?_) (a' := ?_) #[true, true, true, true, true, true, true, true, true, true, false, false, false, false] rfl rfl (by kernel_rfl) (fun _ _ _ h => h) (Or.inl ⟨by rfl, ?_⟩) hHeld ?_ ?_
  rotate_left
  · rintro w' ⟨s0, s1, s2, s3, s4, s5⟩
    go_simp
    with_reducible rfl
  rotate_left
  · simp only [Act.put, List.setIfInBounds_toArray, List.set_cons_zero, List.set_cons_succ, i64_w, i32_w]
    rfl
  refine pure_ (i := 10) (N := some 69) (v := ?_) (a' := ?_) #[true, true, true, true, true, true, true, true, true, true, true, false, false, false] rfl rfl (by kernel_rfl) (fun _ _ _ h => h) (Or.inl ⟨by rfl, ?_⟩) ?_ ?_
  rotate_left
  · intro w'
    go_simp
    with_reducible rfl
  rotate_left
  · simp only [Act.put, List.setIfInBounds_toArray, List.set_cons_zero, List.set_cons_succ, i64_w, i32_w]
    rfl
  refine take_ (i := 11) (N := some 70) (v := ?_) (a' := ?_) #[true, true, true, true, true, true, true, true, true, true, true, true, false, false] rfl rfl (by kernel_rfl) (fun _ _ _ h => h) (Or.inl ⟨by rfl, ?_⟩) hHeld ?_ ?_
  rotate_left
  · rintro w' ⟨s0, s1, s2, s3, s4, s5⟩
    go_simp
    with_reducible rfl
  rotate_left
  · simp only [Act.put, List.setIfInBounds_toArray, List.set_cons_zero, List.set_cons_succ, i64_w, i32_w]
    rfl
  refine one_ (i := 12) (N := some 71) #[true, true, true, true, true, true, true, true, true, true, true, true, true, false] rfl rfl (by kernel_rfl) (by decide) (fun K hK => ?_)
  refine call_ 56 #[.int .i64 size, .int .i64 sym] (by rfl) rfl ?_ ?_
  · have he := enters_ (P := Tryd.prog) Tryd.func56 (by kernel_rfl) rfl #[.int .i64 size, .int .i64 sym] w1.drew
    unfold execOp
    simp [resolve, Deferred.ofValue, invoke, Act.eval, he]
  · refine (symbols_calls size sym w1.drew HSZ.out).mono ?_
    rintro e w6 ⟨rfl, hB6⟩
    refine ⟨_, rfl, ?_⟩
    have hlt : w.heap.size < w1.drew.heap.size := World.block_lt_of_cell? w1.drew ⟨w.heap.size, 0, none⟩ hHeld.1
    have HS6 := Lib.hid (And.intro ((hB6.cell (p := ⟨w.heap.size, 0, none⟩) hlt).trans hHeld.1) (And.intro ((hB6.cell (p := ⟨w.heap.size, 1, none⟩) hlt).trans hHeld.2.1) (And.intro ((hB6.cell (p := ⟨w.heap.size, 2, none⟩) hlt).trans hHeld.2.2.1) (And.intro ((hB6.cell (p := ⟨w.heap.size, 3, none⟩) hlt).trans hHeld.2.2.2.1) (And.intro ((hB6.cell (p := ⟨w.heap.size, 4, none⟩) hlt).trans hHeld.2.2.2.2.1) (hHeld.2.2.2.2.2.trans (hB6.mono hHeld.2.2.2.2.2.size)))))))
    clear hB6 hlt
    refine hK.out _ _ HS6.out (fun hHeld6 => ?_)
    clear hK K hHeld
    refine norm_ (a' := ?_) ?_ ?_
    rotate_left
    · show Act.put _ (some 71) _ = _
      simp only [Act.put, List.setIfInBounds_toArray, List.set_cons_zero, List.set_cons_succ, i64_w, i32_w]
      rfl
    refine pure_ (i := 13) (N := some 72) (v := ?_) (a' := ?_) #[true, true, true, true, true, true, true, true, true, true, true, true, true, true] rfl rfl (by kernel_rfl) (fun _ _ _ h => h) (Or.inl ⟨by rfl, ?_⟩) ?_ ?_
    rotate_left
    · intro w'
      go_simp
      with_reducible rfl
    rotate_left
    · simp only [Act.put, List.setIfInBounds_toArray, List.set_cons_zero, List.set_cons_succ, i64_w, i32_w]
      rfl
    refine done_ (by kernel_rfl) ?_
    clear hHeld6
    obtain ⟨Y, hY⟩ : ∃ Y, Y = symN size sym := ⟨_, rfl⟩
    rw [← hY] at HR ⊢
    clear hY
    by_cases hq : X + long = Y
    · have HR2 := Lib.hid (HR.out.1 hq)
      have c_q : (X + long == Y) = true := beq_iff_eq.2 hq
      clear hq
      go_wp2
      go_ret
      exact ⟨0, rfl, ⟨fun _ => HR2.out, fun _ => rfl⟩, HS6.out.2.2.2.2.2⟩
    · have HR2 : Hid (¬ PlanOk size sym blocks long short) := Lib.hid (fun h => hq (HR.out.2 h))
      have c_q : (X + long == Y) = false := beq_eq_false_iff_ne.2 hq
      clear hq
      go_wp2
      go_ret
      exact ⟨2, rfl, ⟨fun h => (by cases h), fun h => absurd h HR2.out⟩, HS6.out.2.2.2.2.2⟩
end Go.Proofs.YtfcofokbhhnfkaaDoor.Byt
