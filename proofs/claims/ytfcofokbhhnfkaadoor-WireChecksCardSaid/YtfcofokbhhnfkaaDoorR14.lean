/- geyserref14.Symbols and Check by their contracts. Conditions: an object's size that four bytes hold. Printed by mkref14.py. -/
import Derived.Test.YtfcofokbhhnfkaaDoorNmw
namespace Go.Proofs.YtfcofokbhhnfkaaDoor.Byt
set_option linter.unusedSimpArgs false
set_option linter.unusedVariables false
open Go.RowKit Go.Deep Go.Proofs.YtfcofokbhhnfkaaDoor.Er Go.Proofs.YtfcofokbhhnfkaaDoorW.PrintWords Go.Proofs.YtfcofokbhhnfkaaDoorW.PrintLast Go.Proofs.YtfcofokbhhnfkaaDoorW.PrintMore
set_option maxHeartbeats 4000000 in
theorem refsym_calls (n m : Int) (w : World) (h : 0 ≤ n ∧ n ≤ 4294967295 ∧ 1 ≤ m) : Calls Tryd.prog 44 #[.int .i64 n, .int .i64 m] w fun e w' => e = .returned (.int .i64 (symN n m)) ∧ w' = w := by
  have hm : m ≠ 0 := by omega
  have hm2 : (m == 0) = false := beq_eq_false_iff_ne.2 hm
  have e1 : Int.tdiv n m = n / m := Int.tdiv_eq_ediv_of_nonneg h.1
  have e2 : Int.tmod n m = n % m := Int.tmod_eq_emod_of_nonneg h.1
  have h2 : 0 ≤ n / m := Int.ediv_nonneg h.1 (by omega)
  have h3 : n / m ≤ n := Int.ediv_le_self _ h.1
  obtain ⟨q, hq⟩ : ∃ q, q = Int.tdiv n m := ⟨_, rfl⟩
  obtain ⟨r, hr⟩ : ∃ r, r = Int.tmod n m := ⟨_, rfl⟩
  have hq1 : wrap64 q = q := w64 ⟨by omega, by omega⟩
  have hq2 : wrap64 (q + 1) = q + 1 := w64 ⟨by omega, by omega⟩
  have hwq : wrap64 (Int.tdiv n m) = q := by rw [← hq]; exact hq1
  by_cases c1 : 0 < r
  · have HS : Hid (symN n m = q + 1) := Lib.hid (by unfold symN; rw [← e1, ← e2, ← hq, ← hr, if_pos (show r > 0 from c1), if_neg (by omega)])
    have d1 : decide (0 < r) = true := decide_eq_true c1
    have d2 : decide (0 < Int.tmod n m) = true := by rw [← hr]; exact d1
    clear c1 h e1 e2 h2 h3
    go_enter Tryd.func44, Tryd.ntmps44
    go_wp2
    go_ret
    exact ⟨by rw [HS.out]; exact congrArg (fun z => Ending.returned (Value.int .i64 z)) (show wrap64 (Int.tdiv n m + 1) = q + 1 by rw [← hq]; exact hq2), rfl⟩
  · have d1 : decide (0 < r) = false := decide_eq_false c1
    have d2 : decide (0 < Int.tmod n m) = false := by rw [← hr]; exact d1
    by_cases c2 : n = 0
    · subst c2
      have hq0 : q = 0 := by rw [hq]; simp
      have HS : Hid (symN 0 m = q + 1) := Lib.hid (by unfold symN; rw [← e1, ← e2, ← hq, ← hr, if_neg (show ¬ r > 0 from c1), if_pos (by omega)]; omega)
      have HQ0 := Lib.hid hq0
      clear c1 h e1 e2 h2 h3 hq0
      go_enter Tryd.func44, Tryd.ntmps44
      go_wp2
      go_ret
      exact ⟨by rw [HS.out]; exact congrArg (fun z => Ending.returned (Value.int .i64 z)) (show (1 : Int) = q + 1 by rw [HQ0.out]; rfl), rfl⟩
    · have d3 : (n == 0) = false := beq_eq_false_iff_ne.2 c2
      have hq0 : 1 ≤ q := by
        have h5 : n % m + m * (n / m) = n := Int.emod_add_mul_ediv n m
        have h6 : n % m = 0 := by
          have := Int.emod_nonneg n hm
          omega
        rcases Int.lt_or_le q 1 with h7 | h7
        · have : n / m = 0 := by omega
          rw [this, h6] at h5
          omega
        · exact h7
      have HS : Hid (symN n m = q) := Lib.hid (by unfold symN; rw [← e1, ← e2, ← hq, ← hr, if_neg (show ¬ r > 0 from c1), if_neg (by omega), Int.add_zero])
      clear c1 c2 h e1 e2 h2 h3 hq0
      go_enter Tryd.func44, Tryd.ntmps44
      go_wp2
      go_ret
      exact ⟨by rw [HS.out]; exact congrArg (fun z => Ending.returned (Value.int .i64 z)) hwq, rfl⟩
set_option maxHeartbeats 16000000 in
set_option maxRecDepth 100000 in
theorem chk14R_calls (size sym blocks long short : Int) (w : World) (hsz : size ≤ 4294967295) : Calls Tryd.prog 23 #[planV size sym blocks long short] w fun e w' => ∃ n : Int, e = .returned (.int .i64 n) ∧ (n = 0 ↔ PlanOk size sym blocks long short) ∧ Below w.heap.size w w' := by
  by_cases h_p1 : size < 0
  · skip
    have HR : Hid (¬ PlanOk size sym blocks long short) := Lib.hid (fun h => by simp only [PlanOk] at h; split at h <;> omega)
    have f_p1 : decide (size < 0) = true := decide_eq_true h_p1
    clear h_p1
    go_enter Tryd.func23, Tryd.ntmps23
    go_wp2_with (first
      | ((with_reducible refine gate_dst (N := 1) rfl ?_); refine wp_boxPl rfl (.tmp 0) rfl rfl ?_; intro w1 hP hB; have HB := Lib.hid hB; obtain ⟨s0, s1, s2, s3, s4⟩ := Wire.cell5 hP; clear hP hB))
    go_ret
    exact ⟨1, rfl, ⟨fun h => (by cases h), fun h => absurd h HR.out⟩, HB.out⟩
  by_cases h_p2 : sym < 1
  · skip
    have HR : Hid (¬ PlanOk size sym blocks long short) := Lib.hid (fun h => by simp only [PlanOk] at h; split at h <;> omega)
    have f_p1 : decide (size < 0) = false := decide_eq_false h_p1
    have f_p2 : decide (sym < 1) = true := decide_eq_true h_p2
    clear h_p1 h_p2
    go_enter Tryd.func23, Tryd.ntmps23
    go_wp2_with (first
      | ((with_reducible refine gate_dst (N := 1) rfl ?_); refine wp_boxPl rfl (.tmp 0) rfl rfl ?_; intro w1 hP hB; have HB := Lib.hid hB; obtain ⟨s0, s1, s2, s3, s4⟩ := Wire.cell5 hP; clear hP hB))
    go_ret
    exact ⟨1, rfl, ⟨fun h => (by cases h), fun h => absurd h HR.out⟩, HB.out⟩
  by_cases h_p3 : 64 < sym
  · skip
    have HR : Hid (¬ PlanOk size sym blocks long short) := Lib.hid (fun h => by simp only [PlanOk] at h; split at h <;> omega)
    have f_p1 : decide (size < 0) = false := decide_eq_false h_p1
    have f_p2 : decide (sym < 1) = false := decide_eq_false h_p2
    have f_p3 : decide (64 < sym) = true := decide_eq_true h_p3
    clear h_p1 h_p2 h_p3
    go_enter Tryd.func23, Tryd.ntmps23
    go_wp2_with (first
      | ((with_reducible refine gate_dst (N := 1) rfl ?_); refine wp_boxPl rfl (.tmp 0) rfl rfl ?_; intro w1 hP hB; have HB := Lib.hid hB; obtain ⟨s0, s1, s2, s3, s4⟩ := Wire.cell5 hP; clear hP hB))
    go_ret
    exact ⟨1, rfl, ⟨fun h => (by cases h), fun h => absurd h HR.out⟩, HB.out⟩
  by_cases h_q1 : blocks < 1
  · skip
    have HR : Hid (¬ PlanOk size sym blocks long short) := Lib.hid (fun h => by simp only [PlanOk] at h; split at h <;> omega)
    have f_p1 : decide (size < 0) = false := decide_eq_false h_p1
    have f_p2 : decide (sym < 1) = false := decide_eq_false h_p2
    have f_p3 : decide (64 < sym) = false := decide_eq_false h_p3
    have f_q1 : decide (blocks < 1) = true := decide_eq_true h_q1
    clear h_p1 h_p2 h_p3 h_q1
    go_enter Tryd.func23, Tryd.ntmps23
    go_wp2_with (first
      | ((with_reducible refine gate_dst (N := 1) rfl ?_); refine wp_boxPl rfl (.tmp 0) rfl rfl ?_; intro w1 hP hB; have HB := Lib.hid hB; obtain ⟨s0, s1, s2, s3, s4⟩ := Wire.cell5 hP; clear hP hB))
    go_ret
    exact ⟨2, rfl, ⟨fun h => (by cases h), fun h => absurd h HR.out⟩, HB.out⟩
  by_cases h_q2 : 16 < blocks
  · skip
    have HR : Hid (¬ PlanOk size sym blocks long short) := Lib.hid (fun h => by simp only [PlanOk] at h; split at h <;> omega)
    have f_p1 : decide (size < 0) = false := decide_eq_false h_p1
    have f_p2 : decide (sym < 1) = false := decide_eq_false h_p2
    have f_p3 : decide (64 < sym) = false := decide_eq_false h_p3
    have f_q1 : decide (blocks < 1) = false := decide_eq_false h_q1
    have f_q2 : decide (16 < blocks) = true := decide_eq_true h_q2
    clear h_p1 h_p2 h_p3 h_q1 h_q2
    go_enter Tryd.func23, Tryd.ntmps23
    go_wp2_with (first
      | ((with_reducible refine gate_dst (N := 1) rfl ?_); refine wp_boxPl rfl (.tmp 0) rfl rfl ?_; intro w1 hP hB; have HB := Lib.hid hB; obtain ⟨s0, s1, s2, s3, s4⟩ := Wire.cell5 hP; clear hP hB))
    go_ret
    exact ⟨2, rfl, ⟨fun h => (by cases h), fun h => absurd h HR.out⟩, HB.out⟩
  by_cases h_q3 : long < 0
  · skip
    have HR : Hid (¬ PlanOk size sym blocks long short) := Lib.hid (fun h => by simp only [PlanOk] at h; split at h <;> omega)
    have f_p1 : decide (size < 0) = false := decide_eq_false h_p1
    have f_p2 : decide (sym < 1) = false := decide_eq_false h_p2
    have f_p3 : decide (64 < sym) = false := decide_eq_false h_p3
    have f_q1 : decide (blocks < 1) = false := decide_eq_false h_q1
    have f_q2 : decide (16 < blocks) = false := decide_eq_false h_q2
    have f_q3 : decide (long < 0) = true := decide_eq_true h_q3
    clear h_p1 h_p2 h_p3 h_q1 h_q2 h_q3
    go_enter Tryd.func23, Tryd.ntmps23
    go_wp2_with (first
      | ((with_reducible refine gate_dst (N := 1) rfl ?_); refine wp_boxPl rfl (.tmp 0) rfl rfl ?_; intro w1 hP hB; have HB := Lib.hid hB; obtain ⟨s0, s1, s2, s3, s4⟩ := Wire.cell5 hP; clear hP hB))
    go_ret
    exact ⟨2, rfl, ⟨fun h => (by cases h), fun h => absurd h HR.out⟩, HB.out⟩
  by_cases h_q4 : blocks ≤ long
  · skip
    have HR : Hid (¬ PlanOk size sym blocks long short) := Lib.hid (fun h => by simp only [PlanOk] at h; split at h <;> omega)
    have f_p1 : decide (size < 0) = false := decide_eq_false h_p1
    have f_p2 : decide (sym < 1) = false := decide_eq_false h_p2
    have f_p3 : decide (64 < sym) = false := decide_eq_false h_p3
    have f_q1 : decide (blocks < 1) = false := decide_eq_false h_q1
    have f_q2 : decide (16 < blocks) = false := decide_eq_false h_q2
    have f_q3 : decide (long < 0) = false := decide_eq_false h_q3
    have f_q4 : decide (blocks ≤ long) = true := decide_eq_true h_q4
    clear h_p1 h_p2 h_p3 h_q1 h_q2 h_q3 h_q4
    go_enter Tryd.func23, Tryd.ntmps23
    go_wp2_with (first
      | ((with_reducible refine gate_dst (N := 1) rfl ?_); refine wp_boxPl rfl (.tmp 0) rfl rfl ?_; intro w1 hP hB; have HB := Lib.hid hB; obtain ⟨s0, s1, s2, s3, s4⟩ := Wire.cell5 hP; clear hP hB))
    go_ret
    exact ⟨2, rfl, ⟨fun h => (by cases h), fun h => absurd h HR.out⟩, HB.out⟩
  by_cases h_q5 : short < 1
  · skip
    have HR : Hid (¬ PlanOk size sym blocks long short) := Lib.hid (fun h => by simp only [PlanOk] at h; split at h <;> omega)
    have f_p1 : decide (size < 0) = false := decide_eq_false h_p1
    have f_p2 : decide (sym < 1) = false := decide_eq_false h_p2
    have f_p3 : decide (64 < sym) = false := decide_eq_false h_p3
    have f_q1 : decide (blocks < 1) = false := decide_eq_false h_q1
    have f_q2 : decide (16 < blocks) = false := decide_eq_false h_q2
    have f_q3 : decide (long < 0) = false := decide_eq_false h_q3
    have f_q4 : decide (blocks ≤ long) = false := decide_eq_false h_q4
    have f_q5 : decide (short < 1) = true := decide_eq_true h_q5
    clear h_p1 h_p2 h_p3 h_q1 h_q2 h_q3 h_q4 h_q5
    go_enter Tryd.func23, Tryd.ntmps23
    go_wp2_with (first
      | ((with_reducible refine gate_dst (N := 1) rfl ?_); refine wp_boxPl rfl (.tmp 0) rfl rfl ?_; intro w1 hP hB; have HB := Lib.hid hB; obtain ⟨s0, s1, s2, s3, s4⟩ := Wire.cell5 hP; clear hP hB))
    go_ret
    exact ⟨2, rfl, ⟨fun h => (by cases h), fun h => absurd h HR.out⟩, HB.out⟩
  by_cases h_q6 : 128 < short
  · skip
    have HR : Hid (¬ PlanOk size sym blocks long short) := Lib.hid (fun h => by simp only [PlanOk] at h; split at h <;> omega)
    have f_p1 : decide (size < 0) = false := decide_eq_false h_p1
    have f_p2 : decide (sym < 1) = false := decide_eq_false h_p2
    have f_p3 : decide (64 < sym) = false := decide_eq_false h_p3
    have f_q1 : decide (blocks < 1) = false := decide_eq_false h_q1
    have f_q2 : decide (16 < blocks) = false := decide_eq_false h_q2
    have f_q3 : decide (long < 0) = false := decide_eq_false h_q3
    have f_q4 : decide (blocks ≤ long) = false := decide_eq_false h_q4
    have f_q5 : decide (short < 1) = false := decide_eq_false h_q5
    have f_q6 : decide (128 < short) = true := decide_eq_true h_q6
    clear h_p1 h_p2 h_p3 h_q1 h_q2 h_q3 h_q4 h_q5 h_q6
    go_enter Tryd.func23, Tryd.ntmps23
    go_wp2_with (first
      | ((with_reducible refine gate_dst (N := 1) rfl ?_); refine wp_boxPl rfl (.tmp 0) rfl rfl ?_; intro w1 hP hB; have HB := Lib.hid hB; obtain ⟨s0, s1, s2, s3, s4⟩ := Wire.cell5 hP; clear hP hB))
    go_ret
    exact ⟨2, rfl, ⟨fun h => (by cases h), fun h => absurd h HR.out⟩, HB.out⟩
  by_cases h_q7 : 0 < long
  · skip
    by_cases h_q8 : short = 128
    · skip
      have HR : Hid (¬ PlanOk size sym blocks long short) := Lib.hid (fun h => by simp only [PlanOk] at h; split at h <;> omega)
      have f_p1 : decide (size < 0) = false := decide_eq_false h_p1
      have f_p2 : decide (sym < 1) = false := decide_eq_false h_p2
      have f_p3 : decide (64 < sym) = false := decide_eq_false h_p3
      have f_q1 : decide (blocks < 1) = false := decide_eq_false h_q1
      have f_q2 : decide (16 < blocks) = false := decide_eq_false h_q2
      have f_q3 : decide (long < 0) = false := decide_eq_false h_q3
      have f_q4 : decide (blocks ≤ long) = false := decide_eq_false h_q4
      have f_q5 : decide (short < 1) = false := decide_eq_false h_q5
      have f_q6 : decide (128 < short) = false := decide_eq_false h_q6
      have f_q7 : decide (0 < long) = true := decide_eq_true h_q7
      have f_q8 : (short == 128) = true := beq_iff_eq.2 h_q8
      clear h_p1 h_p2 h_p3 h_q1 h_q2 h_q3 h_q4 h_q5 h_q6 h_q7 h_q8
      go_enter Tryd.func23, Tryd.ntmps23
      go_wp2_with (first
        | ((with_reducible refine gate_dst (N := 1) rfl ?_); refine wp_boxPl rfl (.tmp 0) rfl rfl ?_; intro w1 hP hB; have HB := Lib.hid hB; obtain ⟨s0, s1, s2, s3, s4⟩ := Wire.cell5 hP; clear hP hB))
      go_ret
      exact ⟨2, rfl, ⟨fun h => (by cases h), fun h => absurd h HR.out⟩, HB.out⟩
    have HR : Hid (blocks * short + long = symN size sym ↔ PlanOk size sym blocks long short) := Lib.hid ⟨fun h => ⟨by omega, by omega, by omega, by omega, by omega, by split <;> omega, h⟩, fun h => h.2.2.2.2.2.2⟩
    have HSZ : Hid (0 ≤ size ∧ size ≤ 4294967295 ∧ 1 ≤ sym) := Lib.hid (by omega)
    obtain ⟨X, hX⟩ : ∃ X, X = blocks * short := ⟨_, rfl⟩
    have hX2 : 0 ≤ X ∧ X ≤ 16 * 128 := by rw [hX]; exact ⟨Int.mul_nonneg (by omega) (by omega), Int.mul_le_mul (by omega) (by omega) (by omega) (by omega)⟩
    have hwX : wrap64 (blocks * short) = X := by rw [← hX]; exact w64 ⟨by omega, by omega⟩
    have hwY : wrap64 (X + long) = X + long := w64 ⟨by omega, by omega⟩
    rw [← hX] at HR
    clear hX hX2
    have f_p1 : decide (size < 0) = false := decide_eq_false h_p1
    have f_p2 : decide (sym < 1) = false := decide_eq_false h_p2
    have f_p3 : decide (64 < sym) = false := decide_eq_false h_p3
    have f_q1 : decide (blocks < 1) = false := decide_eq_false h_q1
    have f_q2 : decide (16 < blocks) = false := decide_eq_false h_q2
    have f_q3 : decide (long < 0) = false := decide_eq_false h_q3
    have f_q4 : decide (blocks ≤ long) = false := decide_eq_false h_q4
    have f_q5 : decide (short < 1) = false := decide_eq_false h_q5
    have f_q6 : decide (128 < short) = false := decide_eq_false h_q6
    have f_q7 : decide (0 < long) = true := decide_eq_true h_q7
    have f_q8 : (short == 128) = false := beq_eq_false_iff_ne.2 h_q8
    clear h_p1 h_p2 h_p3 h_q1 h_q2 h_q3 h_q4 h_q5 h_q6 h_q7 h_q8
    go_enter Tryd.func23, Tryd.ntmps23
    go_upto_region 5 with (first
      | ((with_reducible refine gate_dst (N := 1) rfl ?_); refine wp_boxPl rfl (.tmp 0) rfl rfl ?_; intro w1 hP hB; have HB := Lib.hid hB; obtain ⟨s0, s1, s2, s3, s4⟩ := Wire.cell5 hP; clear hP hB))
    refine start_ (n := 14) (S := fun w' => w'.cell? ⟨w.heap.size, 0, none⟩ = some (.int .i64 size) ∧ w'.cell? ⟨w.heap.size, 1, none⟩ = some (.int .i64 sym) ∧ w'.cell? ⟨w.heap.size, 2, none⟩ = some (.int .i64 blocks) ∧ w'.cell? ⟨w.heap.size, 3, none⟩ = some (.int .i64 long) ∧ w'.cell? ⟨w.heap.size, 4, none⟩ = some (.int .i64 short) ∧ Below w.heap.size w w') (ds := []) #[false, false, false, false, false, false, false, false, false, false, false, false, false, false] (by kernel_rfl) rfl rfl ⟨s0, s1, s2, s3, s4, HB.out.drew⟩ (fun hHeld => ?_)
    refine pure_ (i := 0) (N := some 56) (v := ?_) (a' := ?_) #[true, false, false, false, false, false, false, false, false, false, false, false, false, false] rfl rfl (by kernel_rfl) (fun _ _ _ h => h) (Or.inl ⟨by rfl, ?_⟩) ?_ ?_
    rotate_left
    · intro w'
      go_simp
      with_reducible rfl
    rotate_left
    · simp only [Act.put, List.setIfInBounds_toArray, List.set_cons_zero, List.set_cons_succ, i64_w, i32_w]
      rfl
    refine take_ (i := 1) (N := some 57) (v := ?_) (a' := ?_) #[true, true, false, false, false, false, false, false, false, false, false, false, false, false] rfl rfl (by kernel_rfl) (fun _ _ _ h => h) (Or.inl ⟨by rfl, ?_⟩) hHeld ?_ ?_
    rotate_left
    · rintro w' ⟨s0, s1, s2, s3, s4, s5⟩
      go_simp
      with_reducible rfl
    rotate_left
    · simp only [Act.put, List.setIfInBounds_toArray, List.set_cons_zero, List.set_cons_succ, i64_w, i32_w]
      rfl
    refine pure_ (i := 2) (N := some 58) (v := ?_) (a' := ?_) #[true, true, true, false, false, false, false, false, false, false, false, false, false, false] rfl rfl (by kernel_rfl) (fun _ _ _ h => h) (Or.inl ⟨by rfl, ?_⟩) ?_ ?_
    rotate_left
    · intro w'
      go_simp
      with_reducible rfl
    rotate_left
    · simp only [Act.put, List.setIfInBounds_toArray, List.set_cons_zero, List.set_cons_succ, i64_w, i32_w]
      rfl
    refine take_ (i := 3) (N := some 59) (v := ?_) (a' := ?_) #[true, true, true, true, false, false, false, false, false, false, false, false, false, false] rfl rfl (by kernel_rfl) (fun _ _ _ h => h) (Or.inl ⟨by rfl, ?_⟩) hHeld ?_ ?_
    rotate_left
    · rintro w' ⟨s0, s1, s2, s3, s4, s5⟩
      go_simp
      with_reducible rfl
    rotate_left
    · simp only [Act.put, List.setIfInBounds_toArray, List.set_cons_zero, List.set_cons_succ, i64_w, i32_w]
      rfl
    refine pure_ (i := 4) (N := some 60) (v := ?_) (a' := ?_) #[true, true, true, true, true, false, false, false, false, false, false, false, false, false] rfl rfl (by kernel_rfl) (fun _ _ _ h => h) (Or.inl ⟨by rfl, ?_⟩) ?_ ?_
    rotate_left
    · intro w'
      go_simp
      with_reducible rfl
    rotate_left
    · simp only [Act.put, List.setIfInBounds_toArray, List.set_cons_zero, List.set_cons_succ, i64_w, i32_w]
      rfl
    refine pure_ (i := 5) (N := some 61) (v := ?_) (a' := ?_) #[true, true, true, true, true, true, false, false, false, false, false, false, false, false] rfl rfl (by kernel_rfl) (fun _ _ _ h => h) (Or.inl ⟨by rfl, ?_⟩) ?_ ?_
    rotate_left
    · intro w'
      go_simp
      with_reducible rfl
    rotate_left
    · simp only [Act.put, List.setIfInBounds_toArray, List.set_cons_zero, List.set_cons_succ, i64_w, i32_w]
      rfl
    refine take_ (i := 6) (N := some 62) (v := ?_) (a' := ?_) #[true, true, true, true, true, true, true, false, false, false, false, false, false, false] rfl rfl (by kernel_rfl) (fun _ _ _ h => h) (Or.inl ⟨by rfl, ?_⟩) hHeld ?_ ?_
    rotate_left
    · rintro w' ⟨s0, s1, s2, s3, s4, s5⟩
      go_simp
      with_reducible rfl
    rotate_left
    · simp only [Act.put, List.setIfInBounds_toArray, List.set_cons_zero, List.set_cons_succ, i64_w, i32_w]
      rfl
    refine pure_ (i := 7) (N := some 63) (v := ?_) (a' := ?_) #[true, true, true, true, true, true, true, true, false, false, false, false, false, false] rfl rfl (by kernel_rfl) (fun _ _ _ h => h) (Or.inl ⟨by rfl, ?_⟩) ?_ ?_
    rotate_left
    · intro w'
      go_simp
      with_reducible rfl
    rotate_left
    · simp only [Act.put, List.setIfInBounds_toArray, List.set_cons_zero, List.set_cons_succ, i64_w, i32_w]
      rfl
    refine pure_ (i := 8) (N := some 64) (v := ?_) (a' := ?_) #[true, true, true, true, true, true, true, true, true, false, false, false, false, false] rfl rfl (by kernel_rfl) (fun _ _ _ h => h) (Or.inl ⟨by rfl, ?_⟩) ?_ ?_
    rotate_left
    · intro w'
      go_simp
      with_reducible rfl
    rotate_left
    · simp only [Act.put, List.setIfInBounds_toArray, List.set_cons_zero, List.set_cons_succ, i64_w, i32_w]
      rfl
    refine take_ (i := 9) (N := some 65) (v := ?_) (a' := ?_) #[true, true, true, true, true, true, true, true, true, true, false, false, false, false] rfl rfl (by kernel_rfl) (fun _ _ _ h => h) (Or.inl ⟨by rfl, ?_⟩) hHeld ?_ ?_
    rotate_left
    · rintro w' ⟨s0, s1, s2, s3, s4, s5⟩
      go_simp
      with_reducible rfl
    rotate_left
    · simp only [Act.put, List.setIfInBounds_toArray, List.set_cons_zero, List.set_cons_succ, i64_w, i32_w]
      rfl
    refine pure_ (i := 10) (N := some 66) (v := ?_) (a' := ?_) #[true, true, true, true, true, true, true, true, true, true, true, false, false, false] rfl rfl (by kernel_rfl) (fun _ _ _ h => h) (Or.inl ⟨by rfl, ?_⟩) ?_ ?_
    rotate_left
    · intro w'
      go_simp
      with_reducible rfl
    rotate_left
    · simp only [Act.put, List.setIfInBounds_toArray, List.set_cons_zero, List.set_cons_succ, i64_w, i32_w]
      rfl
    refine take_ (i := 11) (N := some 67) (v := ?_) (a' := ?_) #[true, true, true, true, true, true, true, true, true, true, true, true, false, false] rfl rfl (by kernel_rfl) (fun _ _ _ h => h) (Or.inl ⟨by rfl, ?_⟩) hHeld ?_ ?_
    rotate_left
    · rintro w' ⟨s0, s1, s2, s3, s4, s5⟩
      go_simp
      with_reducible rfl
    rotate_left
    · simp only [Act.put, List.setIfInBounds_toArray, List.set_cons_zero, List.set_cons_succ, i64_w, i32_w]
      rfl
    refine one_ (i := 12) (N := some 68) #[true, true, true, true, true, true, true, true, true, true, true, true, true, false] rfl rfl (by kernel_rfl) (by decide) (fun K hK => ?_)
    refine call_ 44 #[.int .i64 size, .int .i64 sym] (by rfl) rfl ?_ ?_
    · have he := enters_ (P := Tryd.prog) Tryd.func44 (by kernel_rfl) rfl #[.int .i64 size, .int .i64 sym] w1.drew
      unfold execOp
      simp [resolve, Deferred.ofValue, invoke, Act.eval, he]
    refine (refsym_calls size sym w1.drew HSZ.out).mono ?_
    rintro e w6 ⟨rfl, hw⟩
    refine ⟨_, rfl, ?_⟩
    subst hw
    refine hK.out _ _ hHeld (fun hHeld6 => ?_)
    clear hK K hHeld
    refine norm_ (a' := ?_) ?_ ?_
    rotate_left
    · show Act.put _ (some 68) _ = _
      simp only [Act.put, List.setIfInBounds_toArray, List.set_cons_zero, List.set_cons_succ, i64_w, i32_w]
      rfl
    refine pure_ (i := 13) (N := some 69) (v := ?_) (a' := ?_) #[true, true, true, true, true, true, true, true, true, true, true, true, true, true] rfl rfl (by kernel_rfl) (fun _ _ _ h => h) (Or.inl ⟨by rfl, ?_⟩) ?_ ?_
    rotate_left
    · intro w'
      go_simp
      with_reducible rfl
    rotate_left
    · simp only [Act.put, List.setIfInBounds_toArray, List.set_cons_zero, List.set_cons_succ, i64_w, i32_w]
      rfl
    refine done_ (by kernel_rfl) ?_
    obtain ⟨Y, hY⟩ : ∃ Y, Y = symN size sym := ⟨_, rfl⟩
    rw [← hY] at HR ⊢
    clear hY
    by_cases hq : X + long = Y
    · have HR2 := Lib.hid (HR.out.1 hq)
      have c_q : (X + long == Y) = true := beq_iff_eq.2 hq
      have c_r : (X + long != Y) = false := bne_eq_false_iff_eq.2 hq
      clear hq
      go_wp2
      go_ret
      exact ⟨0, rfl, ⟨fun _ => HR2.out, fun _ => rfl⟩, hHeld6.2.2.2.2.2⟩
    · have HR2 : Hid (¬ PlanOk size sym blocks long short) := Lib.hid (fun h => hq (HR.out.2 h))
      have c_q : (X + long == Y) = false := beq_eq_false_iff_ne.2 hq
      have c_r : (X + long != Y) = true := bne_iff_ne.2 hq
      clear hq
      go_wp2
      go_ret
      exact ⟨2, rfl, ⟨fun h => (by cases h), fun h => absurd h HR2.out⟩, hHeld6.2.2.2.2.2⟩
  have HR : Hid (blocks * short + long = symN size sym ↔ PlanOk size sym blocks long short) := Lib.hid ⟨fun h => ⟨by omega, by omega, by omega, by omega, by omega, by split <;> omega, h⟩, fun h => h.2.2.2.2.2.2⟩
  have HSZ : Hid (0 ≤ size ∧ size ≤ 4294967295 ∧ 1 ≤ sym) := Lib.hid (by omega)
  obtain ⟨X, hX⟩ : ∃ X, X = blocks * short := ⟨_, rfl⟩
  have hX2 : 0 ≤ X ∧ X ≤ 16 * 128 := by rw [hX]; exact ⟨Int.mul_nonneg (by omega) (by omega), Int.mul_le_mul (by omega) (by omega) (by omega) (by omega)⟩
  have hwX : wrap64 (blocks * short) = X := by rw [← hX]; exact w64 ⟨by omega, by omega⟩
  have hwY : wrap64 (X + long) = X + long := w64 ⟨by omega, by omega⟩
  rw [← hX] at HR
  clear hX hX2
  have f_p1 : decide (size < 0) = false := decide_eq_false h_p1
  have f_p2 : decide (sym < 1) = false := decide_eq_false h_p2
  have f_p3 : decide (64 < sym) = false := decide_eq_false h_p3
  have f_q1 : decide (blocks < 1) = false := decide_eq_false h_q1
  have f_q2 : decide (16 < blocks) = false := decide_eq_false h_q2
  have f_q3 : decide (long < 0) = false := decide_eq_false h_q3
  have f_q4 : decide (blocks ≤ long) = false := decide_eq_false h_q4
  have f_q5 : decide (short < 1) = false := decide_eq_false h_q5
  have f_q6 : decide (128 < short) = false := decide_eq_false h_q6
  have f_q7 : decide (0 < long) = false := decide_eq_false h_q7
  clear h_p1 h_p2 h_p3 h_q1 h_q2 h_q3 h_q4 h_q5 h_q6 h_q7
  go_enter Tryd.func23, Tryd.ntmps23
  go_upto_region 5 with (first
    | ((with_reducible refine gate_dst (N := 1) rfl ?_); refine wp_boxPl rfl (.tmp 0) rfl rfl ?_; intro w1 hP hB; have HB := Lib.hid hB; obtain ⟨s0, s1, s2, s3, s4⟩ := Wire.cell5 hP; clear hP hB))
  refine start_ (n := 14) (S := fun w' => w'.cell? ⟨w.heap.size, 0, none⟩ = some (.int .i64 size) ∧ w'.cell? ⟨w.heap.size, 1, none⟩ = some (.int .i64 sym) ∧ w'.cell? ⟨w.heap.size, 2, none⟩ = some (.int .i64 blocks) ∧ w'.cell? ⟨w.heap.size, 3, none⟩ = some (.int .i64 long) ∧ w'.cell? ⟨w.heap.size, 4, none⟩ = some (.int .i64 short) ∧ Below w.heap.size w w') (ds := []) #[false, false, false, false, false, false, false, false, false, false, false, false, false, false] (by kernel_rfl) rfl rfl ⟨s0, s1, s2, s3, s4, HB.out.drew⟩ (fun hHeld => ?_)
  refine pure_ (i := 0) (N := some 56) (v := ?_) (a' := ?_) #[true, false, false, false, false, false, false, false, false, false, false, false, false, false] rfl rfl (by kernel_rfl) (fun _ _ _ h => h) (Or.inl ⟨by rfl, ?_⟩) ?_ ?_
  rotate_left
  · intro w'
    go_simp
    with_reducible rfl
  rotate_left
  · simp only [Act.put, List.setIfInBounds_toArray, List.set_cons_zero, List.set_cons_succ, i64_w, i32_w]
    rfl
  refine take_ (i := 1) (N := some 57) (v := ?_) (a' := ?_) #[true, true, false, false, false, false, false, false, false, false, false, false, false, false] rfl rfl (by kernel_rfl) (fun _ _ _ h => h) (Or.inl ⟨by rfl, ?_⟩) hHeld ?_ ?_
  rotate_left
  · rintro w' ⟨s0, s1, s2, s3, s4, s5⟩
    go_simp
    with_reducible rfl
  rotate_left
  · simp only [Act.put, List.setIfInBounds_toArray, List.set_cons_zero, List.set_cons_succ, i64_w, i32_w]
    rfl
  refine pure_ (i := 2) (N := some 58) (v := ?_) (a' := ?_) #[true, true, true, false, false, false, false, false, false, false, false, false, false, false] rfl rfl (by kernel_rfl) (fun _ _ _ h => h) (Or.inl ⟨by rfl, ?_⟩) ?_ ?_
  rotate_left
  · intro w'
    go_simp
    with_reducible rfl
  rotate_left
  · simp only [Act.put, List.setIfInBounds_toArray, List.set_cons_zero, List.set_cons_succ, i64_w, i32_w]
    rfl
  refine take_ (i := 3) (N := some 59) (v := ?_) (a' := ?_) #[true, true, true, true, false, false, false, false, false, false, false, false, false, false] rfl rfl (by kernel_rfl) (fun _ _ _ h => h) (Or.inl ⟨by rfl, ?_⟩) hHeld ?_ ?_
  rotate_left
  · rintro w' ⟨s0, s1, s2, s3, s4, s5⟩
    go_simp
    with_reducible rfl
  rotate_left
  · simp only [Act.put, List.setIfInBounds_toArray, List.set_cons_zero, List.set_cons_succ, i64_w, i32_w]
    rfl
  refine pure_ (i := 4) (N := some 60) (v := ?_) (a' := ?_) #[true, true, true, true, true, false, false, false, false, false, false, false, false, false] rfl rfl (by kernel_rfl) (fun _ _ _ h => h) (Or.inl ⟨by rfl, ?_⟩) ?_ ?_
  rotate_left
  · intro w'
    go_simp
    with_reducible rfl
  rotate_left
  · simp only [Act.put, List.setIfInBounds_toArray, List.set_cons_zero, List.set_cons_succ, i64_w, i32_w]
    rfl
  refine pure_ (i := 5) (N := some 61) (v := ?_) (a' := ?_) #[true, true, true, true, true, true, false, false, false, false, false, false, false, false] rfl rfl (by kernel_rfl) (fun _ _ _ h => h) (Or.inl ⟨by rfl, ?_⟩) ?_ ?_
  rotate_left
  · intro w'
    go_simp
    with_reducible rfl
  rotate_left
  · simp only [Act.put, List.setIfInBounds_toArray, List.set_cons_zero, List.set_cons_succ, i64_w, i32_w]
    rfl
  refine take_ (i := 6) (N := some 62) (v := ?_) (a' := ?_) #[true, true, true, true, true, true, true, false, false, false, false, false, false, false] rfl rfl (by kernel_rfl) (fun _ _ _ h => h) (Or.inl ⟨by rfl, ?_⟩) hHeld ?_ ?_
  rotate_left
  · rintro w' ⟨s0, s1, s2, s3, s4, s5⟩
    go_simp
    with_reducible rfl
  rotate_left
  · simp only [Act.put, List.setIfInBounds_toArray, List.set_cons_zero, List.set_cons_succ, i64_w, i32_w]
    rfl
  refine pure_ (i := 7) (N := some 63) (v := ?_) (a' := ?_) #[true, true, true, true, true, true, true, true, false, false, false, false, false, false] rfl rfl (by kernel_rfl) (fun _ _ _ h => h) (Or.inl ⟨by rfl, ?_⟩) ?_ ?_
  rotate_left
  · intro w'
    go_simp
    with_reducible rfl
  rotate_left
  · simp only [Act.put, List.setIfInBounds_toArray, List.set_cons_zero, List.set_cons_succ, i64_w, i32_w]
    rfl
  refine pure_ (i := 8) (N := some 64) (v := ?_) (a' := ?_) #[true, true, true, true, true, true, true, true, true, false, false, false, false, false] rfl rfl (by kernel_rfl) (fun _ _ _ h => h) (Or.inl ⟨by rfl, ?_⟩) ?_ ?_
  rotate_left
  · intro w'
    go_simp
    with_reducible rfl
  rotate_left
  · simp only [Act.put, List.setIfInBounds_toArray, List.set_cons_zero, List.set_cons_succ, i64_w, i32_w]
    rfl
  refine take_ (i := 9) (N := some 65) (v := ?_) (a' := ?_) #[true, true, true, true, true, true, true, true, true, true, false, false, false, false] rfl rfl (by kernel_rfl) (fun _ _ _ h => h) (Or.inl ⟨by rfl, ?_⟩) hHeld ?_ ?_
  rotate_left
  · rintro w' ⟨s0, s1, s2, s3, s4, s5⟩
    go_simp
    with_reducible rfl
  rotate_left
  · simp only [Act.put, List.setIfInBounds_toArray, List.set_cons_zero, List.set_cons_succ, i64_w, i32_w]
    rfl
  refine pure_ (i := 10) (N := some 66) (v := ?_) (a' := ?_) #[true, true, true, true, true, true, true, true, true, true, true, false, false, false] rfl rfl (by kernel_rfl) (fun _ _ _ h => h) (Or.inl ⟨by rfl, ?_⟩) ?_ ?_
  rotate_left
  · intro w'
    go_simp
    with_reducible rfl
  rotate_left
  · simp only [Act.put, List.setIfInBounds_toArray, List.set_cons_zero, List.set_cons_succ, i64_w, i32_w]
    rfl
  refine take_ (i := 11) (N := some 67) (v := ?_) (a' := ?_) #[true, true, true, true, true, true, true, true, true, true, true, true, false, false] rfl rfl (by kernel_rfl) (fun _ _ _ h => h) (Or.inl ⟨by rfl, ?_⟩) hHeld ?_ ?_
  rotate_left
  · rintro w' ⟨s0, s1, s2, s3, s4, s5⟩
    go_simp
    with_reducible rfl
  rotate_left
  · simp only [Act.put, List.setIfInBounds_toArray, List.set_cons_zero, List.set_cons_succ, i64_w, i32_w]
    rfl
  refine one_ (i := 12) (N := some 68) #[true, true, true, true, true, true, true, true, true, true, true, true, true, false] rfl rfl (by kernel_rfl) (by decide) (fun K hK => ?_)
  refine call_ 44 #[.int .i64 size, .int .i64 sym] (by rfl) rfl ?_ ?_
  · have he := enters_ (P := Tryd.prog) Tryd.func44 (by kernel_rfl) rfl #[.int .i64 size, .int .i64 sym] w1.drew
    unfold execOp
    simp [resolve, Deferred.ofValue, invoke, Act.eval, he]
  refine (refsym_calls size sym w1.drew HSZ.out).mono ?_
  rintro e w6 ⟨rfl, hw⟩
  refine ⟨_, rfl, ?_⟩
  subst hw
  refine hK.out _ _ hHeld (fun hHeld6 => ?_)
  clear hK K hHeld
  refine norm_ (a' := ?_) ?_ ?_
  rotate_left
  · show Act.put _ (some 68) _ = _
    simp only [Act.put, List.setIfInBounds_toArray, List.set_cons_zero, List.set_cons_succ, i64_w, i32_w]
    rfl
  refine pure_ (i := 13) (N := some 69) (v := ?_) (a' := ?_) #[true, true, true, true, true, true, true, true, true, true, true, true, true, true] rfl rfl (by kernel_rfl) (fun _ _ _ h => h) (Or.inl ⟨by rfl, ?_⟩) ?_ ?_
  rotate_left
  · intro w'
    go_simp
    with_reducible rfl
  rotate_left
  · simp only [Act.put, List.setIfInBounds_toArray, List.set_cons_zero, List.set_cons_succ, i64_w, i32_w]
    rfl
  refine done_ (by kernel_rfl) ?_
  obtain ⟨Y, hY⟩ : ∃ Y, Y = symN size sym := ⟨_, rfl⟩
  rw [← hY] at HR ⊢
  clear hY
  by_cases hq : X + long = Y
  · have HR2 := Lib.hid (HR.out.1 hq)
    have c_q : (X + long == Y) = true := beq_iff_eq.2 hq
    have c_r : (X + long != Y) = false := bne_eq_false_iff_eq.2 hq
    clear hq
    go_wp2
    go_ret
    exact ⟨0, rfl, ⟨fun _ => HR2.out, fun _ => rfl⟩, hHeld6.2.2.2.2.2⟩
  · have HR2 : Hid (¬ PlanOk size sym blocks long short) := Lib.hid (fun h => hq (HR.out.2 h))
    have c_q : (X + long == Y) = false := beq_eq_false_iff_ne.2 hq
    have c_r : (X + long != Y) = true := bne_iff_ne.2 hq
    clear hq
    go_wp2
    go_ret
    exact ⟨2, rfl, ⟨fun h => (by cases h), fun h => absurd h HR2.out⟩, hHeld6.2.2.2.2.2⟩
end Go.Proofs.YtfcofokbhhnfkaaDoor.Byt
