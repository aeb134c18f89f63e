/- WireApart walked. Conditions: bytes as they may be read. Printed by mklawa.py. -/
import Derived.Test.YtfcofokbhhnfkaaLawB
namespace Go.Proofs.Ytfcofokbhhnfkaa.Byt
set_option linter.unusedSimpArgs false
set_option linter.unusedVariables false
open Go.RowKit Go.Deep Go.Proofs.Ytfcofokbhhnfkaa.Er Go.Proofs.YtfcofokbhhnfkaaW.PrintWords Go.Proofs.YtfcofokbhhnfkaaW.PrintLast Go.Proofs.YtfcofokbhhnfkaaW.PrintMore
/-- Two packets' boxes and their bytes. -/
structure SA (w : World) (g h : Nat) (p q : Pk) (u v va vb : Value) (la lb : List Int) (w' : World) : Prop where
  S : SW w g h p q u v w'
  a : OB w.heap.size w' va la
  b : OB w.heap.size w' vb lb
theorem SA.below {w : World} {g h : Nat} {p q : Pk} {u v va vb : Value} {la lb : List Int} {w' w2 : World} (k : SA w g h p q u v va vb la lb w') (hb : Below w'.heap.size w' w2) : SA w g h p q u v va vb la lb w2 := ⟨k.S.below hb, k.a.below hb, k.b.below hb⟩
theorem SA.drew {w : World} {g h : Nat} {p q : Pk} {u v va vb : Value} {la lb : List Int} {w' : World} (k : SA w g h p q u v va vb la lb w') : SA w g h p q u v va vb la lb w'.drew := k.below (Below.refl _ _).drew
theorem run_cnv {o : Oper} {a : Act} {W : World} {v : Value} {s : ByteArray} (x : Operand) (ho : o.op = .convert 22 9 x) (hx : a.eval x = v) (h : (convert 22 9 v).run Try.prog W = .ok (.string s) W) : (execOp a.eval o).run Try.prog W = .ok (.value (.string s)) W := by
  unfold execOp
  simp only [ho, hx, Sem.run_bind, h, Result.andThen_ok, Sem.run_pure]
set_option maxHeartbeats 8000000 in
set_option maxRecDepth 100000 in
theorem apart_calls (p q : Pk) (u v : Value) (w : World) (hp : RdB (fun k => k < w.heap.size) w u p.data) (hq : RdB (fun k => k < w.heap.size) w v q.data) :
    Calls Try.prog 4 #[pkV p u, pkV q v] w fun e w' => e = .returned (.bool true) ∧ Below w.heap.size w w' := by
  by_cases kp : whyP p = 0
  · by_cases kq : whyP q = 0
    · skip
      have HU := Lib.hid (cells_of hp)
      have HV := Lib.hid (cells_of hq)
      have HP := Lib.hid hp
      have HQ := Lib.hid hq
      obtain ⟨la, hla⟩ : ∃ z, z = putL p := ⟨_, rfl⟩
      obtain ⟨ma, hma⟩ : ∃ z, z = la.length := ⟨_, rfl⟩
      have HA : Hid (putL p = la ∧ putR p = none) := Lib.hid ⟨hla.symm, putR_none.2 kp⟩
      have HMA := Lib.hid hma
      obtain ⟨lb, hlb⟩ : ∃ z, z = putL q := ⟨_, rfl⟩
      obtain ⟨mb, hmb⟩ : ∃ z, z = lb.length := ⟨_, rfl⟩
      have HB : Hid (putL q = lb ∧ putR q = none) := Lib.hid ⟨hlb.symm, putR_none.2 kq⟩
      have HMB := Lib.hid hmb
      obtain ⟨r, hr⟩ : ∃ r, r = decide (p = q) := ⟨_, rfl⟩
      have HR : Hid (decide (p = q) = r) := Lib.hid hr.symm
      obtain ⟨sa, hsa⟩ : ∃ s, s = strOfNums la := ⟨_, rfl⟩
      obtain ⟨sb, hsb⟩ : ∃ s, s = strOfNums lb := ⟨_, rfl⟩
      have HSA : Hid (strOfNums la = sa) := Lib.hid hsa.symm
      have HSB : Hid (strOfNums lb = sb) := Lib.hid hsb.symm
      have fcmp : (sa.toList == sb.toList) = r := by
        rw [str_ne (by rw [hla]; exact putL_lt p hp.lt) (by rw [hlb]; exact putL_lt q hq.lt) hsa hsb, hr, hla, hlb]
        exact decide_eq_decide.2 (put_inj kp kq)
      clear hr hsa hsb
      clear hp hq kp kq hla hma hlb hmb
      go_enter Try.func4, Try.ntmps4
      go_upto_region 2 with (first
        | ((with_reducible refine gate_dst (N := 2) rfl ?_); refine wp_box rfl (.tmp 0) rfl rfl HU.out ?_; intro w2 hP hB hs; have H2 := Lib.hid (And.intro hP (And.intro hB hs)); clear hP hB hs)
        | ((with_reducible refine gate_dst (N := 3) rfl ?_); refine wp_box rfl (.tmp 1) rfl rfl HV.out ?_; intro w3 hP hB hs; have HS3 : Hid (SW w w.heap.size w2.heap.size p q u v w3) := Lib.hid ⟨H2.out.1.below hB, hP, H2.out.2.1.trans (hB.mono H2.out.2.1.size)⟩; clear hP hB hs)
        | ((with_reducible refine gate_dst (N := 10) rfl ?_); refine wp_ldpk rfl (.tmp 2) rfl rfl HS3.out.P ?_)
        | (go_at_call 6
           refine (Put_calls (D := fun k => k < w.heap.size) p u _ (HP.out.at0 HS3.out.B) (fun k hk => Nat.lt_of_lt_of_le hk HS3.out.B.size)).mono ?_
           rw [HA.out.1, HA.out.2]
           rintro e w4 ⟨v', ev, rfl, h1, h2, h3⟩
           obtain rfl := ErR_nil h1
           obtain ⟨A4, c4, rfl, _⟩ := h2.val
           rw [← HMA.out] at h2 ⊢
           have H4 := Lib.hid (And.intro (HS3.out.below h3) (h2.base HS3.out.B.size))
           clear h1 h2 h3 HS3))
      go_upto_region 3 with (first
        | ((with_reducible refine gate_dst (N := 15) rfl ?_); refine wp_ldpk rfl (.tmp 3) rfl rfl H4.out.1.Q ?_)
        | (go_at_call 6
           refine (Put_calls (D := fun k => k < w.heap.size) q v _ (HQ.out.at0 H4.out.1.B) (fun k hk => Nat.lt_of_lt_of_le hk H4.out.1.B.size)).mono ?_
           rw [HB.out.1, HB.out.2]
           rintro e w5 ⟨v', ev, rfl, h1, h2, h3⟩
           obtain rfl := ErR_nil h1
           obtain ⟨A5, c5, rfl, _⟩ := h2.val
           rw [← HMB.out] at h2 ⊢
           have HS5 : Hid (SA w w.heap.size w2.heap.size p q u v (.slice A4 ma c4) (.slice A5 mb c5) la lb w5) := Lib.hid ⟨H4.out.1.below h3, H4.out.2.below h3, h2.base H4.out.1.B.size⟩
           clear h1 h2 h3 H4))
      go_upto_region 5 with (fail)
      refine start_ (n := 13) (S := fun w' => SA w w.heap.size w2.heap.size p q u v (.slice A4 ma c4) (.slice A5 mb c5) la lb w') (ds := []) #[false, false, false, false, false, false, false, false, false, false, false, false, false] (by kernel_rfl) rfl rfl HS5.out.drew (fun hHeld => ?_)
      refine pure_ (i := 0) (N := some 26) (v := ?_) (a' := ?_) #[true, false, false, false, false, false, false, false, false, false, false, false, false] rfl rfl (by kernel_rfl) (fun _ _ _ h => h) (Or.inl ⟨by rfl, ?_⟩) ?_ ?_
      rotate_left
      · intro w'
        go_simp
        with_reducible rfl
      rotate_left
      · simp only [Act.put, List.setIfInBounds_toArray, List.set_cons_zero, List.set_cons_succ, i64_w, i32_w]
        rfl
      refine take_ (i := 1) (N := some 27) (v := .string sa) #[true, true, false, false, false, false, false, false, false, false, false, false, false] rfl rfl (by kernel_rfl) (fun _ _ _ h => h) (Or.inl ⟨by rfl, fun w' hs => run_cnv (.tmp 26) rfl rfl (HSA.out ▸ hs.a.rb.rdt.str)⟩) hHeld rfl ?_
      refine norm_ (a' := ?_) ?_ ?_
      rotate_left
      · show Act.put _ (some 27) _ = _
        simp only [Act.put, List.setIfInBounds_toArray, List.set_cons_zero, List.set_cons_succ, i64_w, i32_w]
        rfl
      refine pure_ (i := 2) (N := some 28) (v := ?_) (a' := ?_) #[true, true, true, false, false, false, false, false, false, false, false, false, false] rfl rfl (by kernel_rfl) (fun _ _ _ h => h) (Or.inl ⟨by rfl, ?_⟩) ?_ ?_
      rotate_left
      · intro w'
        go_simp
        with_reducible rfl
      rotate_left
      · simp only [Act.put, List.setIfInBounds_toArray, List.set_cons_zero, List.set_cons_succ, i64_w, i32_w]
        rfl
      refine take_ (i := 3) (N := some 29) (v := .string sb) #[true, true, true, true, false, false, false, false, false, false, false, false, false] rfl rfl (by kernel_rfl) (fun _ _ _ h => h) (Or.inl ⟨by rfl, fun w' hs => run_cnv (.tmp 28) rfl rfl (HSB.out ▸ hs.b.rb.rdt.str)⟩) hHeld rfl ?_
      refine norm_ (a' := ?_) ?_ ?_
      rotate_left
      · show Act.put _ (some 29) _ = _
        simp only [Act.put, List.setIfInBounds_toArray, List.set_cons_zero, List.set_cons_succ, i64_w, i32_w]
        rfl
      refine pure_ (i := 4) (N := some 30) (v := ?_) (a' := ?_) #[true, true, true, true, true, false, false, false, false, false, false, false, false] rfl rfl (by kernel_rfl) (fun _ _ _ h => h) (Or.inl ⟨by rfl, ?_⟩) ?_ ?_
      rotate_left
      · intro w'
        go_simp
        with_reducible rfl
      rotate_left
      · simp only [Act.put, List.setIfInBounds_toArray, List.set_cons_zero, List.set_cons_succ, i64_w, i32_w]
        rfl
      refine take_ (i := 5) (N := some 31) (v := pkV p u) #[true, true, true, true, true, true, false, false, false, false, false, false, false] rfl rfl (by kernel_rfl) (fun _ _ _ h => h) (Or.inl ⟨by rfl, fun w' hs => run_ldpk (.tmp 2) rfl rfl hs.S.P⟩) hHeld rfl ?_
      refine norm_ (a' := ?_) ?_ ?_
      rotate_left
      · show Act.put _ (some 31) _ = _
        simp only [Act.put, List.setIfInBounds_toArray, List.set_cons_zero, List.set_cons_succ, i64_w, i32_w]
        rfl
      refine take_ (i := 6) (N := some 32) (v := pkV q v) #[true, true, true, true, true, true, true, false, false, false, false, false, false] rfl rfl (by kernel_rfl) (fun _ _ _ h => h) (Or.inl ⟨by rfl, fun w' hs => run_ldpk (.tmp 3) rfl rfl hs.S.Q⟩) hHeld rfl ?_
      refine norm_ (a' := ?_) ?_ ?_
      rotate_left
      · show Act.put _ (some 32) _ = _
        simp only [Act.put, List.setIfInBounds_toArray, List.set_cons_zero, List.set_cons_succ, i64_w, i32_w]
        rfl
      refine one_ (i := 7) (N := some 33) #[true, true, true, true, true, true, true, true, false, false, false, false, false] rfl rfl (by kernel_rfl) (by decide) (fun K hK => ?_)
      refine call_ 8 #[pkV p u, pkV q v] (by rfl) rfl ?_ ?_
      · have he := enters_ (P := Try.prog) Try.func8 (by kernel_rfl) rfl #[pkV p u, pkV q v] w5.drew
        unfold execOp
        simp [resolve, Deferred.ofValue, invoke, Act.eval, he]
      refine (SamR_calls (D := fun k => k < w.heap.size) (D' := fun k => k < w.heap.size) p q u v w5.drew (HP.out.at0 hHeld.S.B) (HQ.out.at0 hHeld.S.B) (fun k hk => Nat.lt_of_lt_of_le hk hHeld.S.B.size) (fun k hk => Nat.lt_of_lt_of_le hk hHeld.S.B.size)).mono ?_
      rw [HR.out]
      rintro e w6 ⟨rfl, hb⟩
      refine ⟨_, rfl, ?_⟩
      have hH6x := hHeld.below hb
      clear hb
      refine hK.out _ _ hH6x (fun hH6 => ?_)
      clear hK K hHeld
      refine norm_ (a' := ?_) ?_ ?_
      rotate_left
      · show Act.put _ (some 33) _ = _
        simp only [Act.put, List.setIfInBounds_toArray, List.set_cons_zero, List.set_cons_succ, i64_w, i32_w]
        rfl
      refine pure_ (i := 8) (N := some 34) (v := ?_) (a' := ?_) #[true, true, true, true, true, true, true, true, true, false, false, false, false] rfl rfl (by kernel_rfl) (fun _ _ _ h => h) (Or.inl ⟨by rfl, ?_⟩) ?_ ?_
      rotate_left
      · intro w'
        go_simp
        with_reducible rfl
      rotate_left
      · simp only [Act.put, List.setIfInBounds_toArray, List.set_cons_zero, List.set_cons_succ, i64_w, i32_w]
        rfl
      refine pure_ (i := 9) (N := some 35) (v := ?_) (a' := ?_) #[true, true, true, true, true, true, true, true, true, true, false, false, false] rfl rfl (by kernel_rfl) (fun _ _ _ h => h) (Or.inl ⟨by rfl, ?_⟩) ?_ ?_
      rotate_left
      · intro w'
        go_simp
        with_reducible rfl
      rotate_left
      · simp only [Act.put, List.setIfInBounds_toArray, List.set_cons_zero, List.set_cons_succ, i64_w, i32_w]
        rfl
      refine one_ (i := 10) (N := some 36) #[true, true, true, true, true, true, true, true, true, true, true, false, false] rfl rfl (by kernel_rfl) (by decide) (fun K hK => ?_)
      refine call_ 9 #[] (by rfl) rfl ?_ ?_
      · have he := enters_ (P := Try.prog) Try.func9 (by kernel_rfl) rfl #[] w6
        unfold execOp
        simp [resolve, Deferred.ofValue, invoke, Act.eval, he]
      refine (awake_calls w6).mono ?_
      rintro e w7 ⟨rfl, hb⟩
      refine ⟨_, rfl, ?_⟩
      have hH7x := hH6.below hb
      clear hb
      refine hK.out _ _ hH7x (fun hH7 => ?_)
      clear hK K hH6
      refine norm_ (a' := ?_) ?_ ?_
      rotate_left
      · show Act.put _ (some 36) _ = _
        simp only [Act.put, List.setIfInBounds_toArray, List.set_cons_zero, List.set_cons_succ, i64_w, i32_w]
        rfl
      refine pure_ (i := 11) (N := some 37) (v := ?_) (a' := ?_) #[true, true, true, true, true, true, true, true, true, true, true, true, false] rfl rfl (by kernel_rfl) (fun _ _ _ h => h) (Or.inl ⟨by rfl, ?_⟩) ?_ ?_
      rotate_left
      · intro w'
        go_simp
        with_reducible rfl
      rotate_left
      · simp only [Act.put, List.setIfInBounds_toArray, List.set_cons_zero, List.set_cons_succ, i64_w, i32_w]
        rfl
      refine pure_ (i := 12) (N := some 4) (v := ?_) (a' := ?_) #[true, true, true, true, true, true, true, true, true, true, true, true, true] rfl rfl (by kernel_rfl) (fun _ _ _ h => h) (Or.inl ⟨by rfl, ?_⟩) ?_ ?_
      rotate_left
      · intro w'
        go_simp
        with_reducible rfl
      rotate_left
      · simp only [Act.put, List.setIfInBounds_toArray, List.set_cons_zero, List.set_cons_succ, i64_w, i32_w]
        rfl
      refine done_ (by kernel_rfl) ?_
      go_wp2
      go_ret
      exact ⟨rfl, hH7.S.B⟩
    · skip
      have HU := Lib.hid (cells_of hp)
      have HV := Lib.hid (cells_of hq)
      have HP := Lib.hid hp
      have HQ := Lib.hid hq
      obtain ⟨la, hla⟩ : ∃ z, z = putL p := ⟨_, rfl⟩
      obtain ⟨ma, hma⟩ : ∃ z, z = la.length := ⟨_, rfl⟩
      have HA : Hid (putL p = la ∧ putR p = none) := Lib.hid ⟨hla.symm, putR_none.2 kp⟩
      have HMA := Lib.hid hma
      obtain ⟨xq, hxq⟩ := not_none (fun e => kq (putR_none.1 e))
      have HB : Hid (putR q = some xq) := Lib.hid hxq
      clear hp hq kp kq hla hma hxq
      go_enter Try.func4, Try.ntmps4
      go_upto_region 2 with (first
        | ((with_reducible refine gate_dst (N := 2) rfl ?_); refine wp_box rfl (.tmp 0) rfl rfl HU.out ?_; intro w2 hP hB hs; have H2 := Lib.hid (And.intro hP (And.intro hB hs)); clear hP hB hs)
        | ((with_reducible refine gate_dst (N := 3) rfl ?_); refine wp_box rfl (.tmp 1) rfl rfl HV.out ?_; intro w3 hP hB hs; have HS3 : Hid (SW w w.heap.size w2.heap.size p q u v w3) := Lib.hid ⟨H2.out.1.below hB, hP, H2.out.2.1.trans (hB.mono H2.out.2.1.size)⟩; clear hP hB hs)
        | ((with_reducible refine gate_dst (N := 10) rfl ?_); refine wp_ldpk rfl (.tmp 2) rfl rfl HS3.out.P ?_)
        | (go_at_call 6
           refine (Put_calls (D := fun k => k < w.heap.size) p u _ (HP.out.at0 HS3.out.B) (fun k hk => Nat.lt_of_lt_of_le hk HS3.out.B.size)).mono ?_
           rw [HA.out.1, HA.out.2]
           rintro e w4 ⟨v', ev, rfl, h1, h2, h3⟩
           obtain rfl := ErR_nil h1
           obtain ⟨A4, c4, rfl, _⟩ := h2.val
           rw [← HMA.out] at h2 ⊢
           have H4 := Lib.hid (And.intro (HS3.out.below h3) (h2.base HS3.out.B.size))
           clear h1 h2 h3 HS3))
      go_upto_region 3 with (first
        | ((with_reducible refine gate_dst (N := 15) rfl ?_); refine wp_ldpk rfl (.tmp 3) rfl rfl H4.out.1.Q ?_)
        | (go_at_call 6
           refine (Put_calls (D := fun k => k < w.heap.size) q v _ (HQ.out.at0 H4.out.1.B) (fun k hk => Nat.lt_of_lt_of_le hk H4.out.1.B.size)).mono ?_
           rw [HB.out]
           rintro e w5 ⟨v', ev, rfl, h1, h2, h3⟩
           obtain ⟨a, rfl⟩ := ErR_ptr h1
           obtain ⟨A5, c5, rfl, _⟩ := h2.val
           obtain ⟨mb, hml⟩ : ∃ z, z = (putL q).length := ⟨_, rfl⟩
           rw [← hml] at h2 ⊢
           clear hml
           have H5 := Lib.hid (H4.out.1.below h3).B
           clear h1 h2 h3 H4))
      go_wp2_with (first
        | (go_at_call 9
           refine (awake_calls _).mono ?_
           rintro e w6 ⟨rfl, hb⟩
           have H6 := Lib.hid (H5.out.trans (hb.mono H5.out.size))
           clear hb))
      go_ret
      exact ⟨rfl, H6.out⟩
  · by_cases kq : whyP q = 0
    · skip
      have HU := Lib.hid (cells_of hp)
      have HV := Lib.hid (cells_of hq)
      have HP := Lib.hid hp
      have HQ := Lib.hid hq
      obtain ⟨xp, hxp⟩ := not_none (fun e => kp (putR_none.1 e))
      have HA : Hid (putR p = some xp) := Lib.hid hxp
      obtain ⟨lb, hlb⟩ : ∃ z, z = putL q := ⟨_, rfl⟩
      obtain ⟨mb, hmb⟩ : ∃ z, z = lb.length := ⟨_, rfl⟩
      have HB : Hid (putL q = lb ∧ putR q = none) := Lib.hid ⟨hlb.symm, putR_none.2 kq⟩
      have HMB := Lib.hid hmb
      clear hp hq kp kq hxp hlb hmb
      go_enter Try.func4, Try.ntmps4
      go_upto_region 2 with (first
        | ((with_reducible refine gate_dst (N := 2) rfl ?_); refine wp_box rfl (.tmp 0) rfl rfl HU.out ?_; intro w2 hP hB hs; have H2 := Lib.hid (And.intro hP (And.intro hB hs)); clear hP hB hs)
        | ((with_reducible refine gate_dst (N := 3) rfl ?_); refine wp_box rfl (.tmp 1) rfl rfl HV.out ?_; intro w3 hP hB hs; have HS3 : Hid (SW w w.heap.size w2.heap.size p q u v w3) := Lib.hid ⟨H2.out.1.below hB, hP, H2.out.2.1.trans (hB.mono H2.out.2.1.size)⟩; clear hP hB hs)
        | ((with_reducible refine gate_dst (N := 10) rfl ?_); refine wp_ldpk rfl (.tmp 2) rfl rfl HS3.out.P ?_)
        | (go_at_call 6
           refine (Put_calls (D := fun k => k < w.heap.size) p u _ (HP.out.at0 HS3.out.B) (fun k hk => Nat.lt_of_lt_of_le hk HS3.out.B.size)).mono ?_
           rw [HA.out]
           rintro e w4 ⟨v', ev, rfl, h1, h2, h3⟩
           obtain ⟨a, rfl⟩ := ErR_ptr h1
           obtain ⟨A4, c4, rfl, _⟩ := h2.val
           obtain ⟨ma, hml⟩ : ∃ z, z = (putL p).length := ⟨_, rfl⟩
           rw [← hml] at h2 ⊢
           clear hml
           have H4 := Lib.hid (And.intro (HS3.out.below h3) (h2.base HS3.out.B.size))
           clear h1 h2 h3 HS3))
      go_upto_region 3 with (first
        | ((with_reducible refine gate_dst (N := 15) rfl ?_); refine wp_ldpk rfl (.tmp 3) rfl rfl H4.out.1.Q ?_)
        | (go_at_call 6
           refine (Put_calls (D := fun k => k < w.heap.size) q v _ (HQ.out.at0 H4.out.1.B) (fun k hk => Nat.lt_of_lt_of_le hk H4.out.1.B.size)).mono ?_
           rw [HB.out.1, HB.out.2]
           rintro e w5 ⟨v', ev, rfl, h1, h2, h3⟩
           obtain rfl := ErR_nil h1
           obtain ⟨A5, c5, rfl, _⟩ := h2.val
           rw [← HMB.out] at h2 ⊢
           have H5 := Lib.hid (H4.out.1.below h3).B
           clear h1 h2 h3 H4))
      go_wp2_with (first
        | (go_at_call 9
           refine (awake_calls _).mono ?_
           rintro e w6 ⟨rfl, hb⟩
           have H6 := Lib.hid (H5.out.trans (hb.mono H5.out.size))
           clear hb))
      go_ret
      exact ⟨rfl, H6.out⟩
    · skip
      have HU := Lib.hid (cells_of hp)
      have HV := Lib.hid (cells_of hq)
      have HP := Lib.hid hp
      have HQ := Lib.hid hq
      obtain ⟨xp, hxp⟩ := not_none (fun e => kp (putR_none.1 e))
      have HA : Hid (putR p = some xp) := Lib.hid hxp
      obtain ⟨xq, hxq⟩ := not_none (fun e => kq (putR_none.1 e))
      have HB : Hid (putR q = some xq) := Lib.hid hxq
      clear hp hq kp kq hxp hxq
      go_enter Try.func4, Try.ntmps4
      go_upto_region 2 with (first
        | ((with_reducible refine gate_dst (N := 2) rfl ?_); refine wp_box rfl (.tmp 0) rfl rfl HU.out ?_; intro w2 hP hB hs; have H2 := Lib.hid (And.intro hP (And.intro hB hs)); clear hP hB hs)
        | ((with_reducible refine gate_dst (N := 3) rfl ?_); refine wp_box rfl (.tmp 1) rfl rfl HV.out ?_; intro w3 hP hB hs; have HS3 : Hid (SW w w.heap.size w2.heap.size p q u v w3) := Lib.hid ⟨H2.out.1.below hB, hP, H2.out.2.1.trans (hB.mono H2.out.2.1.size)⟩; clear hP hB hs)
        | ((with_reducible refine gate_dst (N := 10) rfl ?_); refine wp_ldpk rfl (.tmp 2) rfl rfl HS3.out.P ?_)
        | (go_at_call 6
           refine (Put_calls (D := fun k => k < w.heap.size) p u _ (HP.out.at0 HS3.out.B) (fun k hk => Nat.lt_of_lt_of_le hk HS3.out.B.size)).mono ?_
           rw [HA.out]
           rintro e w4 ⟨v', ev, rfl, h1, h2, h3⟩
           obtain ⟨a, rfl⟩ := ErR_ptr h1
           obtain ⟨A4, c4, rfl, _⟩ := h2.val
           obtain ⟨ma, hml⟩ : ∃ z, z = (putL p).length := ⟨_, rfl⟩
           rw [← hml] at h2 ⊢
           clear hml
           have H4 := Lib.hid (And.intro (HS3.out.below h3) (h2.base HS3.out.B.size))
           clear h1 h2 h3 HS3))
      go_upto_region 3 with (first
        | ((with_reducible refine gate_dst (N := 15) rfl ?_); refine wp_ldpk rfl (.tmp 3) rfl rfl H4.out.1.Q ?_)
        | (go_at_call 6
           refine (Put_calls (D := fun k => k < w.heap.size) q v _ (HQ.out.at0 H4.out.1.B) (fun k hk => Nat.lt_of_lt_of_le hk H4.out.1.B.size)).mono ?_
           rw [HB.out]
           rintro e w5 ⟨v', ev, rfl, h1, h2, h3⟩
           obtain ⟨a, rfl⟩ := ErR_ptr h1
           obtain ⟨A5, c5, rfl, _⟩ := h2.val
           obtain ⟨mb, hml⟩ : ∃ z, z = (putL q).length := ⟨_, rfl⟩
           rw [← hml] at h2 ⊢
           clear hml
           have H5 := Lib.hid (H4.out.1.below h3).B
           clear h1 h2 h3 H4))
      go_wp2_with (first
        | (go_at_call 9
           refine (awake_calls _).mono ?_
           rintro e w6 ⟨rfl, hb⟩
           have H6 := Lib.hid (H5.out.trans (hb.mono H5.out.size))
           clear hb))
      go_ret
      exact ⟨rfl, H6.out⟩
end Go.Proofs.Ytfcofokbhhnfkaa.Byt
