/- WireChecks walked. Premise: Glob. Conditions: numbers as memory holds them. Printed by mkchkl.py. -/
import Derived.Test.YtfcofokbhhnfkaaDoorRefC
namespace Go.Proofs.YtfcofokbhhnfkaaDoor.Byt
set_option linter.unusedSimpArgs false
set_option linter.unusedVariables false
open Go.RowKit Go.Deep Go.Proofs.YtfcofokbhhnfkaaDoor.Er Go.Proofs.YtfcofokbhhnfkaaDoor.As Go.Proofs.YtfcofokbhhnfkaaDoorW.PrintWords Go.Proofs.YtfcofokbhhnfkaaDoorW.PrintLast Go.Proofs.YtfcofokbhhnfkaaDoorW.PrintMore
theorem tells_er (c : ByteArray) (n : Int) : Tells.tells.f (er c n) n c = some true := by
  by_cases h : n = 0
  · subst h; rfl
  · rw [er_some h]; exact tells_n c [] n h
theorem RdB.at1 {w w' : World} {v : Value} {l : List Int} (h : RdB (fun k => k < w.heap.size) w v l) (hb : Below w.heap.size w w') : RdB (fun k => k < w'.heap.size) w' v l := by
  obtain ⟨A, c, h1, h2, h3, h4, h5⟩ := h.at0 hb
  refine ⟨A, c, h1, h2, h3, h4, fun hne => ?_⟩
  obtain ⟨a, e, hd, hx⟩ := h5 hne
  exact ⟨a, e, Nat.lt_of_lt_of_le hd hb.size, hx⟩
set_option maxHeartbeats 8000000 in
set_option maxRecDepth 100000 in
theorem checks_calls (p : Pk) (u : Value) (w : World) (hp : RdB (fun k => k < w.heap.size) w u p.data) (hb : PkB p) (hG : Glob w) :
    Calls Tryd.prog 3 #[pkV p u] w fun e w' => e = .returned (.bool true) ∧ Below w.heap.size w w' := by
  have HU := Lib.hid (cells_of hp)
  have HPB := Lib.hid hb
  have HP := Lib.hid hp
  have HG := Lib.hid hG
  obtain ⟨n, hn⟩ : ∃ n, n = whyP p := ⟨_, rfl⟩
  have HN : Hid (whyP p = n) := Lib.hid hn.symm
  clear hp hb hG hn
  go_enter Tryd.func3, Tryd.ntmps3
  go_upto_region 1 with (first
    | ((with_reducible refine gate_dst (N := 1) rfl ?_); refine wp_box rfl (.tmp 0) rfl rfl HU.out ?_; intro w2 hP hB hs; have H2 := Lib.hid (SB.mk hP hB); clear hP hB hs))
  refine start_ (n := 10) (S := fun w' => SB w w.heap.size p u w') (ds := []) #[false, false, false, false, false, false, false, false, false, false] (by kernel_rfl) rfl rfl H2.out.drew (fun hHeld => ?_)
  refine take_ (i := 0) (N := some 3) (v := pkV p u) #[true, false, false, false, false, false, false, false, false, false] rfl rfl (by kernel_rfl) (fun _ _ _ h => h) (Or.inl ⟨by rfl, fun w' hs => run_ldpk (.tmp 1) rfl rfl hs.P⟩) hHeld rfl ?_
  refine norm_ (a' := ?_) ?_ ?_
  rotate_left
  · show Act.put _ (some 3) _ = _
    simp only [Act.put, List.setIfInBounds_toArray, List.set_cons_zero, List.set_cons_succ, i64_w, i32_w]
    rfl
  refine take_ (i := 3) (N := some 6) (v := pkV p u) #[true, false, false, true, false, false, false, false, false, false] rfl rfl (by kernel_rfl) (fun _ _ _ h => h) (Or.inl ⟨by rfl, fun w' hs => run_ldpk (.tmp 1) rfl rfl hs.P⟩) hHeld rfl ?_
  refine norm_ (a' := ?_) ?_ ?_
  rotate_left
  · show Act.put _ (some 6) _ = _
    simp only [Act.put, List.setIfInBounds_toArray, List.set_cons_zero, List.set_cons_succ, i64_w, i32_w]
    rfl
  refine one_ (i := 1) (N := some 4) #[true, true, false, true, false, false, false, false, false, false] rfl rfl (by kernel_rfl) (by decide) (fun K hK => ?_)
  refine call_ 9 #[pkV p u] (by rfl) rfl ?_ ?_
  · have he := enters_ (P := Tryd.prog) Tryd.func9 (by kernel_rfl) rfl #[pkV p u] w2.drew
    unfold execOp
    simp [resolve, Deferred.ofValue, invoke, Act.eval, he]
  refine (copied_calls (D := fun k => k < w.heap.size) p u w2.drew (HP.out.at0 hHeld.B) (fun k hk => Nat.lt_of_lt_of_le hk hHeld.B.size)).mono ?_
  rintro e w3 ⟨cv, rfl, ho, hb⟩
  obtain ⟨A3, c3, rfl, _⟩ := ho.val
  refine ⟨_, rfl, ?_⟩
  have hH3x := hHeld.below hb
  clear hb
  clear ho
  refine hK.out _ _ hH3x (fun hH3 => ?_)
  clear hK K hHeld
  refine norm_ (a' := ?_) ?_ ?_
  rotate_left
  · show Act.put _ (some 4) _ = _
    simp only [Act.put, List.setIfInBounds_toArray, List.set_cons_zero, List.set_cons_succ, i64_w, i32_w]
    rfl
  refine one_ (i := 2) (N := some 5) #[true, true, true, true, false, false, false, false, false, false] rfl rfl (by kernel_rfl) (by decide) (fun K hK => ?_)
  refine call_ 8 #[pkV p (.slice A3 p.data.length c3)] (by rfl) rfl ?_ ?_
  · have he := enters_ (P := Tryd.prog) Tryd.func8 (by kernel_rfl) rfl #[pkV p (.slice A3 p.data.length c3)] w3
    unfold execOp
    simp [resolve, Deferred.ofValue, invoke, Act.eval, he]
  refine (Check_calls p A3 p.data.length c3 w3 rfl).mono ?_
  rw [HN.out]
  rintro e w4 ⟨ev, rfl, he, hb⟩
  refine ⟨_, rfl, ?_⟩
  have hH4x := hH3.below hb
  clear hb
  have HE4 := Lib.hid he
  clear he
  refine hK.out _ _ hH4x (fun hH4 => ?_)
  clear hK K hH3
  refine norm_ (a' := ?_) ?_ ?_
  rotate_left
  · show Act.put _ (some 5) _ = _
    simp only [Act.put, List.setIfInBounds_toArray, List.set_cons_zero, List.set_cons_succ, i64_w, i32_w]
    rfl
  refine one_ (i := 4) (N := some 7) #[true, true, true, true, true, false, false, false, false, false] rfl rfl (by kernel_rfl) (by decide) (fun K hK => ?_)
  refine call_ 10 #[pkV p u] (by rfl) rfl ?_ ?_
  · have he := enters_ (P := Tryd.prog) Tryd.func10 (by kernel_rfl) rfl #[pkV p u] w4
    unfold execOp
    simp [resolve, Deferred.ofValue, invoke, Act.eval, he]
  refine (rcheck_calls p u w4 (HP.out.at1 hH4.B) HPB.out).mono ?_
  rw [HN.out]
  rintro e w5 ⟨rfl, hb⟩
  refine ⟨_, rfl, ?_⟩
  have hH5x := hH4.below hb
  have HE5 := Lib.hid (ErR_below hb HE4.out)
  clear hb HE4
  refine hK.out _ _ hH5x (fun hH5 => ?_)
  clear hK K hH4
  refine norm_ (a' := ?_) ?_ ?_
  rotate_left
  · show Act.put _ (some 7) _ = _
    simp only [Act.put, List.setIfInBounds_toArray, List.set_cons_zero, List.set_cons_succ, i64_w, i32_w]
    rfl
  refine one_ (i := 5) (N := some 8) #[true, true, true, true, true, true, false, false, false, false] rfl rfl (by kernel_rfl) (by decide) (fun K hK => ?_)
  refine call_ 7 #[ev, .int .i64 n, .string ⟨#[119, 105, 114, 101, 46, 67, 104, 101, 99, 107]⟩] (by rfl) rfl ?_ ?_
  · have he := enters_ (P := Tryd.prog) Tryd.func7 (by kernel_rfl) rfl #[ev, .int .i64 n, .string ⟨#[119, 105, 114, 101, 46, 67, 104, 101, 99, 107]⟩] w5
    unfold execOp
    simp [resolve, Deferred.ofValue, invoke, Act.eval, he]
  refine (Tells.tells.calls ev (er ckN n) n ckN true w5 HE5.out (Glob_below HG.out hH5.B) (tells_er ckN n)).mono ?_
  rintro e w6 ⟨rfl, hb⟩
  refine ⟨_, rfl, ?_⟩
  have hH6x := hH5.below hb
  clear hb
  refine hK.out _ _ hH6x (fun hH6 => ?_)
  clear hK K hH5
  refine norm_ (a' := ?_) ?_ ?_
  rotate_left
  · show Act.put _ (some 8) _ = _
    simp only [Act.put, List.setIfInBounds_toArray, List.set_cons_zero, List.set_cons_succ, i64_w, i32_w]
    rfl
  refine pure_ (i := 6) (N := some 9) (v := ?_) (a' := ?_) #[true, true, true, true, true, true, true, false, false, false] rfl rfl (by kernel_rfl) (fun _ _ _ h => h) (Or.inl ⟨by rfl, ?_⟩) ?_ ?_
  rotate_left
  · intro w'
    go_simp
    with_reducible rfl
  rotate_left
  · simp only [Act.put, List.setIfInBounds_toArray, List.set_cons_zero, List.set_cons_succ, i64_w, i32_w]
    rfl
  refine one_ (i := 7) (N := some 10) #[true, true, true, true, true, true, true, true, false, false] rfl rfl (by kernel_rfl) (by decide) (fun K hK => ?_)
  refine call_ 11 #[] (by rfl) rfl ?_ ?_
  · have he := enters_ (P := Tryd.prog) Tryd.func11 (by kernel_rfl) rfl #[] w6
    unfold execOp
    simp [resolve, Deferred.ofValue, invoke, Act.eval, he]
  refine (awake_calls w6).mono ?_
  rintro e w7 ⟨rfl, hb⟩
  refine ⟨_, rfl, ?_⟩
  have hH7x := hH6.below hb
  clear hb
  refine hK.out _ _ hH7x (fun hH7 => ?_)
  clear hK K hH6
  refine norm_ (a' := ?_) ?_ ?_
  rotate_left
  · show Act.put _ (some 10) _ = _
    simp only [Act.put, List.setIfInBounds_toArray, List.set_cons_zero, List.set_cons_succ, i64_w, i32_w]
    rfl
  refine pure_ (i := 8) (N := some 11) (v := ?_) (a' := ?_) #[true, true, true, true, true, true, true, true, true, false] rfl rfl (by kernel_rfl) (fun _ _ _ h => h) (Or.inl ⟨by rfl, ?_⟩) ?_ ?_
  rotate_left
  · intro w'
    go_simp
    with_reducible rfl
  rotate_left
  · simp only [Act.put, List.setIfInBounds_toArray, List.set_cons_zero, List.set_cons_succ, i64_w, i32_w]
    rfl
  refine pure_ (i := 9) (N := some 2) (v := ?_) (a' := ?_) #[true, true, true, true, true, true, true, true, true, true] rfl rfl (by kernel_rfl) (fun _ _ _ h => h) (Or.inl ⟨by rfl, ?_⟩) ?_ ?_
  rotate_left
  · intro w'
    go_simp
    with_reducible rfl
  rotate_left
  · simp only [Act.put, List.setIfInBounds_toArray, List.set_cons_zero, List.set_cons_succ, i64_w, i32_w]
    rfl
  refine done_ (by kernel_rfl) ?_
  go_wp2
  go_ret
  exact ⟨rfl, hH7.B⟩
end Go.Proofs.YtfcofokbhhnfkaaDoor.Byt
