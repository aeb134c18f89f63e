/- WireSames, WireBack, WireApart walked. Conditions: bytes as they may be read. Printed by mklaws.py. -/
import Derived.Test.YtfcofokbhhnfkaaAwk
import Derived.Test.YtfcofokbhhnfkaaPko
namespace Go.Proofs.Ytfcofokbhhnfkaa.Byt
set_option linter.unusedSimpArgs false
set_option linter.unusedVariables false
open Go.RowKit Go.Deep Go.Proofs.Ytfcofokbhhnfkaa.Er Go.Proofs.YtfcofokbhhnfkaaW.PrintWords Go.Proofs.YtfcofokbhhnfkaaW.PrintLast Go.Proofs.YtfcofokbhhnfkaaW.PrintMore
/-- Two packets' boxes, and what stays. -/
structure SW (w : World) (g h : Nat) (p q : Pk) (u v : Value) (w' : World) : Prop where
  P : PkAt w' g p u
  Q : PkAt w' h q v
  B : Below w.heap.size w w'
theorem SW.below {w : World} {g h : Nat} {p q : Pk} {u v : Value} {w' w2 : World} (k : SW w g h p q u v w') (hb : Below w'.heap.size w' w2) : SW w g h p q u v w2 := ⟨k.P.below hb, k.Q.below hb, k.B.trans (hb.mono k.B.size)⟩
theorem SW.drew {w : World} {g h : Nat} {p q : Pk} {u v : Value} {w' : World} (k : SW w g h p q u v w') : SW w g h p q u v w'.drew := ⟨k.P, k.Q, k.B.drew⟩
theorem RdB.at0 {w w' : World} {v : Value} {l : List Int} (h : RdB (fun k => k < w.heap.size) w v l) (hb : Below w.heap.size w w') : RdB (fun k => k < w.heap.size) w' v l := h.keep (fun k hk => hb.block k hk)
theorem cells_of {D : Nat → Prop} {w : World} {v : Value} {l : List Int} (h : RdB D w v l) : v.cells = #[v] := by
  obtain ⟨A, c, rfl, _⟩ := h
  rfl
set_option maxHeartbeats 8000000 in
set_option maxRecDepth 100000 in
theorem sames_calls (p q : Pk) (u v : Value) (w : World) (hp : RdB (fun k => k < w.heap.size) w u p.data) (hq : RdB (fun k => k < w.heap.size) w v q.data) :
    Calls Try.prog 5 #[pkV p u, pkV q v] w fun e w' => e = .returned (.bool true) ∧ Below w.heap.size w w' := by
  have HP := Lib.hid hp
  have HQ := Lib.hid hq
  have HU := Lib.hid (cells_of hp)
  have HV := Lib.hid (cells_of hq)
  clear hp hq
  go_enter Try.func5, Try.ntmps5
  go_upto_region 1 with (first
    | ((with_reducible refine gate_dst (N := 2) rfl ?_); refine wp_box rfl (.tmp 0) rfl rfl HU.out ?_; intro w2 hP hB hs; have H2 := Lib.hid (And.intro hP (And.intro hB hs)); clear hP hB hs)
    | ((with_reducible refine gate_dst (N := 3) rfl ?_); refine wp_box rfl (.tmp 1) rfl rfl HV.out ?_; intro w3 hP hB hs; have HS : Hid (SW w w.heap.size w2.heap.size p q u v w3) := Lib.hid ⟨H2.out.1.below hB, hP, H2.out.2.1.trans (hB.mono H2.out.2.1.size)⟩; clear hP hB hs))
  refine start_ (n := 17) (S := fun w' => SW w w.heap.size w2.heap.size p q u v w') (ds := []) #[false, false, false, false, false, false, false, false, false, false, false, false, false, false, false, false, false] (by kernel_rfl) rfl rfl HS.out.drew (fun hHeld => ?_)
  refine take_ (i := 0) (N := some 5) (v := pkV p u) #[true, false, false, false, false, false, false, false, false, false, false, false, false, false, false, false, false] rfl rfl (by kernel_rfl) (fun _ _ _ h => h) (Or.inl ⟨by rfl, fun w' hs => run_ldpk (.tmp 2) rfl rfl hs.P⟩) hHeld rfl ?_
  refine norm_ (a' := ?_) ?_ ?_
  rotate_left
  · show Act.put _ (some 5) _ = _
    simp only [Act.put, List.setIfInBounds_toArray, List.set_cons_zero, List.set_cons_succ, i64_w, i32_w]
    rfl
  refine take_ (i := 1) (N := some 6) (v := pkV q v) #[true, true, false, false, false, false, false, false, false, false, false, false, false, false, false, false, false] rfl rfl (by kernel_rfl) (fun _ _ _ h => h) (Or.inl ⟨by rfl, fun w' hs => run_ldpk (.tmp 3) rfl rfl hs.Q⟩) hHeld rfl ?_
  refine norm_ (a' := ?_) ?_ ?_
  rotate_left
  · show Act.put _ (some 6) _ = _
    simp only [Act.put, List.setIfInBounds_toArray, List.set_cons_zero, List.set_cons_succ, i64_w, i32_w]
    rfl
  refine take_ (i := 3) (N := some 8) (v := pkV p u) #[true, true, false, true, false, false, false, false, false, false, false, false, false, false, false, false, false] rfl rfl (by kernel_rfl) (fun _ _ _ h => h) (Or.inl ⟨by rfl, fun w' hs => run_ldpk (.tmp 2) rfl rfl hs.P⟩) hHeld rfl ?_
  refine norm_ (a' := ?_) ?_ ?_
  rotate_left
  · show Act.put _ (some 8) _ = _
    simp only [Act.put, List.setIfInBounds_toArray, List.set_cons_zero, List.set_cons_succ, i64_w, i32_w]
    rfl
  refine take_ (i := 4) (N := some 9) (v := pkV q v) #[true, true, false, true, true, false, false, false, false, false, false, false, false, false, false, false, false] rfl rfl (by kernel_rfl) (fun _ _ _ h => h) (Or.inl ⟨by rfl, fun w' hs => run_ldpk (.tmp 3) rfl rfl hs.Q⟩) hHeld rfl ?_
  refine norm_ (a' := ?_) ?_ ?_
  rotate_left
  · show Act.put _ (some 9) _ = _
    simp only [Act.put, List.setIfInBounds_toArray, List.set_cons_zero, List.set_cons_succ, i64_w, i32_w]
    rfl
  refine one_ (i := 2) (N := some 7) #[true, true, true, true, true, false, false, false, false, false, false, false, false, false, false, false, false] rfl rfl (by kernel_rfl) (by decide) (fun K hK => ?_)
  refine call_ 10 #[pkV p u, pkV q v] (by rfl) rfl ?_ ?_
  · have he := enters_ (P := Try.prog) Try.func10 (by kernel_rfl) rfl #[pkV p u, pkV q v] w3.drew
    unfold execOp
    simp [resolve, Deferred.ofValue, invoke, Act.eval, he]
  refine (Same_calls (D := fun k => k < w.heap.size) (D' := fun k => k < w.heap.size) p q u v w3.drew (HP.out.at0 hHeld.B) (HQ.out.at0 hHeld.B) (fun k hk => Nat.lt_of_lt_of_le hk hHeld.B.size) (fun k hk => Nat.lt_of_lt_of_le hk hHeld.B.size)).mono ?_
  rintro e w4 ⟨rfl, hb⟩
  refine ⟨_, rfl, ?_⟩
  have hH4x := hHeld.below hb
  clear hb
  refine hK.out _ _ hH4x (fun hH4 => ?_)
  clear hK K hHeld
  refine norm_ (a' := ?_) ?_ ?_
  rotate_left
  · show Act.put _ (some 7) _ = _
    simp only [Act.put, List.setIfInBounds_toArray, List.set_cons_zero, List.set_cons_succ, i64_w, i32_w]
    rfl
  refine one_ (i := 5) (N := some 10) #[true, true, true, true, true, true, false, false, false, false, false, false, false, false, false, false, false] rfl rfl (by kernel_rfl) (by decide) (fun K hK => ?_)
  refine call_ 8 #[pkV p u, pkV q v] (by rfl) rfl ?_ ?_
  · have he := enters_ (P := Try.prog) Try.func8 (by kernel_rfl) rfl #[pkV p u, pkV q v] w4
    unfold execOp
    simp [resolve, Deferred.ofValue, invoke, Act.eval, he]
  refine (SamR_calls (D := fun k => k < w.heap.size) (D' := fun k => k < w.heap.size) p q u v w4 (HP.out.at0 hH4.B) (HQ.out.at0 hH4.B) (fun k hk => Nat.lt_of_lt_of_le hk hH4.B.size) (fun k hk => Nat.lt_of_lt_of_le hk hH4.B.size)).mono ?_
  rintro e w5 ⟨rfl, hb⟩
  refine ⟨_, rfl, ?_⟩
  have hH5x := hH4.below hb
  clear hb
  refine hK.out _ _ hH5x (fun hH5 => ?_)
  clear hK K hH4
  refine norm_ (a' := ?_) ?_ ?_
  rotate_left
  · show Act.put _ (some 10) _ = _
    simp only [Act.put, List.setIfInBounds_toArray, List.set_cons_zero, List.set_cons_succ, i64_w, i32_w]
    rfl
  refine pure_ (i := 6) (N := some 11) (v := ?_) (a' := ?_) #[true, true, true, true, true, true, true, false, false, false, false, false, false, false, false, false, false] rfl rfl (by kernel_rfl) (fun _ _ _ h => h) (Or.inl ⟨by rfl, ?_⟩) ?_ ?_
  rotate_left
  · intro w'
    go_simp
    with_reducible rfl
  rotate_left
  · simp only [Act.put, List.setIfInBounds_toArray, List.set_cons_zero, List.set_cons_succ, i64_w, i32_w]
    rfl
  refine pure_ (i := 7) (N := some 12) (v := ?_) (a' := ?_) #[true, true, true, true, true, true, true, true, false, false, false, false, false, false, false, false, false] rfl rfl (by kernel_rfl) (fun _ _ _ h => h) (Or.inl ⟨by rfl, ?_⟩) ?_ ?_
  rotate_left
  · intro w'
    go_simp
    with_reducible rfl
  rotate_left
  · simp only [Act.put, List.setIfInBounds_toArray, List.set_cons_zero, List.set_cons_succ, i64_w, i32_w]
    rfl
  refine take_ (i := 8) (N := some 13) (v := pkV p u) #[true, true, true, true, true, true, true, true, true, false, false, false, false, false, false, false, false] rfl rfl (by kernel_rfl) (fun _ _ _ h => h) (Or.inl ⟨by rfl, fun w' hs => run_ldpk (.tmp 2) rfl rfl hs.P⟩) hH5 rfl ?_
  refine norm_ (a' := ?_) ?_ ?_
  rotate_left
  · show Act.put _ (some 13) _ = _
    simp only [Act.put, List.setIfInBounds_toArray, List.set_cons_zero, List.set_cons_succ, i64_w, i32_w]
    rfl
  refine take_ (i := 9) (N := some 14) (v := pkV p u) #[true, true, true, true, true, true, true, true, true, true, false, false, false, false, false, false, false] rfl rfl (by kernel_rfl) (fun _ _ _ h => h) (Or.inl ⟨by rfl, fun w' hs => run_ldpk (.tmp 2) rfl rfl hs.P⟩) hH5 rfl ?_
  refine norm_ (a' := ?_) ?_ ?_
  rotate_left
  · show Act.put _ (some 14) _ = _
    simp only [Act.put, List.setIfInBounds_toArray, List.set_cons_zero, List.set_cons_succ, i64_w, i32_w]
    rfl
  refine one_ (i := 10) (N := some 15) #[true, true, true, true, true, true, true, true, true, true, true, false, false, false, false, false, false] rfl rfl (by kernel_rfl) (by decide) (fun K hK => ?_)
  refine call_ 11 #[pkV p u] (by rfl) rfl ?_ ?_
  · have he := enters_ (P := Try.prog) Try.func11 (by kernel_rfl) rfl #[pkV p u] w5
    unfold execOp
    simp [resolve, Deferred.ofValue, invoke, Act.eval, he]
  refine (copied_calls (D := fun k => k < w.heap.size) p u w5 (HP.out.at0 hH5.B) (fun k hk => Nat.lt_of_lt_of_le hk hH5.B.size)).mono ?_
  rintro e w6 ⟨cv, rfl, ho, hb⟩
  refine ⟨_, rfl, ?_⟩
  have hH6x := hH5.below hb
  clear hb
  have HO := Lib.hid ho
  clear ho
  refine hK.out _ _ hH6x (fun hH6 => ?_)
  clear hK K hH5
  refine norm_ (a' := ?_) ?_ ?_
  rotate_left
  · show Act.put _ (some 15) _ = _
    simp only [Act.put, List.setIfInBounds_toArray, List.set_cons_zero, List.set_cons_succ, i64_w, i32_w]
    rfl
  refine one_ (i := 11) (N := some 16) #[true, true, true, true, true, true, true, true, true, true, true, true, false, false, false, false, false] rfl rfl (by kernel_rfl) (by decide) (fun K hK => ?_)
  refine call_ 10 #[pkV p u, pkV p cv] (by rfl) rfl ?_ ?_
  · have he := enters_ (P := Try.prog) Try.func10 (by kernel_rfl) rfl #[pkV p u, pkV p cv] w6
    unfold execOp
    simp [resolve, Deferred.ofValue, invoke, Act.eval, he]
  refine (Same_calls (D := fun k => k < w.heap.size) p p u cv w6 (HP.out.at0 hH6.B) HO.out.rb.rdlt (fun k hk => Nat.lt_of_lt_of_le hk hH6.B.size) (fun k hk => hk)).mono ?_
  rw [show decide (p = p) = true from decide_eq_true rfl]
  rintro e w7 ⟨rfl, hb⟩
  refine ⟨_, rfl, ?_⟩
  have hH7x := hH6.below hb
  clear hb
  refine hK.out _ _ hH7x (fun hH7 => ?_)
  clear hK K hH6
  refine norm_ (a' := ?_) ?_ ?_
  rotate_left
  · show Act.put _ (some 16) _ = _
    simp only [Act.put, List.setIfInBounds_toArray, List.set_cons_zero, List.set_cons_succ, i64_w, i32_w]
    rfl
  refine pure_ (i := 12) (N := some 17) (v := ?_) (a' := ?_) #[true, true, true, true, true, true, true, true, true, true, true, true, true, false, false, false, false] rfl rfl (by kernel_rfl) (fun _ _ _ h => h) (Or.inl ⟨by rfl, ?_⟩) ?_ ?_
  rotate_left
  · intro w'
    go_simp
    with_reducible rfl
  rotate_left
  · simp only [Act.put, List.setIfInBounds_toArray, List.set_cons_zero, List.set_cons_succ, i64_w, i32_w]
    rfl
  refine pure_ (i := 13) (N := some 18) (v := ?_) (a' := ?_) #[true, true, true, true, true, true, true, true, true, true, true, true, true, true, false, false, false] rfl rfl (by kernel_rfl) (fun _ _ _ h => h) (Or.inl ⟨by rfl, ?_⟩) ?_ ?_
  rotate_left
  · intro w'
    go_simp
    with_reducible rfl
  rotate_left
  · simp only [Act.put, List.setIfInBounds_toArray, List.set_cons_zero, List.set_cons_succ, i64_w, i32_w]
    rfl
  refine one_ (i := 14) (N := some 19) #[true, true, true, true, true, true, true, true, true, true, true, true, true, true, true, false, false] rfl rfl (by kernel_rfl) (by decide) (fun K hK => ?_)
  refine call_ 9 #[] (by rfl) rfl ?_ ?_
  · have he := enters_ (P := Try.prog) Try.func9 (by kernel_rfl) rfl #[] w7
    unfold execOp
    simp [resolve, Deferred.ofValue, invoke, Act.eval, he]
  refine (awake_calls w7).mono ?_
  rintro e w8 ⟨rfl, hb⟩
  refine ⟨_, rfl, ?_⟩
  have hH8x := hH7.below hb
  clear hb
  refine hK.out _ _ hH8x (fun hH8 => ?_)
  clear hK K hH7
  refine norm_ (a' := ?_) ?_ ?_
  rotate_left
  · show Act.put _ (some 19) _ = _
    simp only [Act.put, List.setIfInBounds_toArray, List.set_cons_zero, List.set_cons_succ, i64_w, i32_w]
    rfl
  refine pure_ (i := 15) (N := some 20) (v := ?_) (a' := ?_) #[true, true, true, true, true, true, true, true, true, true, true, true, true, true, true, true, false] rfl rfl (by kernel_rfl) (fun _ _ _ h => h) (Or.inl ⟨by rfl, ?_⟩) ?_ ?_
  rotate_left
  · intro w'
    go_simp
    with_reducible rfl
  rotate_left
  · simp only [Act.put, List.setIfInBounds_toArray, List.set_cons_zero, List.set_cons_succ, i64_w, i32_w]
    rfl
  refine pure_ (i := 16) (N := some 4) (v := ?_) (a' := ?_) #[true, true, true, true, true, true, true, true, true, true, true, true, true, true, true, true, true] rfl rfl (by kernel_rfl) (fun _ _ _ h => h) (Or.inl ⟨by rfl, ?_⟩) ?_ ?_
  rotate_left
  · intro w'
    go_simp
    with_reducible rfl
  rotate_left
  · simp only [Act.put, List.setIfInBounds_toArray, List.set_cons_zero, List.set_cons_succ, i64_w, i32_w]
    rfl
  refine done_ (by kernel_rfl) ?_
  go_wp2
  go_ret
  exact ⟨rfl, hH8.B⟩
end Go.Proofs.Ytfcofokbhhnfkaa.Byt
