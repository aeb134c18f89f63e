/- blocking.up, by its contract: how many parts of so many a number has; its closure is walked too. Condition: the divisor is not 0. -/
import Derived.Test.YtfcofokbhhnfkaaDoorEr
import Derived.Test.YtfcofokbhhnfkaaDoorCel
import Derived.Test.YtfcofokbhhnfkaaDoorWWords
import Derived.Test.YtfcofokbhhnfkaaDoorWLast
import Derived.Test.YtfcofokbhhnfkaaDoorWMore
import Derived.Test.YtfcofokbhhnfkaaDoorWTab
namespace Go.Proofs.YtfcofokbhhnfkaaDoor.Wire
set_option linter.unusedSimpArgs false
set_option linter.unusedVariables false
open Go.RowKit Go.Proofs.YtfcofokbhhnfkaaDoor.Er Go.Proofs.YtfcofokbhhnfkaaDoorW.PrintWords Go.Proofs.YtfcofokbhhnfkaaDoorW.PrintLast Go.Proofs.YtfcofokbhhnfkaaDoorW.PrintMore
set_option maxHeartbeats 4000000 in
theorem more_calls (a b : Nat) (n m : Int) (w : World) (hm : m ≠ 0) (h1 : w.cell? ⟨a, 0, none⟩ = some (.int .i64 n)) (h2 : w.cell? ⟨b, 0, none⟩ = some (.int .i64 m)) :
    Calls Tryd.prog 58 #[.pointer (some ⟨a, 0, none⟩), .pointer (some ⟨b, 0, none⟩)] w fun e w' => e = .returned (.int .i64 (if Int.tmod n m > 0 then 1 else 0)) ∧ Below w.heap.size w w' := by
  have c1 : (m == 0) = false := beq_eq_false_iff_ne.2 hm
  have hm' : ¬ m = 0 := hm
  clear hm
  by_cases h : Int.tmod n m > 0
  · have HI := Lib.hid (show (if Int.tmod n m > 0 then (1 : Int) else 0) = 1 from if_pos h)
    have c2 : decide (0 < Int.tmod n m) = true := decide_eq_true h
    rw [HI.out]
    clear h
    go_enter Tryd.func58, Tryd.ntmps58
    go_wp2
    go_ret
    exact ⟨rfl, Below.refl _ _⟩
  · have HI := Lib.hid (show (if Int.tmod n m > 0 then (1 : Int) else 0) = 0 from if_neg h)
    have c2 : decide (0 < Int.tmod n m) = false := decide_eq_false h
    rw [HI.out]
    clear h
    go_enter Tryd.func58, Tryd.ntmps58
    go_wp2
    go_ret
    exact ⟨rfl, Below.refl _ _⟩
set_option maxHeartbeats 4000000 in
theorem up_calls (n m : Int) (w : World) (hm : m ≠ 0) : Calls Tryd.prog 57 #[.int .i64 n, .int .i64 m] w fun e w' => e = .returned (.int .i64 (wrap64 (wrap64 (Int.tdiv n m) + (if Int.tmod n m > 0 then 1 else 0)))) ∧ Below w.heap.size w w' := by
  obtain ⟨z, hz⟩ : ∃ z, z = (if Int.tmod n m > 0 then (1 : Int) else 0) := ⟨_, rfl⟩
  rw [← hz]
  have HZ := Lib.hid hz
  clear hz
  go_enter Tryd.func57, Tryd.ntmps57
  go_wp2
  have hb1 : Below w.heap.size w ((w.alloc (Obj.cells #[Value.int IntKind.i64 n] 3)).alloc (Obj.cells #[Value.int IntKind.i64 m] 3)).drew := (((Below.refl _ _).alloc (Nat.le_refl _) _).alloc (by simp) _).drew
  have hc1 : ((w.alloc (Obj.cells #[Value.int IntKind.i64 n] 3)).alloc (Obj.cells #[Value.int IntKind.i64 m] 3)).drew.cell? ⟨w.heap.size, 0, none⟩ = some (.int .i64 n) := by
    show ((w.alloc (Obj.cells #[Value.int IntKind.i64 n] 3)).alloc (Obj.cells #[Value.int IntKind.i64 m] 3)).cell? ⟨w.heap.size, 0, none⟩ = _
    rw [World.cell?_alloc_lt _ _ ⟨w.heap.size, 0, none⟩ (by simp)]; simp
  have hc2 : ((w.alloc (Obj.cells #[Value.int IntKind.i64 n] 3)).alloc (Obj.cells #[Value.int IntKind.i64 m] 3)).drew.cell? ⟨w.heap.size + 1, 0, none⟩ = some (.int .i64 m) := by
    show ((w.alloc (Obj.cells #[Value.int IntKind.i64 n] 3)).alloc (Obj.cells #[Value.int IntKind.i64 m] 3)).cell? ⟨w.heap.size + 1, 0, none⟩ = _
    rw [World.cell?_alloc_at _ _ _ _ (by simp)]; rfl
  refine start_ (n := 7) (S := fun w' => w'.cell? ⟨w.heap.size, 0, none⟩ = some (.int .i64 n) ∧ w'.cell? ⟨w.heap.size + 1, 0, none⟩ = some (.int .i64 m) ∧ Below w.heap.size w w') (ds := []) #[false, false, false, false, false, false, false] (by kernel_rfl) rfl rfl ⟨hc1, hc2, hb1⟩ (fun hHeld => ?_)
  clear hc1 hc2 hb1
  generalize ((w.alloc (Obj.cells #[Value.int IntKind.i64 n] 3)).alloc (Obj.cells #[Value.int IntKind.i64 m] 3)).drew = w3 at hHeld ⊢
  refine take_ (i := 0) (N := some 7) (v := ?_) (a' := ?_) #[true, false, false, false, false, false, false] rfl rfl (by kernel_rfl) (fun _ _ _ h => h) (Or.inl ⟨by rfl, ?_⟩) hHeld ?_ ?_
  rotate_left
  · rintro w' ⟨s0, s1, s2⟩
    go_simp
    with_reducible rfl
  rotate_left
  · simp only [Act.put, List.setIfInBounds_toArray, List.set_cons_zero, List.set_cons_succ, i64_w, i32_w]
    rfl
  refine take_ (i := 1) (N := some 8) (v := ?_) (a' := ?_) #[true, true, false, false, false, false, false] rfl rfl (by kernel_rfl) (fun _ _ _ h => h) (Or.inl ⟨by rfl, ?_⟩) hHeld ?_ ?_
  rotate_left
  · rintro w' ⟨s0, s1, s2⟩
    go_simp
    with_reducible rfl
  rotate_left
  · simp only [Act.put, List.setIfInBounds_toArray, List.set_cons_zero, List.set_cons_succ, i64_w, i32_w]
    rfl
  have c1 : (m == 0) = false := beq_eq_false_iff_ne.2 hm
  refine pure_ (i := 2) (N := some 9) (v := ?_) (a' := ?_) #[true, true, true, false, false, false, false] rfl rfl (by kernel_rfl) (fun _ _ _ h => h) (Or.inl ⟨by rfl, ?_⟩) ?_ ?_
  rotate_left
  · intro w'
    go_simp
    with_reducible rfl
  rotate_left
  · simp only [Act.put, List.setIfInBounds_toArray, List.set_cons_zero, List.set_cons_succ, i64_w, i32_w]
    rfl
  refine pure_ (i := 3) (N := some 10) (v := ?_) (a' := ?_) #[true, true, true, true, false, false, false] rfl rfl (by kernel_rfl) (fun _ _ _ h => h) (Or.inl ⟨by rfl, ?_⟩) ?_ ?_
  rotate_left
  · intro w'
    go_simp
    with_reducible rfl
  rotate_left
  · simp only [Act.put, List.setIfInBounds_toArray, List.set_cons_zero, List.set_cons_succ, i64_w, i32_w]
    rfl
  refine one_ (i := 4) (N := some 11) #[true, true, true, true, true, false, false] rfl rfl (by kernel_rfl) (by decide) (fun K hK => ?_)
  refine call_ 58 #[.pointer (some ⟨w.heap.size, 0, none⟩), .pointer (some ⟨w.heap.size + 1, 0, none⟩)] (by rfl) rfl ?_ ?_
  · have he := enters_ (P := Tryd.prog) Tryd.func58 (by kernel_rfl) rfl #[.pointer (some ⟨w.heap.size, 0, none⟩), .pointer (some ⟨w.heap.size + 1, 0, none⟩)] w3
    unfold execOp
    simp [resolve, Deferred.ofValue, invoke, Act.eval, he]
  · refine (more_calls w.heap.size (w.heap.size + 1) n m w3 hm hHeld.1 hHeld.2.1).mono ?_
    rw [← HZ.out]
    rintro e w4 ⟨rfl, hb⟩
    refine ⟨_, rfl, ?_⟩
    have hB4 : Below w.heap.size w w4 := hHeld.2.2.trans (hb.mono hHeld.2.2.size)
    have h41 : w4.cell? ⟨w.heap.size, 0, none⟩ = some (.int .i64 n) := (hb.cell (World.block_lt_of_cell? w3 _ hHeld.1)).trans hHeld.1
    have h42 : w4.cell? ⟨w.heap.size + 1, 0, none⟩ = some (.int .i64 m) := (hb.cell (World.block_lt_of_cell? w3 _ hHeld.2.1)).trans hHeld.2.1
    refine hK.out _ _ ⟨h41, h42, hB4⟩ (fun hHeld4 => ?_)
    clear hK K
    clear h41 h42 hB4 hb
    refine norm_ (a' := ?_) ?_ ?_
    rotate_left
    · show Act.put _ (some 11) _ = _
      simp only [Act.put, List.setIfInBounds_toArray, List.set_cons_zero, List.set_cons_succ, i64_w, i32_w]
      rfl
    refine pure_ (i := 5) (N := some 12) (v := ?_) (a' := ?_) #[true, true, true, true, true, true, false] rfl rfl (by kernel_rfl) (fun _ _ _ h => h) (Or.inl ⟨by rfl, ?_⟩) ?_ ?_
    rotate_left
    · intro w'
      go_simp
      with_reducible rfl
    rotate_left
    · simp only [Act.put, List.setIfInBounds_toArray, List.set_cons_zero, List.set_cons_succ, i64_w, i32_w]
      rfl
    refine pure_ (i := 6) (N := some 4) (v := ?_) (a' := ?_) #[true, true, true, true, true, true, true] rfl rfl (by kernel_rfl) (fun _ _ _ h => h) (Or.inl ⟨by rfl, ?_⟩) ?_ ?_
    rotate_left
    · intro w'
      go_simp
      with_reducible rfl
    rotate_left
    · simp only [Act.put, List.setIfInBounds_toArray, List.set_cons_zero, List.set_cons_succ, i64_w, i32_w]
      rfl
    refine done_ (by kernel_rfl) ?_
    try go_wp2
    go_ret
    exact ⟨rfl, hHeld4.2.2⟩
def upP (n m : Int) : Int := wrap64 (wrap64 (Int.tdiv n m) + (if Int.tmod n m > 0 then 1 else 0))
def blocking_up.f (n m : Int) : Option Int := if m = 0 then none else some (upP n m)
theorem blocking_up.calls (n m r : Int) (w : World) (h : blocking_up.f n m = some r) : Calls Tryd.prog 57 #[.int .i64 n, .int .i64 m] w fun e w' => e = .returned (.int .i64 r) ∧ Below w.heap.size w w' := by
  unfold blocking_up.f at h
  by_cases hm : m = 0
  · rw [if_pos hm] at h; cases h
  · rw [if_neg hm] at h
    obtain rfl := Option.some.inj h
    exact up_calls n m w hm
end Go.Proofs.YtfcofokbhhnfkaaDoor.Wire
