/- (*both).calls of geyserlaw22 by its contract. Conditions: a net, an act as it may come in. -/
import Derived.Test.YtpfpdbbgiimnmaaActs
import Derived.Test.YtpfpdbbgiimnmaaCapaL
namespace Go.Proofs.Ytpfpdbbgiimnmaa.Net
set_option linter.unusedSimpArgs false
set_option linter.unusedVariables false
open Go.RowKit Go.Deep Go.Proofs.Ytpfpdbbgiimnmaa.Er Go.Proofs.Ytpfpdbbgiimnmaa.Mod Go.Proofs.YtpfpdbbgiimnmaaW.PrintWords Go.Proofs.YtpfpdbbgiimnmaaW.PrintLast
theorem act_0 (s : Nt) (a : AV) (h : a.kind = 0) : Nt.act s a = s.join a.host := by unfold Nt.act; rw [h]; rfl
theorem act_1 (s : Nt) (a : AV) (h : a.kind = 1) : Nt.act s a = s.leave a.host := by unfold Nt.act; rw [h]; rfl
theorem act_2 (s : Nt) (a : AV) (h : a.kind = 2) : Nt.act s a = s.want a.host a.n := by unfold Nt.act; rw [h]; rfl
theorem act_3 (s : Nt) (a : AV) (h : a.kind = 3) : Nt.act s a = s.setGraft a.host a.n := by unfold Nt.act; rw [h]; rfl
theorem act_4 (s : Nt) (a : AV) (h : a.kind = 4) : Nt.act s a = s.setCap a.host a.n := by unfold Nt.act; rw [h]; rfl
theorem act_5 (s : Nt) (a : AV) (h : a.kind = 5) : Nt.act s a = s.send (a.l.take 20) := by unfold Nt.act; rw [h]; rfl
theorem act_6 (s : Nt) (a : AV) (h : a.kind = 6) : Nt.act s a = s.tick := by unfold Nt.act; rw [h]; rfl
theorem act_7 (s : Nt) (a : AV) (h : a.kind = 7) : Nt.act s a = s.take a.host := by unfold Nt.act; rw [h]; rfl
theorem act_8 (s : Nt) (a : AV) (h : a.kind = 8) : Nt.act s a = s.drop a.host a.n := by unfold Nt.act; rw [h]; rfl
theorem act_9 (s : Nt) (a : AV) (h : a.kind = 9) : Nt.act s a = s.double a.host a.n := by unfold Nt.act; rw [h]; rfl
theorem act_10 (s : Nt) (a : AV) (h : a.kind = 10) : Nt.act s a = s.delay a.host a.n a.m := by unfold Nt.act; rw [h]; rfl
theorem act_11 (s : Nt) (a : AV) (h : a.kind = 11) : Nt.act s a = s.spoil a.host a.n a.m a.mask := by unfold Nt.act; rw [h]; rfl
theorem act_12 (s : Nt) (a : AV) (h : a.kind = 12) : Nt.act s a = s.inject a.host a.b := by unfold Nt.act; rw [h]; rfl
def actV (a : AV) (bv lv : Value) : Value := .agg #[.int .i64 a.kind, .int .i64 a.host, .int .i64 a.n, .int .i64 a.m, .int .u32 a.mask, bv, lv]
theorem NetP.from_ {bb : Nat → Prop} {w w1 : World} {nb hb : Nat} {qv : Nat → Value} {s s' : Nt} {w' : World} (h : NetP bb w1 nb hb s.n qv s' w') (hb' : Below w.heap.size w w1) : NetP bb w nb hb s.n qv s' w' := by
  obtain ⟨bb', qv', h1, h2⟩ := h
  exact ⟨bb', qv', h1, (((Stp.refl bb w nb hb s.n qv).below hb').trans h2)⟩
theorem take_all {bb : Nat → Prop} {w : World} {nb hb : Nat} {qv : Nat → Value} {s : Nt} (h : IsNet bb w nb hb qv s) (i : Int) (hq : ∀ k, k < s.n → (s.h k).q.length ≤ 5000000000000) : Calls Try.prog 9 #[.pointer (some ⟨nb, 0, none⟩), .int .i64 i] w fun e w' => ∃ v, e = .returned v ∧ NetP bb w nb hb s.n qv (s.take i) w' := by
  have hc : Calls Try.prog 9 #[.pointer (some ⟨nb, 0, none⟩), .int .i64 i] w fun e w' => ∃ v, e = .returned v ∧ TakeP bb w nb hb s.n qv (s.take i) (s.taken i) v w' := by
    by_cases ha : s.at i = 0
    · obtain ⟨k, rfl, hk⟩ := at_of ha
      exact take_ok h k hk (hq k hk)
    · exact take_bad h i ha
  exact hc.mono fun e w' ⟨v, h1, bb', qv', g1, g2, _⟩ => ⟨v, h1, bb', qv', g1, g2⟩
set_option maxHeartbeats 4000000 in
set_option maxRecDepth 100000 in
theorem calls_0 {bb : Nat → Prop} {w : World} {nb hb : Nat} {qv : Nat → Value} {s : Nt} {bo L : Nat} {D : Nat → Prop} (h : IsNet bb w nb hb qv s) (hbo : w.cell? ⟨bo, 0, none⟩ = some (.pointer (some ⟨nb, 0, none⟩))) (a : AV) (ha : a.Ok) (bv lv : Value) (hbv : RdB D w bv a.b) (hlv : DgIs D w lv a.l) (hD : ∀ k, D k → k < w.heap.size ∧ ¬ NB nb hb s.n qv k) (hW : Wg s (L + 1)) (hk : a.kind = 0) :
    Calls Try.prog 18 #[.pointer (some ⟨bo, 0, none⟩), actV a bv lv] w fun e w' => e = .returned (.tuple #[]) ∧ NetP bb w nb hb s.n qv (Nt.act s a) w' := by
  have HW := Lib.hid hW
  have HD := Lib.hid hD
  have HA := Lib.hid ha
  have HK0 := Lib.hid hk
  obtain ⟨A2, c2, rfl, hbc, hbl, _, _⟩ := id hbv
  obtain ⟨A1, c1, rfl, hlc, hll, _⟩ := id hlv
  obtain ⟨bn, hbn⟩ : ∃ bn, bn = a.b.length := ⟨_, rfl⟩
  obtain ⟨ln, hln⟩ : ∃ ln, ln = a.l.length := ⟨_, rfl⟩
  have HLN := Lib.hid hln
  rw [← hbn] at hbc hbl hbv ⊢
  rw [← hln] at hlc hll hlv ⊢
  have HW1 : Hid (∀ w1 g1, w1 = w.alloc (.cells #[.int .i64 a.kind, .int .i64 a.host, .int .i64 a.n, .int .i64 a.m, .int .u32 a.mask, .slice A2 bn c2, .slice A1 ln c1] 52) → g1 = w.heap.size → IsNet bb w1 nb hb qv s ∧ w1.cell? ⟨g1, 0, none⟩ = some (.int .i64 a.kind) ∧ w1.cell? ⟨g1, 1, none⟩ = some (.int .i64 a.host) ∧ w1.cell? ⟨g1, 2, none⟩ = some (.int .i64 a.n) ∧ w1.cell? ⟨g1, 3, none⟩ = some (.int .i64 a.m) ∧ w1.cell? ⟨g1, 4, none⟩ = some (.int .u32 a.mask) ∧ w1.cell? ⟨g1, 5, none⟩ = some (.slice A2 bn c2) ∧ w1.cell? ⟨g1, 6, none⟩ = some (.slice A1 ln c1) ∧ w1.cell? ⟨bo, 0, none⟩ = some (.pointer (some ⟨nb, 0, none⟩)) ∧ Below w.heap.size w w1 ∧ RdB D w1 (.slice A2 bn c2) a.b ∧ DgIs D w1 (.slice A1 ln c1) a.l) := Lib.hid (by
    rintro w1 g1 rfl rfl
    have hB : Below w.heap.size w (w.alloc (.cells #[.int .i64 a.kind, .int .i64 a.host, .int .i64 a.n, .int .i64 a.m, .int .u32 a.mask, .slice A2 bn c2, .slice A1 ln c1] 52)) := (Below.refl _ _).alloc (Nat.le_refl _) _
    refine ⟨h.below hB, ?_, ?_, ?_, ?_, ?_, ?_, ?_, (hB.cell (World.block_lt_of_cell? w _ hbo)).trans hbo, hB, hbv.keep (fun k hk => hB.block k (hD k hk).1), hlv.keep (fun k hk => hB.block k (hD k hk).1)⟩ <;> (rw [World.cell?_alloc_at _ _ _ _ rfl]; rfl))
  have q0 := hbo
  unfold actV
  clear h hbv hlv hD hW ha hbo hbn hln
  rw [hk] at HW1 ⊢
  clear hk
  go_enter Try.func18, Try.ntmps18
  go_upto_region 1 with (fail)
  generalize hw1 : w.alloc (.cells #[.int .i64 0, .int .i64 a.host, .int .i64 a.n, .int .i64 a.m, .int .u32 a.mask, .slice A2 bn c2, .slice A1 ln c1] 52) = w1
  generalize hg1 : w.heap.size = g1
  obtain ⟨hI, c0, c1', c2', c3', c4', c5', c6', p0, hal, hbs, hls⟩ := HW1.out w1 g1 hw1.symm hg1.symm
  have HI0 := Lib.hid hI
  have HI := Lib.hid hI.drew
  have HAL0 := Lib.hid hal
  have HAL := Lib.hid hal.drew
  have HB := Lib.hid (show RdB D w1.drew _ _ from hbs)
  have HL : Hid (DgIs D w1.drew (.slice A1 ln c1) a.l) := Lib.hid (show DgIs D w1.drew _ _ from hls)
  clear hI hal hbs hls HW1 hw1 hg1 q0
  go_upto_region 3 with (fail)
  refine start_ (n := 7) (S := fun w' => w' = w1.drew) (ds := [6]) #[false, false, false, false, false, false, false] (by kernel_rfl) rfl rfl rfl (fun hHeld => ?_)
  refine pure_ (i := 0) (N := some 8) (v := ?_) (a' := ?_) #[true, false, false, false, false, false, false] rfl rfl (by kernel_rfl) (fun _ _ _ h => h) (Or.inl ⟨by rfl, ?_⟩) ?_ ?_
  rotate_left
  · intro w'
    go_simp
    with_reducible rfl
  rotate_left
  · simp only [Act.put, List.setIfInBounds_toArray, List.set_cons_zero, List.set_cons_succ, i64_w, i32_w]
    rfl
  refine pure_ (i := 1) (N := some 9) (v := ?_) (a' := ?_) #[true, true, false, false, false, false, false] rfl rfl (by kernel_rfl) (fun _ _ _ h => h) (Or.inl ⟨by rfl, ?_⟩) ?_ ?_
  rotate_left
  · intro w'
    go_simp
    with_reducible rfl
  rotate_left
  · simp only [Act.put, List.setIfInBounds_toArray, List.set_cons_zero, List.set_cons_succ, i64_w, i32_w]
    rfl
  refine pure_ (i := 2) (N := some 10) (v := ?_) (a' := ?_) #[true, true, true, false, false, false, false] rfl rfl (by kernel_rfl) (fun _ _ _ h => h) (Or.inl ⟨by rfl, ?_⟩) ?_ ?_
  rotate_left
  · intro w'
    go_simp
    with_reducible rfl
  rotate_left
  · simp only [Act.put, List.setIfInBounds_toArray, List.set_cons_zero, List.set_cons_succ, i64_w, i32_w]
    rfl
  refine take_ (i := 3) (N := some 11) (v := ?_) (a' := ?_) #[true, true, true, true, false, false, false] rfl rfl (by kernel_rfl) (fun _ _ _ h => h) (Or.inl ⟨by rfl, ?_⟩) hHeld ?_ ?_
  rotate_left
  · rintro w' rfl
    go_simp
    with_reducible rfl
  rotate_left
  · simp only [Act.put, List.setIfInBounds_toArray, List.set_cons_zero, List.set_cons_succ, i64_w, i32_w]
    rfl
  refine pure_ (i := 4) (N := some 12) (v := ?_) (a' := ?_) #[true, true, true, true, true, false, false] rfl rfl (by kernel_rfl) (fun _ _ _ h => h) (Or.inl ⟨by rfl, ?_⟩) ?_ ?_
  rotate_left
  · intro w'
    go_simp
    with_reducible rfl
  rotate_left
  · simp only [Act.put, List.setIfInBounds_toArray, List.set_cons_zero, List.set_cons_succ, i64_w, i32_w]
    rfl
  refine take_ (i := 5) (N := some 13) (v := ?_) (a' := ?_) #[true, true, true, true, true, true, false] rfl rfl (by kernel_rfl) (fun _ _ _ h => h) (Or.inl ⟨by rfl, ?_⟩) hHeld ?_ ?_
  rotate_left
  · rintro w' rfl
    go_simp
    with_reducible rfl
  rotate_left
  · simp only [Act.put, List.setIfInBounds_toArray, List.set_cons_zero, List.set_cons_succ, i64_w, i32_w]
    rfl
  refine last_ (i := 6) (N := some 14) #[true, true, true, true, true, true, true] rfl rfl (by kernel_rfl) (by decide) (fun K hK => ?_)
  refine goes_ Try.func23 (by kernel_rfl) rfl #[.pointer (some ⟨nb, 0, none⟩), .int .i64 a.host] (by rfl) rfl rfl (by simp [Act.eval]) ?_
  refine (join_calls HI.out a.host).mono ?_
  rintro e w3 ⟨ev, rfl, hev, hN⟩
  have HNP := Lib.hid hN
  clear hN hev
  refine ⟨_, rfl, ?_⟩
  refine hK.out _ _ ?_
  clear hK K hHeld
  refine norm_ (a' := ?_) ?_ ?_
  rotate_left
  · show Act.put _ (some 14) _ = _
    simp only [Act.put, List.setIfInBounds_toArray, List.set_cons_zero, List.set_cons_succ, i64_w, i32_w]
    rfl
  refine done_ (by kernel_rfl) ?_
  go_wp2
  (try simp only [Exit.inBlock, Exit.then])
  refine bodyPost_end (results_none rfl _ _ _) rfl ?_
  exact ⟨rfl, by rw [act_0 s a HK0.out]; exact HNP.out.from_ HAL.out⟩
set_option maxHeartbeats 4000000 in
set_option maxRecDepth 100000 in
theorem calls_1 {bb : Nat → Prop} {w : World} {nb hb : Nat} {qv : Nat → Value} {s : Nt} {bo L : Nat} {D : Nat → Prop} (h : IsNet bb w nb hb qv s) (hbo : w.cell? ⟨bo, 0, none⟩ = some (.pointer (some ⟨nb, 0, none⟩))) (a : AV) (ha : a.Ok) (bv lv : Value) (hbv : RdB D w bv a.b) (hlv : DgIs D w lv a.l) (hD : ∀ k, D k → k < w.heap.size ∧ ¬ NB nb hb s.n qv k) (hW : Wg s (L + 1)) (hk : a.kind = 1) :
    Calls Try.prog 18 #[.pointer (some ⟨bo, 0, none⟩), actV a bv lv] w fun e w' => e = .returned (.tuple #[]) ∧ NetP bb w nb hb s.n qv (Nt.act s a) w' := by
  have HW := Lib.hid hW
  have HD := Lib.hid hD
  have HA := Lib.hid ha
  have HK0 := Lib.hid hk
  obtain ⟨A2, c2, rfl, hbc, hbl, _, _⟩ := id hbv
  obtain ⟨A1, c1, rfl, hlc, hll, _⟩ := id hlv
  obtain ⟨bn, hbn⟩ : ∃ bn, bn = a.b.length := ⟨_, rfl⟩
  obtain ⟨ln, hln⟩ : ∃ ln, ln = a.l.length := ⟨_, rfl⟩
  have HLN := Lib.hid hln
  rw [← hbn] at hbc hbl hbv ⊢
  rw [← hln] at hlc hll hlv ⊢
  have HW1 : Hid (∀ w1 g1, w1 = w.alloc (.cells #[.int .i64 a.kind, .int .i64 a.host, .int .i64 a.n, .int .i64 a.m, .int .u32 a.mask, .slice A2 bn c2, .slice A1 ln c1] 52) → g1 = w.heap.size → IsNet bb w1 nb hb qv s ∧ w1.cell? ⟨g1, 0, none⟩ = some (.int .i64 a.kind) ∧ w1.cell? ⟨g1, 1, none⟩ = some (.int .i64 a.host) ∧ w1.cell? ⟨g1, 2, none⟩ = some (.int .i64 a.n) ∧ w1.cell? ⟨g1, 3, none⟩ = some (.int .i64 a.m) ∧ w1.cell? ⟨g1, 4, none⟩ = some (.int .u32 a.mask) ∧ w1.cell? ⟨g1, 5, none⟩ = some (.slice A2 bn c2) ∧ w1.cell? ⟨g1, 6, none⟩ = some (.slice A1 ln c1) ∧ w1.cell? ⟨bo, 0, none⟩ = some (.pointer (some ⟨nb, 0, none⟩)) ∧ Below w.heap.size w w1 ∧ RdB D w1 (.slice A2 bn c2) a.b ∧ DgIs D w1 (.slice A1 ln c1) a.l) := Lib.hid (by
    rintro w1 g1 rfl rfl
    have hB : Below w.heap.size w (w.alloc (.cells #[.int .i64 a.kind, .int .i64 a.host, .int .i64 a.n, .int .i64 a.m, .int .u32 a.mask, .slice A2 bn c2, .slice A1 ln c1] 52)) := (Below.refl _ _).alloc (Nat.le_refl _) _
    refine ⟨h.below hB, ?_, ?_, ?_, ?_, ?_, ?_, ?_, (hB.cell (World.block_lt_of_cell? w _ hbo)).trans hbo, hB, hbv.keep (fun k hk => hB.block k (hD k hk).1), hlv.keep (fun k hk => hB.block k (hD k hk).1)⟩ <;> (rw [World.cell?_alloc_at _ _ _ _ rfl]; rfl))
  have q0 := hbo
  unfold actV
  clear h hbv hlv hD hW ha hbo hbn hln
  rw [hk] at HW1 ⊢
  clear hk
  go_enter Try.func18, Try.ntmps18
  go_upto_region 1 with (fail)
  generalize hw1 : w.alloc (.cells #[.int .i64 1, .int .i64 a.host, .int .i64 a.n, .int .i64 a.m, .int .u32 a.mask, .slice A2 bn c2, .slice A1 ln c1] 52) = w1
  generalize hg1 : w.heap.size = g1
  obtain ⟨hI, c0, c1', c2', c3', c4', c5', c6', p0, hal, hbs, hls⟩ := HW1.out w1 g1 hw1.symm hg1.symm
  have HI0 := Lib.hid hI
  have HI := Lib.hid hI.drew
  have HAL0 := Lib.hid hal
  have HAL := Lib.hid hal.drew
  have HB := Lib.hid (show RdB D w1.drew _ _ from hbs)
  have HL : Hid (DgIs D w1.drew (.slice A1 ln c1) a.l) := Lib.hid (show DgIs D w1.drew _ _ from hls)
  clear hI hal hbs hls HW1 hw1 hg1 q0
  go_upto_region 5 with (fail)
  refine start_ (n := 7) (S := fun w' => w' = w1.drew) (ds := [6]) #[false, false, false, false, false, false, false] (by kernel_rfl) rfl rfl rfl (fun hHeld => ?_)
  refine pure_ (i := 0) (N := some 17) (v := ?_) (a' := ?_) #[true, false, false, false, false, false, false] rfl rfl (by kernel_rfl) (fun _ _ _ h => h) (Or.inl ⟨by rfl, ?_⟩) ?_ ?_
  rotate_left
  · intro w'
    go_simp
    with_reducible rfl
  rotate_left
  · simp only [Act.put, List.setIfInBounds_toArray, List.set_cons_zero, List.set_cons_succ, i64_w, i32_w]
    rfl
  refine pure_ (i := 1) (N := some 18) (v := ?_) (a' := ?_) #[true, true, false, false, false, false, false] rfl rfl (by kernel_rfl) (fun _ _ _ h => h) (Or.inl ⟨by rfl, ?_⟩) ?_ ?_
  rotate_left
  · intro w'
    go_simp
    with_reducible rfl
  rotate_left
  · simp only [Act.put, List.setIfInBounds_toArray, List.set_cons_zero, List.set_cons_succ, i64_w, i32_w]
    rfl
  refine pure_ (i := 2) (N := some 19) (v := ?_) (a' := ?_) #[true, true, true, false, false, false, false] rfl rfl (by kernel_rfl) (fun _ _ _ h => h) (Or.inl ⟨by rfl, ?_⟩) ?_ ?_
  rotate_left
  · intro w'
    go_simp
    with_reducible rfl
  rotate_left
  · simp only [Act.put, List.setIfInBounds_toArray, List.set_cons_zero, List.set_cons_succ, i64_w, i32_w]
    rfl
  refine take_ (i := 3) (N := some 20) (v := ?_) (a' := ?_) #[true, true, true, true, false, false, false] rfl rfl (by kernel_rfl) (fun _ _ _ h => h) (Or.inl ⟨by rfl, ?_⟩) hHeld ?_ ?_
  rotate_left
  · rintro w' rfl
    go_simp
    with_reducible rfl
  rotate_left
  · simp only [Act.put, List.setIfInBounds_toArray, List.set_cons_zero, List.set_cons_succ, i64_w, i32_w]
    rfl
  refine pure_ (i := 4) (N := some 21) (v := ?_) (a' := ?_) #[true, true, true, true, true, false, false] rfl rfl (by kernel_rfl) (fun _ _ _ h => h) (Or.inl ⟨by rfl, ?_⟩) ?_ ?_
  rotate_left
  · intro w'
    go_simp
    with_reducible rfl
  rotate_left
  · simp only [Act.put, List.setIfInBounds_toArray, List.set_cons_zero, List.set_cons_succ, i64_w, i32_w]
    rfl
  refine take_ (i := 5) (N := some 22) (v := ?_) (a' := ?_) #[true, true, true, true, true, true, false] rfl rfl (by kernel_rfl) (fun _ _ _ h => h) (Or.inl ⟨by rfl, ?_⟩) hHeld ?_ ?_
  rotate_left
  · rintro w' rfl
    go_simp
    with_reducible rfl
  rotate_left
  · simp only [Act.put, List.setIfInBounds_toArray, List.set_cons_zero, List.set_cons_succ, i64_w, i32_w]
    rfl
  refine last_ (i := 6) (N := some 23) #[true, true, true, true, true, true, true] rfl rfl (by kernel_rfl) (by decide) (fun K hK => ?_)
  refine goes_ Try.func27 (by kernel_rfl) rfl #[.pointer (some ⟨nb, 0, none⟩), .int .i64 a.host] (by rfl) rfl rfl (by simp [Act.eval]) ?_
  refine (leave_calls HI.out a.host).mono ?_
  rintro e w3 ⟨ev, rfl, hev, hN⟩
  have HNP := Lib.hid hN
  clear hN hev
  refine ⟨_, rfl, ?_⟩
  refine hK.out _ _ ?_
  clear hK K hHeld
  refine norm_ (a' := ?_) ?_ ?_
  rotate_left
  · show Act.put _ (some 23) _ = _
    simp only [Act.put, List.setIfInBounds_toArray, List.set_cons_zero, List.set_cons_succ, i64_w, i32_w]
    rfl
  refine done_ (by kernel_rfl) ?_
  go_wp2
  (try simp only [Exit.inBlock, Exit.then])
  refine bodyPost_end (results_none rfl _ _ _) rfl ?_
  exact ⟨rfl, by rw [act_1 s a HK0.out]; exact HNP.out.from_ HAL.out⟩
set_option maxHeartbeats 4000000 in
set_option maxRecDepth 100000 in
theorem calls_2 {bb : Nat → Prop} {w : World} {nb hb : Nat} {qv : Nat → Value} {s : Nt} {bo L : Nat} {D : Nat → Prop} (h : IsNet bb w nb hb qv s) (hbo : w.cell? ⟨bo, 0, none⟩ = some (.pointer (some ⟨nb, 0, none⟩))) (a : AV) (ha : a.Ok) (bv lv : Value) (hbv : RdB D w bv a.b) (hlv : DgIs D w lv a.l) (hD : ∀ k, D k → k < w.heap.size ∧ ¬ NB nb hb s.n qv k) (hW : Wg s (L + 1)) (hk : a.kind = 2) :
    Calls Try.prog 18 #[.pointer (some ⟨bo, 0, none⟩), actV a bv lv] w fun e w' => e = .returned (.tuple #[]) ∧ NetP bb w nb hb s.n qv (Nt.act s a) w' := by
  have HW := Lib.hid hW
  have HD := Lib.hid hD
  have HA := Lib.hid ha
  have HK0 := Lib.hid hk
  obtain ⟨A2, c2, rfl, hbc, hbl, _, _⟩ := id hbv
  obtain ⟨A1, c1, rfl, hlc, hll, _⟩ := id hlv
  obtain ⟨bn, hbn⟩ : ∃ bn, bn = a.b.length := ⟨_, rfl⟩
  obtain ⟨ln, hln⟩ : ∃ ln, ln = a.l.length := ⟨_, rfl⟩
  have HLN := Lib.hid hln
  rw [← hbn] at hbc hbl hbv ⊢
  rw [← hln] at hlc hll hlv ⊢
  have HW1 : Hid (∀ w1 g1, w1 = w.alloc (.cells #[.int .i64 a.kind, .int .i64 a.host, .int .i64 a.n, .int .i64 a.m, .int .u32 a.mask, .slice A2 bn c2, .slice A1 ln c1] 52) → g1 = w.heap.size → IsNet bb w1 nb hb qv s ∧ w1.cell? ⟨g1, 0, none⟩ = some (.int .i64 a.kind) ∧ w1.cell? ⟨g1, 1, none⟩ = some (.int .i64 a.host) ∧ w1.cell? ⟨g1, 2, none⟩ = some (.int .i64 a.n) ∧ w1.cell? ⟨g1, 3, none⟩ = some (.int .i64 a.m) ∧ w1.cell? ⟨g1, 4, none⟩ = some (.int .u32 a.mask) ∧ w1.cell? ⟨g1, 5, none⟩ = some (.slice A2 bn c2) ∧ w1.cell? ⟨g1, 6, none⟩ = some (.slice A1 ln c1) ∧ w1.cell? ⟨bo, 0, none⟩ = some (.pointer (some ⟨nb, 0, none⟩)) ∧ Below w.heap.size w w1 ∧ RdB D w1 (.slice A2 bn c2) a.b ∧ DgIs D w1 (.slice A1 ln c1) a.l) := Lib.hid (by
    rintro w1 g1 rfl rfl
    have hB : Below w.heap.size w (w.alloc (.cells #[.int .i64 a.kind, .int .i64 a.host, .int .i64 a.n, .int .i64 a.m, .int .u32 a.mask, .slice A2 bn c2, .slice A1 ln c1] 52)) := (Below.refl _ _).alloc (Nat.le_refl _) _
    refine ⟨h.below hB, ?_, ?_, ?_, ?_, ?_, ?_, ?_, (hB.cell (World.block_lt_of_cell? w _ hbo)).trans hbo, hB, hbv.keep (fun k hk => hB.block k (hD k hk).1), hlv.keep (fun k hk => hB.block k (hD k hk).1)⟩ <;> (rw [World.cell?_alloc_at _ _ _ _ rfl]; rfl))
  have q0 := hbo
  unfold actV
  clear h hbv hlv hD hW ha hbo hbn hln
  rw [hk] at HW1 ⊢
  clear hk
  go_enter Try.func18, Try.ntmps18
  go_upto_region 1 with (fail)
  generalize hw1 : w.alloc (.cells #[.int .i64 2, .int .i64 a.host, .int .i64 a.n, .int .i64 a.m, .int .u32 a.mask, .slice A2 bn c2, .slice A1 ln c1] 52) = w1
  generalize hg1 : w.heap.size = g1
  obtain ⟨hI, c0, c1', c2', c3', c4', c5', c6', p0, hal, hbs, hls⟩ := HW1.out w1 g1 hw1.symm hg1.symm
  have HI0 := Lib.hid hI
  have HI := Lib.hid hI.drew
  have HAL0 := Lib.hid hal
  have HAL := Lib.hid hal.drew
  have HB := Lib.hid (show RdB D w1.drew _ _ from hbs)
  have HL : Hid (DgIs D w1.drew (.slice A1 ln c1) a.l) := Lib.hid (show DgIs D w1.drew _ _ from hls)
  clear hI hal hbs hls HW1 hw1 hg1 q0
  go_upto_region 7 with (fail)
  refine start_ (n := 9) (S := fun w' => w' = w1.drew) (ds := [8]) #[false, false, false, false, false, false, false, false, false] (by kernel_rfl) rfl rfl rfl (fun hHeld => ?_)
  refine pure_ (i := 0) (N := some 26) (v := ?_) (a' := ?_) #[true, false, false, false, false, false, false, false, false] rfl rfl (by kernel_rfl) (fun _ _ _ h => h) (Or.inl ⟨by rfl, ?_⟩) ?_ ?_
  rotate_left
  · intro w'
    go_simp
    with_reducible rfl
  rotate_left
  · simp only [Act.put, List.setIfInBounds_toArray, List.set_cons_zero, List.set_cons_succ, i64_w, i32_w]
    rfl
  refine pure_ (i := 1) (N := some 27) (v := ?_) (a' := ?_) #[true, true, false, false, false, false, false, false, false] rfl rfl (by kernel_rfl) (fun _ _ _ h => h) (Or.inl ⟨by rfl, ?_⟩) ?_ ?_
  rotate_left
  · intro w'
    go_simp
    with_reducible rfl
  rotate_left
  · simp only [Act.put, List.setIfInBounds_toArray, List.set_cons_zero, List.set_cons_succ, i64_w, i32_w]
    rfl
  refine pure_ (i := 2) (N := some 28) (v := ?_) (a' := ?_) #[true, true, true, false, false, false, false, false, false] rfl rfl (by kernel_rfl) (fun _ _ _ h => h) (Or.inl ⟨by rfl, ?_⟩) ?_ ?_
  rotate_left
  · intro w'
    go_simp
    with_reducible rfl
  rotate_left
  · simp only [Act.put, List.setIfInBounds_toArray, List.set_cons_zero, List.set_cons_succ, i64_w, i32_w]
    rfl
  refine take_ (i := 3) (N := some 29) (v := ?_) (a' := ?_) #[true, true, true, true, false, false, false, false, false] rfl rfl (by kernel_rfl) (fun _ _ _ h => h) (Or.inl ⟨by rfl, ?_⟩) hHeld ?_ ?_
  rotate_left
  · rintro w' rfl
    go_simp
    with_reducible rfl
  rotate_left
  · simp only [Act.put, List.setIfInBounds_toArray, List.set_cons_zero, List.set_cons_succ, i64_w, i32_w]
    rfl
  refine pure_ (i := 4) (N := some 30) (v := ?_) (a' := ?_) #[true, true, true, true, true, false, false, false, false] rfl rfl (by kernel_rfl) (fun _ _ _ h => h) (Or.inl ⟨by rfl, ?_⟩) ?_ ?_
  rotate_left
  · intro w'
    go_simp
    with_reducible rfl
  rotate_left
  · simp only [Act.put, List.setIfInBounds_toArray, List.set_cons_zero, List.set_cons_succ, i64_w, i32_w]
    rfl
  refine take_ (i := 5) (N := some 31) (v := ?_) (a' := ?_) #[true, true, true, true, true, true, false, false, false] rfl rfl (by kernel_rfl) (fun _ _ _ h => h) (Or.inl ⟨by rfl, ?_⟩) hHeld ?_ ?_
  rotate_left
  · rintro w' rfl
    go_simp
    with_reducible rfl
  rotate_left
  · simp only [Act.put, List.setIfInBounds_toArray, List.set_cons_zero, List.set_cons_succ, i64_w, i32_w]
    rfl
  refine pure_ (i := 6) (N := some 32) (v := ?_) (a' := ?_) #[true, true, true, true, true, true, true, false, false] rfl rfl (by kernel_rfl) (fun _ _ _ h => h) (Or.inl ⟨by rfl, ?_⟩) ?_ ?_
  rotate_left
  · intro w'
    go_simp
    with_reducible rfl
  rotate_left
  · simp only [Act.put, List.setIfInBounds_toArray, List.set_cons_zero, List.set_cons_succ, i64_w, i32_w]
    rfl
  refine take_ (i := 7) (N := some 33) (v := ?_) (a' := ?_) #[true, true, true, true, true, true, true, true, false] rfl rfl (by kernel_rfl) (fun _ _ _ h => h) (Or.inl ⟨by rfl, ?_⟩) hHeld ?_ ?_
  rotate_left
  · rintro w' rfl
    go_simp
    with_reducible rfl
  rotate_left
  · simp only [Act.put, List.setIfInBounds_toArray, List.set_cons_zero, List.set_cons_succ, i64_w, i32_w]
    rfl
  refine last_ (i := 8) (N := some 34) #[true, true, true, true, true, true, true, true, true] rfl rfl (by kernel_rfl) (by decide) (fun K hK => ?_)
  refine goes_ Try.func15 (by kernel_rfl) rfl #[.pointer (some ⟨nb, 0, none⟩), .int .i64 a.host, .int .i64 a.n] (by rfl) rfl rfl (by simp [Act.eval]) ?_
  refine (want_calls HI.out a.host a.n HW.out.wf.level HW.out.wf.graft ⟨HW.out.wf.now.1, by have := HW.out.wf.now.2; omega⟩).mono ?_
  rintro e w3 ⟨ev, rfl, hev, hN⟩
  have HNP := Lib.hid hN
  clear hN hev
  refine ⟨_, rfl, ?_⟩
  refine hK.out _ _ ?_
  clear hK K hHeld
  refine norm_ (a' := ?_) ?_ ?_
  rotate_left
  · show Act.put _ (some 34) _ = _
    simp only [Act.put, List.setIfInBounds_toArray, List.set_cons_zero, List.set_cons_succ, i64_w, i32_w]
    rfl
  refine done_ (by kernel_rfl) ?_
  go_wp2
  (try simp only [Exit.inBlock, Exit.then])
  refine bodyPost_end (results_none rfl _ _ _) rfl ?_
  exact ⟨rfl, by rw [act_2 s a HK0.out]; exact HNP.out.from_ HAL.out⟩
set_option maxHeartbeats 4000000 in
set_option maxRecDepth 100000 in
theorem calls_3 {bb : Nat → Prop} {w : World} {nb hb : Nat} {qv : Nat → Value} {s : Nt} {bo L : Nat} {D : Nat → Prop} (h : IsNet bb w nb hb qv s) (hbo : w.cell? ⟨bo, 0, none⟩ = some (.pointer (some ⟨nb, 0, none⟩))) (a : AV) (ha : a.Ok) (bv lv : Value) (hbv : RdB D w bv a.b) (hlv : DgIs D w lv a.l) (hD : ∀ k, D k → k < w.heap.size ∧ ¬ NB nb hb s.n qv k) (hW : Wg s (L + 1)) (hk : a.kind = 3) :
    Calls Try.prog 18 #[.pointer (some ⟨bo, 0, none⟩), actV a bv lv] w fun e w' => e = .returned (.tuple #[]) ∧ NetP bb w nb hb s.n qv (Nt.act s a) w' := by
  have HW := Lib.hid hW
  have HD := Lib.hid hD
  have HA := Lib.hid ha
  have HK0 := Lib.hid hk
  obtain ⟨A2, c2, rfl, hbc, hbl, _, _⟩ := id hbv
  obtain ⟨A1, c1, rfl, hlc, hll, _⟩ := id hlv
  obtain ⟨bn, hbn⟩ : ∃ bn, bn = a.b.length := ⟨_, rfl⟩
  obtain ⟨ln, hln⟩ : ∃ ln, ln = a.l.length := ⟨_, rfl⟩
  have HLN := Lib.hid hln
  rw [← hbn] at hbc hbl hbv ⊢
  rw [← hln] at hlc hll hlv ⊢
  have HW1 : Hid (∀ w1 g1, w1 = w.alloc (.cells #[.int .i64 a.kind, .int .i64 a.host, .int .i64 a.n, .int .i64 a.m, .int .u32 a.mask, .slice A2 bn c2, .slice A1 ln c1] 52) → g1 = w.heap.size → IsNet bb w1 nb hb qv s ∧ w1.cell? ⟨g1, 0, none⟩ = some (.int .i64 a.kind) ∧ w1.cell? ⟨g1, 1, none⟩ = some (.int .i64 a.host) ∧ w1.cell? ⟨g1, 2, none⟩ = some (.int .i64 a.n) ∧ w1.cell? ⟨g1, 3, none⟩ = some (.int .i64 a.m) ∧ w1.cell? ⟨g1, 4, none⟩ = some (.int .u32 a.mask) ∧ w1.cell? ⟨g1, 5, none⟩ = some (.slice A2 bn c2) ∧ w1.cell? ⟨g1, 6, none⟩ = some (.slice A1 ln c1) ∧ w1.cell? ⟨bo, 0, none⟩ = some (.pointer (some ⟨nb, 0, none⟩)) ∧ Below w.heap.size w w1 ∧ RdB D w1 (.slice A2 bn c2) a.b ∧ DgIs D w1 (.slice A1 ln c1) a.l) := Lib.hid (by
    rintro w1 g1 rfl rfl
    have hB : Below w.heap.size w (w.alloc (.cells #[.int .i64 a.kind, .int .i64 a.host, .int .i64 a.n, .int .i64 a.m, .int .u32 a.mask, .slice A2 bn c2, .slice A1 ln c1] 52)) := (Below.refl _ _).alloc (Nat.le_refl _) _
    refine ⟨h.below hB, ?_, ?_, ?_, ?_, ?_, ?_, ?_, (hB.cell (World.block_lt_of_cell? w _ hbo)).trans hbo, hB, hbv.keep (fun k hk => hB.block k (hD k hk).1), hlv.keep (fun k hk => hB.block k (hD k hk).1)⟩ <;> (rw [World.cell?_alloc_at _ _ _ _ rfl]; rfl))
  have q0 := hbo
  unfold actV
  clear h hbv hlv hD hW ha hbo hbn hln
  rw [hk] at HW1 ⊢
  clear hk
  go_enter Try.func18, Try.ntmps18
  go_upto_region 1 with (fail)
  generalize hw1 : w.alloc (.cells #[.int .i64 3, .int .i64 a.host, .int .i64 a.n, .int .i64 a.m, .int .u32 a.mask, .slice A2 bn c2, .slice A1 ln c1] 52) = w1
  generalize hg1 : w.heap.size = g1
  obtain ⟨hI, c0, c1', c2', c3', c4', c5', c6', p0, hal, hbs, hls⟩ := HW1.out w1 g1 hw1.symm hg1.symm
  have HI0 := Lib.hid hI
  have HI := Lib.hid hI.drew
  have HAL0 := Lib.hid hal
  have HAL := Lib.hid hal.drew
  have HB := Lib.hid (show RdB D w1.drew _ _ from hbs)
  have HL : Hid (DgIs D w1.drew (.slice A1 ln c1) a.l) := Lib.hid (show DgIs D w1.drew _ _ from hls)
  clear hI hal hbs hls HW1 hw1 hg1 q0
  go_upto_region 9 with (fail)
  refine start_ (n := 9) (S := fun w' => w' = w1.drew) (ds := [8]) #[false, false, false, false, false, false, false, false, false] (by kernel_rfl) rfl rfl rfl (fun hHeld => ?_)
  refine pure_ (i := 0) (N := some 37) (v := ?_) (a' := ?_) #[true, false, false, false, false, false, false, false, false] rfl rfl (by kernel_rfl) (fun _ _ _ h => h) (Or.inl ⟨by rfl, ?_⟩) ?_ ?_
  rotate_left
  · intro w'
    go_simp
    with_reducible rfl
  rotate_left
  · simp only [Act.put, List.setIfInBounds_toArray, List.set_cons_zero, List.set_cons_succ, i64_w, i32_w]
    rfl
  refine pure_ (i := 1) (N := some 38) (v := ?_) (a' := ?_) #[true, true, false, false, false, false, false, false, false] rfl rfl (by kernel_rfl) (fun _ _ _ h => h) (Or.inl ⟨by rfl, ?_⟩) ?_ ?_
  rotate_left
  · intro w'
    go_simp
    with_reducible rfl
  rotate_left
  · simp only [Act.put, List.setIfInBounds_toArray, List.set_cons_zero, List.set_cons_succ, i64_w, i32_w]
    rfl
  refine pure_ (i := 2) (N := some 39) (v := ?_) (a' := ?_) #[true, true, true, false, false, false, false, false, false] rfl rfl (by kernel_rfl) (fun _ _ _ h => h) (Or.inl ⟨by rfl, ?_⟩) ?_ ?_
  rotate_left
  · intro w'
    go_simp
    with_reducible rfl
  rotate_left
  · simp only [Act.put, List.setIfInBounds_toArray, List.set_cons_zero, List.set_cons_succ, i64_w, i32_w]
    rfl
  refine take_ (i := 3) (N := some 40) (v := ?_) (a' := ?_) #[true, true, true, true, false, false, false, false, false] rfl rfl (by kernel_rfl) (fun _ _ _ h => h) (Or.inl ⟨by rfl, ?_⟩) hHeld ?_ ?_
  rotate_left
  · rintro w' rfl
    go_simp
    with_reducible rfl
  rotate_left
  · simp only [Act.put, List.setIfInBounds_toArray, List.set_cons_zero, List.set_cons_succ, i64_w, i32_w]
    rfl
  refine pure_ (i := 4) (N := some 41) (v := ?_) (a' := ?_) #[true, true, true, true, true, false, false, false, false] rfl rfl (by kernel_rfl) (fun _ _ _ h => h) (Or.inl ⟨by rfl, ?_⟩) ?_ ?_
  rotate_left
  · intro w'
    go_simp
    with_reducible rfl
  rotate_left
  · simp only [Act.put, List.setIfInBounds_toArray, List.set_cons_zero, List.set_cons_succ, i64_w, i32_w]
    rfl
  refine take_ (i := 5) (N := some 42) (v := ?_) (a' := ?_) #[true, true, true, true, true, true, false, false, false] rfl rfl (by kernel_rfl) (fun _ _ _ h => h) (Or.inl ⟨by rfl, ?_⟩) hHeld ?_ ?_
  rotate_left
  · rintro w' rfl
    go_simp
    with_reducible rfl
  rotate_left
  · simp only [Act.put, List.setIfInBounds_toArray, List.set_cons_zero, List.set_cons_succ, i64_w, i32_w]
    rfl
  refine pure_ (i := 6) (N := some 43) (v := ?_) (a' := ?_) #[true, true, true, true, true, true, true, false, false] rfl rfl (by kernel_rfl) (fun _ _ _ h => h) (Or.inl ⟨by rfl, ?_⟩) ?_ ?_
  rotate_left
  · intro w'
    go_simp
    with_reducible rfl
  rotate_left
  · simp only [Act.put, List.setIfInBounds_toArray, List.set_cons_zero, List.set_cons_succ, i64_w, i32_w]
    rfl
  refine take_ (i := 7) (N := some 44) (v := ?_) (a' := ?_) #[true, true, true, true, true, true, true, true, false] rfl rfl (by kernel_rfl) (fun _ _ _ h => h) (Or.inl ⟨by rfl, ?_⟩) hHeld ?_ ?_
  rotate_left
  · rintro w' rfl
    go_simp
    with_reducible rfl
  rotate_left
  · simp only [Act.put, List.setIfInBounds_toArray, List.set_cons_zero, List.set_cons_succ, i64_w, i32_w]
    rfl
  refine last_ (i := 8) (N := some 45) #[true, true, true, true, true, true, true, true, true] rfl rfl (by kernel_rfl) (by decide) (fun K hK => ?_)
  refine goes_ Try.func14 (by kernel_rfl) rfl #[.pointer (some ⟨nb, 0, none⟩), .int .i64 a.host, .int .i64 a.n] (by rfl) rfl rfl (by simp [Act.eval]) ?_
  refine (graft_calls HI.out a.host a.n).mono ?_
  rintro e w3 ⟨ev, rfl, hev, hN⟩
  have HNP := Lib.hid hN
  clear hN hev
  refine ⟨_, rfl, ?_⟩
  refine hK.out _ _ ?_
  clear hK K hHeld
  refine norm_ (a' := ?_) ?_ ?_
  rotate_left
  · show Act.put _ (some 45) _ = _
    simp only [Act.put, List.setIfInBounds_toArray, List.set_cons_zero, List.set_cons_succ, i64_w, i32_w]
    rfl
  refine done_ (by kernel_rfl) ?_
  go_wp2
  (try simp only [Exit.inBlock, Exit.then])
  refine bodyPost_end (results_none rfl _ _ _) rfl ?_
  exact ⟨rfl, by rw [act_3 s a HK0.out]; exact HNP.out.from_ HAL.out⟩
set_option maxHeartbeats 4000000 in
set_option maxRecDepth 100000 in
theorem calls_4 {bb : Nat → Prop} {w : World} {nb hb : Nat} {qv : Nat → Value} {s : Nt} {bo L : Nat} {D : Nat → Prop} (h : IsNet bb w nb hb qv s) (hbo : w.cell? ⟨bo, 0, none⟩ = some (.pointer (some ⟨nb, 0, none⟩))) (a : AV) (ha : a.Ok) (bv lv : Value) (hbv : RdB D w bv a.b) (hlv : DgIs D w lv a.l) (hD : ∀ k, D k → k < w.heap.size ∧ ¬ NB nb hb s.n qv k) (hW : Wg s (L + 1)) (hk : a.kind = 4) :
    Calls Try.prog 18 #[.pointer (some ⟨bo, 0, none⟩), actV a bv lv] w fun e w' => e = .returned (.tuple #[]) ∧ NetP bb w nb hb s.n qv (Nt.act s a) w' := by
  have HW := Lib.hid hW
  have HD := Lib.hid hD
  have HA := Lib.hid ha
  have HK0 := Lib.hid hk
  obtain ⟨A2, c2, rfl, hbc, hbl, _, _⟩ := id hbv
  obtain ⟨A1, c1, rfl, hlc, hll, _⟩ := id hlv
  obtain ⟨bn, hbn⟩ : ∃ bn, bn = a.b.length := ⟨_, rfl⟩
  obtain ⟨ln, hln⟩ : ∃ ln, ln = a.l.length := ⟨_, rfl⟩
  have HLN := Lib.hid hln
  rw [← hbn] at hbc hbl hbv ⊢
  rw [← hln] at hlc hll hlv ⊢
  have HW1 : Hid (∀ w1 g1, w1 = w.alloc (.cells #[.int .i64 a.kind, .int .i64 a.host, .int .i64 a.n, .int .i64 a.m, .int .u32 a.mask, .slice A2 bn c2, .slice A1 ln c1] 52) → g1 = w.heap.size → IsNet bb w1 nb hb qv s ∧ w1.cell? ⟨g1, 0, none⟩ = some (.int .i64 a.kind) ∧ w1.cell? ⟨g1, 1, none⟩ = some (.int .i64 a.host) ∧ w1.cell? ⟨g1, 2, none⟩ = some (.int .i64 a.n) ∧ w1.cell? ⟨g1, 3, none⟩ = some (.int .i64 a.m) ∧ w1.cell? ⟨g1, 4, none⟩ = some (.int .u32 a.mask) ∧ w1.cell? ⟨g1, 5, none⟩ = some (.slice A2 bn c2) ∧ w1.cell? ⟨g1, 6, none⟩ = some (.slice A1 ln c1) ∧ w1.cell? ⟨bo, 0, none⟩ = some (.pointer (some ⟨nb, 0, none⟩)) ∧ Below w.heap.size w w1 ∧ RdB D w1 (.slice A2 bn c2) a.b ∧ DgIs D w1 (.slice A1 ln c1) a.l) := Lib.hid (by
    rintro w1 g1 rfl rfl
    have hB : Below w.heap.size w (w.alloc (.cells #[.int .i64 a.kind, .int .i64 a.host, .int .i64 a.n, .int .i64 a.m, .int .u32 a.mask, .slice A2 bn c2, .slice A1 ln c1] 52)) := (Below.refl _ _).alloc (Nat.le_refl _) _
    refine ⟨h.below hB, ?_, ?_, ?_, ?_, ?_, ?_, ?_, (hB.cell (World.block_lt_of_cell? w _ hbo)).trans hbo, hB, hbv.keep (fun k hk => hB.block k (hD k hk).1), hlv.keep (fun k hk => hB.block k (hD k hk).1)⟩ <;> (rw [World.cell?_alloc_at _ _ _ _ rfl]; rfl))
  have q0 := hbo
  unfold actV
  clear h hbv hlv hD hW ha hbo hbn hln
  rw [hk] at HW1 ⊢
  clear hk
  go_enter Try.func18, Try.ntmps18
  go_upto_region 1 with (fail)
  generalize hw1 : w.alloc (.cells #[.int .i64 4, .int .i64 a.host, .int .i64 a.n, .int .i64 a.m, .int .u32 a.mask, .slice A2 bn c2, .slice A1 ln c1] 52) = w1
  generalize hg1 : w.heap.size = g1
  obtain ⟨hI, c0, c1', c2', c3', c4', c5', c6', p0, hal, hbs, hls⟩ := HW1.out w1 g1 hw1.symm hg1.symm
  have HI0 := Lib.hid hI
  have HI := Lib.hid hI.drew
  have HAL0 := Lib.hid hal
  have HAL := Lib.hid hal.drew
  have HB := Lib.hid (show RdB D w1.drew _ _ from hbs)
  have HL : Hid (DgIs D w1.drew (.slice A1 ln c1) a.l) := Lib.hid (show DgIs D w1.drew _ _ from hls)
  clear hI hal hbs hls HW1 hw1 hg1 q0
  go_upto_region 11 with (fail)
  refine start_ (n := 9) (S := fun w' => w' = w1.drew) (ds := [8]) #[false, false, false, false, false, false, false, false, false] (by kernel_rfl) rfl rfl rfl (fun hHeld => ?_)
  refine pure_ (i := 0) (N := some 48) (v := ?_) (a' := ?_) #[true, false, false, false, false, false, false, false, false] rfl rfl (by kernel_rfl) (fun _ _ _ h => h) (Or.inl ⟨by rfl, ?_⟩) ?_ ?_
  rotate_left
  · intro w'
    go_simp
    with_reducible rfl
  rotate_left
  · simp only [Act.put, List.setIfInBounds_toArray, List.set_cons_zero, List.set_cons_succ, i64_w, i32_w]
    rfl
  refine pure_ (i := 1) (N := some 49) (v := ?_) (a' := ?_) #[true, true, false, false, false, false, false, false, false] rfl rfl (by kernel_rfl) (fun _ _ _ h => h) (Or.inl ⟨by rfl, ?_⟩) ?_ ?_
  rotate_left
  · intro w'
    go_simp
    with_reducible rfl
  rotate_left
  · simp only [Act.put, List.setIfInBounds_toArray, List.set_cons_zero, List.set_cons_succ, i64_w, i32_w]
    rfl
  refine pure_ (i := 2) (N := some 50) (v := ?_) (a' := ?_) #[true, true, true, false, false, false, false, false, false] rfl rfl (by kernel_rfl) (fun _ _ _ h => h) (Or.inl ⟨by rfl, ?_⟩) ?_ ?_
  rotate_left
  · intro w'
    go_simp
    with_reducible rfl
  rotate_left
  · simp only [Act.put, List.setIfInBounds_toArray, List.set_cons_zero, List.set_cons_succ, i64_w, i32_w]
    rfl
  refine take_ (i := 3) (N := some 51) (v := ?_) (a' := ?_) #[true, true, true, true, false, false, false, false, false] rfl rfl (by kernel_rfl) (fun _ _ _ h => h) (Or.inl ⟨by rfl, ?_⟩) hHeld ?_ ?_
  rotate_left
  · rintro w' rfl
    go_simp
    with_reducible rfl
  rotate_left
  · simp only [Act.put, List.setIfInBounds_toArray, List.set_cons_zero, List.set_cons_succ, i64_w, i32_w]
    rfl
  refine pure_ (i := 4) (N := some 52) (v := ?_) (a' := ?_) #[true, true, true, true, true, false, false, false, false] rfl rfl (by kernel_rfl) (fun _ _ _ h => h) (Or.inl ⟨by rfl, ?_⟩) ?_ ?_
  rotate_left
  · intro w'
    go_simp
    with_reducible rfl
  rotate_left
  · simp only [Act.put, List.setIfInBounds_toArray, List.set_cons_zero, List.set_cons_succ, i64_w, i32_w]
    rfl
  refine take_ (i := 5) (N := some 53) (v := ?_) (a' := ?_) #[true, true, true, true, true, true, false, false, false] rfl rfl (by kernel_rfl) (fun _ _ _ h => h) (Or.inl ⟨by rfl, ?_⟩) hHeld ?_ ?_
  rotate_left
  · rintro w' rfl
    go_simp
    with_reducible rfl
  rotate_left
  · simp only [Act.put, List.setIfInBounds_toArray, List.set_cons_zero, List.set_cons_succ, i64_w, i32_w]
    rfl
  refine pure_ (i := 6) (N := some 54) (v := ?_) (a' := ?_) #[true, true, true, true, true, true, true, false, false] rfl rfl (by kernel_rfl) (fun _ _ _ h => h) (Or.inl ⟨by rfl, ?_⟩) ?_ ?_
  rotate_left
  · intro w'
    go_simp
    with_reducible rfl
  rotate_left
  · simp only [Act.put, List.setIfInBounds_toArray, List.set_cons_zero, List.set_cons_succ, i64_w, i32_w]
    rfl
  refine take_ (i := 7) (N := some 55) (v := ?_) (a' := ?_) #[true, true, true, true, true, true, true, true, false] rfl rfl (by kernel_rfl) (fun _ _ _ h => h) (Or.inl ⟨by rfl, ?_⟩) hHeld ?_ ?_
  rotate_left
  · rintro w' rfl
    go_simp
    with_reducible rfl
  rotate_left
  · simp only [Act.put, List.setIfInBounds_toArray, List.set_cons_zero, List.set_cons_succ, i64_w, i32_w]
    rfl
  refine last_ (i := 8) (N := some 56) #[true, true, true, true, true, true, true, true, true] rfl rfl (by kernel_rfl) (by decide) (fun K hK => ?_)
  refine goes_ Try.func11 (by kernel_rfl) rfl #[.pointer (some ⟨nb, 0, none⟩), .int .i64 a.host, .int .i64 a.n] (by rfl) rfl rfl (by simp [Act.eval]) ?_
  refine (capacity_calls HI.out a.host a.n).mono ?_
  rintro e w3 ⟨ev, rfl, hev, hN⟩
  have HNP := Lib.hid hN
  clear hN hev
  refine ⟨_, rfl, ?_⟩
  refine hK.out _ _ ?_
  clear hK K hHeld
  refine norm_ (a' := ?_) ?_ ?_
  rotate_left
  · show Act.put _ (some 56) _ = _
    simp only [Act.put, List.setIfInBounds_toArray, List.set_cons_zero, List.set_cons_succ, i64_w, i32_w]
    rfl
  refine done_ (by kernel_rfl) ?_
  go_wp2
  (try simp only [Exit.inBlock, Exit.then])
  refine bodyPost_end (results_none rfl _ _ _) rfl ?_
  exact ⟨rfl, by rw [act_4 s a HK0.out]; exact HNP.out.from_ HAL.out⟩
set_option maxHeartbeats 4000000 in
set_option maxRecDepth 100000 in
theorem calls_5 {bb : Nat → Prop} {w : World} {nb hb : Nat} {qv : Nat → Value} {s : Nt} {bo L : Nat} {D : Nat → Prop} (h : IsNet bb w nb hb qv s) (hbo : w.cell? ⟨bo, 0, none⟩ = some (.pointer (some ⟨nb, 0, none⟩))) (a : AV) (ha : a.Ok) (bv lv : Value) (hbv : RdB D w bv a.b) (hlv : DgIs D w lv a.l) (hD : ∀ k, D k → k < w.heap.size ∧ ¬ NB nb hb s.n qv k) (hW : Wg s (L + 1)) (hk : a.kind = 5) :
    Calls Try.prog 18 #[.pointer (some ⟨bo, 0, none⟩), actV a bv lv] w fun e w' => e = .returned (.tuple #[]) ∧ NetP bb w nb hb s.n qv (Nt.act s a) w' := by
  have HW := Lib.hid hW
  have HD := Lib.hid hD
  have HA := Lib.hid ha
  have HK0 := Lib.hid hk
  obtain ⟨A2, c2, rfl, hbc, hbl, _, _⟩ := id hbv
  obtain ⟨A1, c1, rfl, hlc, hll, _⟩ := id hlv
  obtain ⟨bn, hbn⟩ : ∃ bn, bn = a.b.length := ⟨_, rfl⟩
  obtain ⟨ln, hln⟩ : ∃ ln, ln = a.l.length := ⟨_, rfl⟩
  have HLN := Lib.hid hln
  rw [← hbn] at hbc hbl hbv ⊢
  rw [← hln] at hlc hll hlv ⊢
  have HW1 : Hid (∀ w1 g1, w1 = w.alloc (.cells #[.int .i64 a.kind, .int .i64 a.host, .int .i64 a.n, .int .i64 a.m, .int .u32 a.mask, .slice A2 bn c2, .slice A1 ln c1] 52) → g1 = w.heap.size → IsNet bb w1 nb hb qv s ∧ w1.cell? ⟨g1, 0, none⟩ = some (.int .i64 a.kind) ∧ w1.cell? ⟨g1, 1, none⟩ = some (.int .i64 a.host) ∧ w1.cell? ⟨g1, 2, none⟩ = some (.int .i64 a.n) ∧ w1.cell? ⟨g1, 3, none⟩ = some (.int .i64 a.m) ∧ w1.cell? ⟨g1, 4, none⟩ = some (.int .u32 a.mask) ∧ w1.cell? ⟨g1, 5, none⟩ = some (.slice A2 bn c2) ∧ w1.cell? ⟨g1, 6, none⟩ = some (.slice A1 ln c1) ∧ w1.cell? ⟨bo, 0, none⟩ = some (.pointer (some ⟨nb, 0, none⟩)) ∧ Below w.heap.size w w1 ∧ RdB D w1 (.slice A2 bn c2) a.b ∧ DgIs D w1 (.slice A1 ln c1) a.l) := Lib.hid (by
    rintro w1 g1 rfl rfl
    have hB : Below w.heap.size w (w.alloc (.cells #[.int .i64 a.kind, .int .i64 a.host, .int .i64 a.n, .int .i64 a.m, .int .u32 a.mask, .slice A2 bn c2, .slice A1 ln c1] 52)) := (Below.refl _ _).alloc (Nat.le_refl _) _
    refine ⟨h.below hB, ?_, ?_, ?_, ?_, ?_, ?_, ?_, (hB.cell (World.block_lt_of_cell? w _ hbo)).trans hbo, hB, hbv.keep (fun k hk => hB.block k (hD k hk).1), hlv.keep (fun k hk => hB.block k (hD k hk).1)⟩ <;> (rw [World.cell?_alloc_at _ _ _ _ rfl]; rfl))
  have q0 := hbo
  unfold actV
  clear h hbv hlv hD hW ha hbo hbn hln
  rw [hk] at HW1 ⊢
  clear hk
  go_enter Try.func18, Try.ntmps18
  go_upto_region 1 with (fail)
  generalize hw1 : w.alloc (.cells #[.int .i64 5, .int .i64 a.host, .int .i64 a.n, .int .i64 a.m, .int .u32 a.mask, .slice A2 bn c2, .slice A1 ln c1] 52) = w1
  generalize hg1 : w.heap.size = g1
  obtain ⟨hI, c0, c1', c2', c3', c4', c5', c6', p0, hal, hbs, hls⟩ := HW1.out w1 g1 hw1.symm hg1.symm
  have HI0 := Lib.hid hI
  have HI := Lib.hid hI.drew
  have HAL0 := Lib.hid hal
  have HAL := Lib.hid hal.drew
  have HB := Lib.hid (show RdB D w1.drew _ _ from hbs)
  have HL : Hid (DgIs D w1.drew (.slice A1 ln c1) a.l) := Lib.hid (show DgIs D w1.drew _ _ from hls)
  clear hI hal hbs hls HW1 hw1 hg1 q0
  have HDX : Hid (∀ k, D k → k < w1.drew.heap.size ∧ ¬ NB nb hb s.n qv k) := Lib.hid (fun k hk => ⟨Nat.lt_of_lt_of_le (HD.out k hk).1 HAL0.out.size, (HD.out k hk).2⟩)
  have HOK : Hid (OkN s (a.l.take 20).length) := Lib.hid ⟨fun i hi => (HW.out.wf.level i hi).2, fun i hi => ⟨(HW.out.wf.got i hi).1, by have := (HW.out.wf.got i hi).2; rw [List.length_take]; omega⟩, fun i hi => by have := HW.out.wf.q i hi; rw [List.length_take]; omega⟩
  obtain ⟨mn, hmn⟩ : ∃ mn, mn = min ln 20 := ⟨_, rfl⟩
  have HL20 : Hid (DgIs D w1.drew (.slice A1 mn c1) (a.l.take 20)) := Lib.hid (by
    have := DgIs.take HL.out mn (by omega)
    have e : a.l.take mn = a.l.take 20 := by
      rw [hmn, HLN.out]
      rcases Nat.le_total a.l.length 20 with h | h
      · rw [Nat.min_eq_left h, List.take_length, List.take_of_length_le h]
      · rw [Nat.min_eq_right h]
    rw [e] at this; exact this)
  have hmi : min (ln : Int) 20 = (mn : Int) := by omega
  have hmc : mn ≤ c1 := by omega
  clear hmn
  go_upto_region 13 with (fail)
  refine start_ (n := 12) (S := fun w' => w' = w1.drew) (ds := [11]) #[false, false, false, false, false, false, false, false, false, false, false, false] (by kernel_rfl) rfl rfl rfl (fun hHeld => ?_)
  refine pure_ (i := 0) (N := some 59) (v := ?_) (a' := ?_) #[true, false, false, false, false, false, false, false, false, false, false, false] rfl rfl (by kernel_rfl) (fun _ _ _ h => h) (Or.inl ⟨by rfl, ?_⟩) ?_ ?_
  rotate_left
  · intro w'
    go_simp
    with_reducible rfl
  rotate_left
  · simp only [Act.put, List.setIfInBounds_toArray, List.set_cons_zero, List.set_cons_succ, i64_w, i32_w]
    rfl
  refine pure_ (i := 1) (N := some 60) (v := ?_) (a' := ?_) #[true, true, false, false, false, false, false, false, false, false, false, false] rfl rfl (by kernel_rfl) (fun _ _ _ h => h) (Or.inl ⟨by rfl, ?_⟩) ?_ ?_
  rotate_left
  · intro w'
    go_simp
    with_reducible rfl
  rotate_left
  · simp only [Act.put, List.setIfInBounds_toArray, List.set_cons_zero, List.set_cons_succ, i64_w, i32_w]
    rfl
  refine pure_ (i := 2) (N := some 61) (v := ?_) (a' := ?_) #[true, true, true, false, false, false, false, false, false, false, false, false] rfl rfl (by kernel_rfl) (fun _ _ _ h => h) (Or.inl ⟨by rfl, ?_⟩) ?_ ?_
  rotate_left
  · intro w'
    go_simp
    with_reducible rfl
  rotate_left
  · simp only [Act.put, List.setIfInBounds_toArray, List.set_cons_zero, List.set_cons_succ, i64_w, i32_w]
    rfl
  refine take_ (i := 3) (N := some 62) (v := ?_) (a' := ?_) #[true, true, true, true, false, false, false, false, false, false, false, false] rfl rfl (by kernel_rfl) (fun _ _ _ h => h) (Or.inl ⟨by rfl, ?_⟩) hHeld ?_ ?_
  rotate_left
  · rintro w' rfl
    go_simp
    with_reducible rfl
  rotate_left
  · simp only [Act.put, List.setIfInBounds_toArray, List.set_cons_zero, List.set_cons_succ, i64_w, i32_w]
    rfl
  refine pure_ (i := 4) (N := some 63) (v := ?_) (a' := ?_) #[true, true, true, true, true, false, false, false, false, false, false, false] rfl rfl (by kernel_rfl) (fun _ _ _ h => h) (Or.inl ⟨by rfl, ?_⟩) ?_ ?_
  rotate_left
  · intro w'
    go_simp
    with_reducible rfl
  rotate_left
  · simp only [Act.put, List.setIfInBounds_toArray, List.set_cons_zero, List.set_cons_succ, i64_w, i32_w]
    rfl
  refine take_ (i := 5) (N := some 64) (v := ?_) (a' := ?_) #[true, true, true, true, true, true, false, false, false, false, false, false] rfl rfl (by kernel_rfl) (fun _ _ _ h => h) (Or.inl ⟨by rfl, ?_⟩) hHeld ?_ ?_
  rotate_left
  · rintro w' rfl
    go_simp
    with_reducible rfl
  rotate_left
  · simp only [Act.put, List.setIfInBounds_toArray, List.set_cons_zero, List.set_cons_succ, i64_w, i32_w]
    rfl
  refine pure_ (i := 6) (N := some 65) (v := ?_) (a' := ?_) #[true, true, true, true, true, true, true, false, false, false, false, false] rfl rfl (by kernel_rfl) (fun _ _ _ h => h) (Or.inl ⟨by rfl, ?_⟩) ?_ ?_
  rotate_left
  · intro w'
    go_simp
    with_reducible rfl
  rotate_left
  · simp only [Act.put, List.setIfInBounds_toArray, List.set_cons_zero, List.set_cons_succ, i64_w, i32_w]
    rfl
  refine take_ (i := 7) (N := some 66) (v := ?_) (a' := ?_) #[true, true, true, true, true, true, true, true, false, false, false, false] rfl rfl (by kernel_rfl) (fun _ _ _ h => h) (Or.inl ⟨by rfl, ?_⟩) hHeld ?_ ?_
  rotate_left
  · rintro w' rfl
    go_simp
    with_reducible rfl
  rotate_left
  · simp only [Act.put, List.setIfInBounds_toArray, List.set_cons_zero, List.set_cons_succ, i64_w, i32_w]
    rfl
  refine pure_ (i := 8) (N := some 67) (v := ?_) (a' := ?_) #[true, true, true, true, true, true, true, true, true, false, false, false] rfl rfl (by kernel_rfl) (fun _ _ _ h => h) (Or.inl ⟨by rfl, ?_⟩) ?_ ?_
  rotate_left
  · intro w'
    go_simp
    with_reducible rfl
  rotate_left
  · simp only [Act.put, List.setIfInBounds_toArray, List.set_cons_zero, List.set_cons_succ, i64_w, i32_w]
    rfl
  refine pure_ (i := 9) (N := some 68) (v := ?_) (a' := ?_) #[true, true, true, true, true, true, true, true, true, true, false, false] rfl rfl (by kernel_rfl) (fun _ _ _ h => h) (Or.inl ⟨by rfl, ?_⟩) ?_ ?_
  rotate_left
  · intro w'
    go_simp
    with_reducible rfl
  rotate_left
  · simp only [Act.put, List.setIfInBounds_toArray, List.set_cons_zero, List.set_cons_succ, i64_w, i32_w]
    rfl
  refine pure_ (i := 10) (N := some 69) (v := ?_) (a' := ?_) #[true, true, true, true, true, true, true, true, true, true, true, false] rfl rfl (by kernel_rfl) (fun _ _ _ h => h) (Or.inl ⟨by rfl, ?_⟩) ?_ ?_
  rotate_left
  · intro w'
    go_simp
    with_reducible rfl
  rotate_left
  · simp only [Act.put, List.setIfInBounds_toArray, List.set_cons_zero, List.set_cons_succ, i64_w, i32_w]
    rfl
  refine last_ (i := 11) (N := some 70) #[true, true, true, true, true, true, true, true, true, true, true, true] rfl rfl (by kernel_rfl) (by decide) (fun K hK => ?_)
  refine goes_ Try.func8 (by kernel_rfl) rfl #[.pointer (some ⟨nb, 0, none⟩), .slice A1 mn c1] (by rfl) rfl rfl (by simp [Act.eval]) ?_
  refine (send_calls HI.out _ (a.l.take 20) HL20.out HDX.out HOK.out).mono ?_
  rintro e w3 ⟨rfl, hN⟩
  have HNP := Lib.hid hN
  clear hN
  refine ⟨_, rfl, ?_⟩
  refine hK.out _ _ ?_
  clear hK K hHeld
  refine norm_ (a' := ?_) ?_ ?_
  rotate_left
  · show Act.put _ (some 70) _ = _
    simp only [Act.put, List.setIfInBounds_toArray, List.set_cons_zero, List.set_cons_succ, i64_w, i32_w]
    rfl
  refine done_ (by kernel_rfl) ?_
  go_wp2
  (try simp only [Exit.inBlock, Exit.then])
  refine bodyPost_end (results_none rfl _ _ _) rfl ?_
  exact ⟨rfl, by rw [act_5 s a HK0.out]; exact HNP.out.from_ HAL.out⟩
set_option maxHeartbeats 4000000 in
set_option maxRecDepth 100000 in
theorem calls_6 {bb : Nat → Prop} {w : World} {nb hb : Nat} {qv : Nat → Value} {s : Nt} {bo L : Nat} {D : Nat → Prop} (h : IsNet bb w nb hb qv s) (hbo : w.cell? ⟨bo, 0, none⟩ = some (.pointer (some ⟨nb, 0, none⟩))) (a : AV) (ha : a.Ok) (bv lv : Value) (hbv : RdB D w bv a.b) (hlv : DgIs D w lv a.l) (hD : ∀ k, D k → k < w.heap.size ∧ ¬ NB nb hb s.n qv k) (hW : Wg s (L + 1)) (hk : a.kind = 6) :
    Calls Try.prog 18 #[.pointer (some ⟨bo, 0, none⟩), actV a bv lv] w fun e w' => e = .returned (.tuple #[]) ∧ NetP bb w nb hb s.n qv (Nt.act s a) w' := by
  have HW := Lib.hid hW
  have HD := Lib.hid hD
  have HA := Lib.hid ha
  have HK0 := Lib.hid hk
  obtain ⟨A2, c2, rfl, hbc, hbl, _, _⟩ := id hbv
  obtain ⟨A1, c1, rfl, hlc, hll, _⟩ := id hlv
  obtain ⟨bn, hbn⟩ : ∃ bn, bn = a.b.length := ⟨_, rfl⟩
  obtain ⟨ln, hln⟩ : ∃ ln, ln = a.l.length := ⟨_, rfl⟩
  have HLN := Lib.hid hln
  rw [← hbn] at hbc hbl hbv ⊢
  rw [← hln] at hlc hll hlv ⊢
  have HW1 : Hid (∀ w1 g1, w1 = w.alloc (.cells #[.int .i64 a.kind, .int .i64 a.host, .int .i64 a.n, .int .i64 a.m, .int .u32 a.mask, .slice A2 bn c2, .slice A1 ln c1] 52) → g1 = w.heap.size → IsNet bb w1 nb hb qv s ∧ w1.cell? ⟨g1, 0, none⟩ = some (.int .i64 a.kind) ∧ w1.cell? ⟨g1, 1, none⟩ = some (.int .i64 a.host) ∧ w1.cell? ⟨g1, 2, none⟩ = some (.int .i64 a.n) ∧ w1.cell? ⟨g1, 3, none⟩ = some (.int .i64 a.m) ∧ w1.cell? ⟨g1, 4, none⟩ = some (.int .u32 a.mask) ∧ w1.cell? ⟨g1, 5, none⟩ = some (.slice A2 bn c2) ∧ w1.cell? ⟨g1, 6, none⟩ = some (.slice A1 ln c1) ∧ w1.cell? ⟨bo, 0, none⟩ = some (.pointer (some ⟨nb, 0, none⟩)) ∧ Below w.heap.size w w1 ∧ RdB D w1 (.slice A2 bn c2) a.b ∧ DgIs D w1 (.slice A1 ln c1) a.l) := Lib.hid (by
    rintro w1 g1 rfl rfl
    have hB : Below w.heap.size w (w.alloc (.cells #[.int .i64 a.kind, .int .i64 a.host, .int .i64 a.n, .int .i64 a.m, .int .u32 a.mask, .slice A2 bn c2, .slice A1 ln c1] 52)) := (Below.refl _ _).alloc (Nat.le_refl _) _
    refine ⟨h.below hB, ?_, ?_, ?_, ?_, ?_, ?_, ?_, (hB.cell (World.block_lt_of_cell? w _ hbo)).trans hbo, hB, hbv.keep (fun k hk => hB.block k (hD k hk).1), hlv.keep (fun k hk => hB.block k (hD k hk).1)⟩ <;> (rw [World.cell?_alloc_at _ _ _ _ rfl]; rfl))
  have q0 := hbo
  unfold actV
  clear h hbv hlv hD hW ha hbo hbn hln
  rw [hk] at HW1 ⊢
  clear hk
  go_enter Try.func18, Try.ntmps18
  go_upto_region 1 with (fail)
  generalize hw1 : w.alloc (.cells #[.int .i64 6, .int .i64 a.host, .int .i64 a.n, .int .i64 a.m, .int .u32 a.mask, .slice A2 bn c2, .slice A1 ln c1] 52) = w1
  generalize hg1 : w.heap.size = g1
  obtain ⟨hI, c0, c1', c2', c3', c4', c5', c6', p0, hal, hbs, hls⟩ := HW1.out w1 g1 hw1.symm hg1.symm
  have HI0 := Lib.hid hI
  have HI := Lib.hid hI.drew
  have HAL0 := Lib.hid hal
  have HAL := Lib.hid hal.drew
  have HB := Lib.hid (show RdB D w1.drew _ _ from hbs)
  have HL : Hid (DgIs D w1.drew (.slice A1 ln c1) a.l) := Lib.hid (show DgIs D w1.drew _ _ from hls)
  clear hI hal hbs hls HW1 hw1 hg1 q0
  go_wp2_with (first | (go_at_call 13; refine (tick_calls HI0.out ⟨HW.out.wf.now.1, by have := HW.out.wf.now.2; omega⟩).mono ?_; rintro e w3 ⟨rfl, hN⟩; have HNP := Lib.hid hN; clear hN))
  (try simp only [Exit.inBlock, Exit.then])
  refine bodyPost_end (results_none rfl _ _ _) rfl ?_
  exact ⟨rfl, by rw [act_6 s a HK0.out]; exact HNP.out.from_ HAL0.out⟩
set_option maxHeartbeats 4000000 in
set_option maxRecDepth 100000 in
theorem calls_7 {bb : Nat → Prop} {w : World} {nb hb : Nat} {qv : Nat → Value} {s : Nt} {bo L : Nat} {D : Nat → Prop} (h : IsNet bb w nb hb qv s) (hbo : w.cell? ⟨bo, 0, none⟩ = some (.pointer (some ⟨nb, 0, none⟩))) (a : AV) (ha : a.Ok) (bv lv : Value) (hbv : RdB D w bv a.b) (hlv : DgIs D w lv a.l) (hD : ∀ k, D k → k < w.heap.size ∧ ¬ NB nb hb s.n qv k) (hW : Wg s (L + 1)) (hk : a.kind = 7) :
    Calls Try.prog 18 #[.pointer (some ⟨bo, 0, none⟩), actV a bv lv] w fun e w' => e = .returned (.tuple #[]) ∧ NetP bb w nb hb s.n qv (Nt.act s a) w' := by
  have HW := Lib.hid hW
  have HD := Lib.hid hD
  have HA := Lib.hid ha
  have HK0 := Lib.hid hk
  obtain ⟨A2, c2, rfl, hbc, hbl, _, _⟩ := id hbv
  obtain ⟨A1, c1, rfl, hlc, hll, _⟩ := id hlv
  obtain ⟨bn, hbn⟩ : ∃ bn, bn = a.b.length := ⟨_, rfl⟩
  obtain ⟨ln, hln⟩ : ∃ ln, ln = a.l.length := ⟨_, rfl⟩
  have HLN := Lib.hid hln
  rw [← hbn] at hbc hbl hbv ⊢
  rw [← hln] at hlc hll hlv ⊢
  have HW1 : Hid (∀ w1 g1, w1 = w.alloc (.cells #[.int .i64 a.kind, .int .i64 a.host, .int .i64 a.n, .int .i64 a.m, .int .u32 a.mask, .slice A2 bn c2, .slice A1 ln c1] 52) → g1 = w.heap.size → IsNet bb w1 nb hb qv s ∧ w1.cell? ⟨g1, 0, none⟩ = some (.int .i64 a.kind) ∧ w1.cell? ⟨g1, 1, none⟩ = some (.int .i64 a.host) ∧ w1.cell? ⟨g1, 2, none⟩ = some (.int .i64 a.n) ∧ w1.cell? ⟨g1, 3, none⟩ = some (.int .i64 a.m) ∧ w1.cell? ⟨g1, 4, none⟩ = some (.int .u32 a.mask) ∧ w1.cell? ⟨g1, 5, none⟩ = some (.slice A2 bn c2) ∧ w1.cell? ⟨g1, 6, none⟩ = some (.slice A1 ln c1) ∧ w1.cell? ⟨bo, 0, none⟩ = some (.pointer (some ⟨nb, 0, none⟩)) ∧ Below w.heap.size w w1 ∧ RdB D w1 (.slice A2 bn c2) a.b ∧ DgIs D w1 (.slice A1 ln c1) a.l) := Lib.hid (by
    rintro w1 g1 rfl rfl
    have hB : Below w.heap.size w (w.alloc (.cells #[.int .i64 a.kind, .int .i64 a.host, .int .i64 a.n, .int .i64 a.m, .int .u32 a.mask, .slice A2 bn c2, .slice A1 ln c1] 52)) := (Below.refl _ _).alloc (Nat.le_refl _) _
    refine ⟨h.below hB, ?_, ?_, ?_, ?_, ?_, ?_, ?_, (hB.cell (World.block_lt_of_cell? w _ hbo)).trans hbo, hB, hbv.keep (fun k hk => hB.block k (hD k hk).1), hlv.keep (fun k hk => hB.block k (hD k hk).1)⟩ <;> (rw [World.cell?_alloc_at _ _ _ _ rfl]; rfl))
  have q0 := hbo
  unfold actV
  clear h hbv hlv hD hW ha hbo hbn hln
  rw [hk] at HW1 ⊢
  clear hk
  go_enter Try.func18, Try.ntmps18
  go_upto_region 1 with (fail)
  generalize hw1 : w.alloc (.cells #[.int .i64 7, .int .i64 a.host, .int .i64 a.n, .int .i64 a.m, .int .u32 a.mask, .slice A2 bn c2, .slice A1 ln c1] 52) = w1
  generalize hg1 : w.heap.size = g1
  obtain ⟨hI, c0, c1', c2', c3', c4', c5', c6', p0, hal, hbs, hls⟩ := HW1.out w1 g1 hw1.symm hg1.symm
  have HI0 := Lib.hid hI
  have HI := Lib.hid hI.drew
  have HAL0 := Lib.hid hal
  have HAL := Lib.hid hal.drew
  have HB := Lib.hid (show RdB D w1.drew _ _ from hbs)
  have HL : Hid (DgIs D w1.drew (.slice A1 ln c1) a.l) := Lib.hid (show DgIs D w1.drew _ _ from hls)
  clear hI hal hbs hls HW1 hw1 hg1 q0
  go_upto_region 17 with (fail)
  refine start_ (n := 7) (S := fun w' => w' = w1.drew) (ds := [6]) #[false, false, false, false, false, false, false] (by kernel_rfl) rfl rfl rfl (fun hHeld => ?_)
  refine pure_ (i := 0) (N := some 80) (v := ?_) (a' := ?_) #[true, false, false, false, false, false, false] rfl rfl (by kernel_rfl) (fun _ _ _ h => h) (Or.inl ⟨by rfl, ?_⟩) ?_ ?_
  rotate_left
  · intro w'
    go_simp
    with_reducible rfl
  rotate_left
  · simp only [Act.put, List.setIfInBounds_toArray, List.set_cons_zero, List.set_cons_succ, i64_w, i32_w]
    rfl
  refine pure_ (i := 1) (N := some 81) (v := ?_) (a' := ?_) #[true, true, false, false, false, false, false] rfl rfl (by kernel_rfl) (fun _ _ _ h => h) (Or.inl ⟨by rfl, ?_⟩) ?_ ?_
  rotate_left
  · intro w'
    go_simp
    with_reducible rfl
  rotate_left
  · simp only [Act.put, List.setIfInBounds_toArray, List.set_cons_zero, List.set_cons_succ, i64_w, i32_w]
    rfl
  refine pure_ (i := 2) (N := some 82) (v := ?_) (a' := ?_) #[true, true, true, false, false, false, false] rfl rfl (by kernel_rfl) (fun _ _ _ h => h) (Or.inl ⟨by rfl, ?_⟩) ?_ ?_
  rotate_left
  · intro w'
    go_simp
    with_reducible rfl
  rotate_left
  · simp only [Act.put, List.setIfInBounds_toArray, List.set_cons_zero, List.set_cons_succ, i64_w, i32_w]
    rfl
  refine take_ (i := 3) (N := some 83) (v := ?_) (a' := ?_) #[true, true, true, true, false, false, false] rfl rfl (by kernel_rfl) (fun _ _ _ h => h) (Or.inl ⟨by rfl, ?_⟩) hHeld ?_ ?_
  rotate_left
  · rintro w' rfl
    go_simp
    with_reducible rfl
  rotate_left
  · simp only [Act.put, List.setIfInBounds_toArray, List.set_cons_zero, List.set_cons_succ, i64_w, i32_w]
    rfl
  refine pure_ (i := 4) (N := some 84) (v := ?_) (a' := ?_) #[true, true, true, true, true, false, false] rfl rfl (by kernel_rfl) (fun _ _ _ h => h) (Or.inl ⟨by rfl, ?_⟩) ?_ ?_
  rotate_left
  · intro w'
    go_simp
    with_reducible rfl
  rotate_left
  · simp only [Act.put, List.setIfInBounds_toArray, List.set_cons_zero, List.set_cons_succ, i64_w, i32_w]
    rfl
  refine take_ (i := 5) (N := some 85) (v := ?_) (a' := ?_) #[true, true, true, true, true, true, false] rfl rfl (by kernel_rfl) (fun _ _ _ h => h) (Or.inl ⟨by rfl, ?_⟩) hHeld ?_ ?_
  rotate_left
  · rintro w' rfl
    go_simp
    with_reducible rfl
  rotate_left
  · simp only [Act.put, List.setIfInBounds_toArray, List.set_cons_zero, List.set_cons_succ, i64_w, i32_w]
    rfl
  refine last_ (i := 6) (N := some 86) #[true, true, true, true, true, true, true] rfl rfl (by kernel_rfl) (by decide) (fun K hK => ?_)
  refine goes_ Try.func9 (by kernel_rfl) rfl #[.pointer (some ⟨nb, 0, none⟩), .int .i64 a.host] (by rfl) rfl rfl (by simp [Act.eval]) ?_
  refine (take_all HI.out a.host (fun k hk => by have := HW.out.wf.q k hk; omega)).mono ?_
  rintro e w3 ⟨v, rfl, hN⟩
  have HNP := Lib.hid hN
  clear hN
  refine ⟨_, rfl, ?_⟩
  refine hK.out _ _ ?_
  clear hK K hHeld
  refine norm_ (a' := ?_) ?_ ?_
  rotate_left
  · show Act.put _ (some 86) _ = _
    simp only [Act.put, List.setIfInBounds_toArray, List.set_cons_zero, List.set_cons_succ, i64_w, i32_w]
    rfl
  refine done_ (by kernel_rfl) ?_
  go_wp2
  (try simp only [Exit.inBlock, Exit.then])
  refine bodyPost_end (results_none rfl _ _ _) rfl ?_
  exact ⟨rfl, by rw [act_7 s a HK0.out]; exact HNP.out.from_ HAL.out⟩
set_option maxHeartbeats 4000000 in
set_option maxRecDepth 100000 in
theorem calls_8 {bb : Nat → Prop} {w : World} {nb hb : Nat} {qv : Nat → Value} {s : Nt} {bo L : Nat} {D : Nat → Prop} (h : IsNet bb w nb hb qv s) (hbo : w.cell? ⟨bo, 0, none⟩ = some (.pointer (some ⟨nb, 0, none⟩))) (a : AV) (ha : a.Ok) (bv lv : Value) (hbv : RdB D w bv a.b) (hlv : DgIs D w lv a.l) (hD : ∀ k, D k → k < w.heap.size ∧ ¬ NB nb hb s.n qv k) (hW : Wg s (L + 1)) (hk : a.kind = 8) :
    Calls Try.prog 18 #[.pointer (some ⟨bo, 0, none⟩), actV a bv lv] w fun e w' => e = .returned (.tuple #[]) ∧ NetP bb w nb hb s.n qv (Nt.act s a) w' := by
  have HW := Lib.hid hW
  have HD := Lib.hid hD
  have HA := Lib.hid ha
  have HK0 := Lib.hid hk
  obtain ⟨A2, c2, rfl, hbc, hbl, _, _⟩ := id hbv
  obtain ⟨A1, c1, rfl, hlc, hll, _⟩ := id hlv
  obtain ⟨bn, hbn⟩ : ∃ bn, bn = a.b.length := ⟨_, rfl⟩
  obtain ⟨ln, hln⟩ : ∃ ln, ln = a.l.length := ⟨_, rfl⟩
  have HLN := Lib.hid hln
  rw [← hbn] at hbc hbl hbv ⊢
  rw [← hln] at hlc hll hlv ⊢
  have HW1 : Hid (∀ w1 g1, w1 = w.alloc (.cells #[.int .i64 a.kind, .int .i64 a.host, .int .i64 a.n, .int .i64 a.m, .int .u32 a.mask, .slice A2 bn c2, .slice A1 ln c1] 52) → g1 = w.heap.size → IsNet bb w1 nb hb qv s ∧ w1.cell? ⟨g1, 0, none⟩ = some (.int .i64 a.kind) ∧ w1.cell? ⟨g1, 1, none⟩ = some (.int .i64 a.host) ∧ w1.cell? ⟨g1, 2, none⟩ = some (.int .i64 a.n) ∧ w1.cell? ⟨g1, 3, none⟩ = some (.int .i64 a.m) ∧ w1.cell? ⟨g1, 4, none⟩ = some (.int .u32 a.mask) ∧ w1.cell? ⟨g1, 5, none⟩ = some (.slice A2 bn c2) ∧ w1.cell? ⟨g1, 6, none⟩ = some (.slice A1 ln c1) ∧ w1.cell? ⟨bo, 0, none⟩ = some (.pointer (some ⟨nb, 0, none⟩)) ∧ Below w.heap.size w w1 ∧ RdB D w1 (.slice A2 bn c2) a.b ∧ DgIs D w1 (.slice A1 ln c1) a.l) := Lib.hid (by
    rintro w1 g1 rfl rfl
    have hB : Below w.heap.size w (w.alloc (.cells #[.int .i64 a.kind, .int .i64 a.host, .int .i64 a.n, .int .i64 a.m, .int .u32 a.mask, .slice A2 bn c2, .slice A1 ln c1] 52)) := (Below.refl _ _).alloc (Nat.le_refl _) _
    refine ⟨h.below hB, ?_, ?_, ?_, ?_, ?_, ?_, ?_, (hB.cell (World.block_lt_of_cell? w _ hbo)).trans hbo, hB, hbv.keep (fun k hk => hB.block k (hD k hk).1), hlv.keep (fun k hk => hB.block k (hD k hk).1)⟩ <;> (rw [World.cell?_alloc_at _ _ _ _ rfl]; rfl))
  have q0 := hbo
  unfold actV
  clear h hbv hlv hD hW ha hbo hbn hln
  rw [hk] at HW1 ⊢
  clear hk
  go_enter Try.func18, Try.ntmps18
  go_upto_region 1 with (fail)
  generalize hw1 : w.alloc (.cells #[.int .i64 8, .int .i64 a.host, .int .i64 a.n, .int .i64 a.m, .int .u32 a.mask, .slice A2 bn c2, .slice A1 ln c1] 52) = w1
  generalize hg1 : w.heap.size = g1
  obtain ⟨hI, c0, c1', c2', c3', c4', c5', c6', p0, hal, hbs, hls⟩ := HW1.out w1 g1 hw1.symm hg1.symm
  have HI0 := Lib.hid hI
  have HI := Lib.hid hI.drew
  have HAL0 := Lib.hid hal
  have HAL := Lib.hid hal.drew
  have HB := Lib.hid (show RdB D w1.drew _ _ from hbs)
  have HL : Hid (DgIs D w1.drew (.slice A1 ln c1) a.l) := Lib.hid (show DgIs D w1.drew _ _ from hls)
  clear hI hal hbs hls HW1 hw1 hg1 q0
  go_upto_region 19 with (fail)
  refine start_ (n := 9) (S := fun w' => w' = w1.drew) (ds := [8]) #[false, false, false, false, false, false, false, false, false] (by kernel_rfl) rfl rfl rfl (fun hHeld => ?_)
  refine pure_ (i := 0) (N := some 89) (v := ?_) (a' := ?_) #[true, false, false, false, false, false, false, false, false] rfl rfl (by kernel_rfl) (fun _ _ _ h => h) (Or.inl ⟨by rfl, ?_⟩) ?_ ?_
  rotate_left
  · intro w'
    go_simp
    with_reducible rfl
  rotate_left
  · simp only [Act.put, List.setIfInBounds_toArray, List.set_cons_zero, List.set_cons_succ, i64_w, i32_w]
    rfl
  refine pure_ (i := 1) (N := some 90) (v := ?_) (a' := ?_) #[true, true, false, false, false, false, false, false, false] rfl rfl (by kernel_rfl) (fun _ _ _ h => h) (Or.inl ⟨by rfl, ?_⟩) ?_ ?_
  rotate_left
  · intro w'
    go_simp
    with_reducible rfl
  rotate_left
  · simp only [Act.put, List.setIfInBounds_toArray, List.set_cons_zero, List.set_cons_succ, i64_w, i32_w]
    rfl
  refine pure_ (i := 2) (N := some 91) (v := ?_) (a' := ?_) #[true, true, true, false, false, false, false, false, false] rfl rfl (by kernel_rfl) (fun _ _ _ h => h) (Or.inl ⟨by rfl, ?_⟩) ?_ ?_
  rotate_left
  · intro w'
    go_simp
    with_reducible rfl
  rotate_left
  · simp only [Act.put, List.setIfInBounds_toArray, List.set_cons_zero, List.set_cons_succ, i64_w, i32_w]
    rfl
  refine take_ (i := 3) (N := some 92) (v := ?_) (a' := ?_) #[true, true, true, true, false, false, false, false, false] rfl rfl (by kernel_rfl) (fun _ _ _ h => h) (Or.inl ⟨by rfl, ?_⟩) hHeld ?_ ?_
  rotate_left
  · rintro w' rfl
    go_simp
    with_reducible rfl
  rotate_left
  · simp only [Act.put, List.setIfInBounds_toArray, List.set_cons_zero, List.set_cons_succ, i64_w, i32_w]
    rfl
  refine pure_ (i := 4) (N := some 93) (v := ?_) (a' := ?_) #[true, true, true, true, true, false, false, false, false] rfl rfl (by kernel_rfl) (fun _ _ _ h => h) (Or.inl ⟨by rfl, ?_⟩) ?_ ?_
  rotate_left
  · intro w'
    go_simp
    with_reducible rfl
  rotate_left
  · simp only [Act.put, List.setIfInBounds_toArray, List.set_cons_zero, List.set_cons_succ, i64_w, i32_w]
    rfl
  refine take_ (i := 5) (N := some 94) (v := ?_) (a' := ?_) #[true, true, true, true, true, true, false, false, false] rfl rfl (by kernel_rfl) (fun _ _ _ h => h) (Or.inl ⟨by rfl, ?_⟩) hHeld ?_ ?_
  rotate_left
  · rintro w' rfl
    go_simp
    with_reducible rfl
  rotate_left
  · simp only [Act.put, List.setIfInBounds_toArray, List.set_cons_zero, List.set_cons_succ, i64_w, i32_w]
    rfl
  refine pure_ (i := 6) (N := some 95) (v := ?_) (a' := ?_) #[true, true, true, true, true, true, true, false, false] rfl rfl (by kernel_rfl) (fun _ _ _ h => h) (Or.inl ⟨by rfl, ?_⟩) ?_ ?_
  rotate_left
  · intro w'
    go_simp
    with_reducible rfl
  rotate_left
  · simp only [Act.put, List.setIfInBounds_toArray, List.set_cons_zero, List.set_cons_succ, i64_w, i32_w]
    rfl
  refine take_ (i := 7) (N := some 96) (v := ?_) (a' := ?_) #[true, true, true, true, true, true, true, true, false] rfl rfl (by kernel_rfl) (fun _ _ _ h => h) (Or.inl ⟨by rfl, ?_⟩) hHeld ?_ ?_
  rotate_left
  · rintro w' rfl
    go_simp
    with_reducible rfl
  rotate_left
  · simp only [Act.put, List.setIfInBounds_toArray, List.set_cons_zero, List.set_cons_succ, i64_w, i32_w]
    rfl
  refine last_ (i := 8) (N := some 97) #[true, true, true, true, true, true, true, true, true] rfl rfl (by kernel_rfl) (by decide) (fun K hK => ?_)
  refine goes_ Try.func28 (by kernel_rfl) rfl #[.pointer (some ⟨nb, 0, none⟩), .int .i64 a.host, .int .i64 a.n] (by rfl) rfl rfl (by simp [Act.eval]) ?_
  refine (drop_calls HI.out a.host a.n).mono ?_
  rintro e w3 ⟨ev, rfl, hev, hN⟩
  have HNP := Lib.hid hN
  clear hN hev
  refine ⟨_, rfl, ?_⟩
  refine hK.out _ _ ?_
  clear hK K hHeld
  refine norm_ (a' := ?_) ?_ ?_
  rotate_left
  · show Act.put _ (some 97) _ = _
    simp only [Act.put, List.setIfInBounds_toArray, List.set_cons_zero, List.set_cons_succ, i64_w, i32_w]
    rfl
  refine done_ (by kernel_rfl) ?_
  go_wp2
  (try simp only [Exit.inBlock, Exit.then])
  refine bodyPost_end (results_none rfl _ _ _) rfl ?_
  exact ⟨rfl, by rw [act_8 s a HK0.out]; exact HNP.out.from_ HAL.out⟩
set_option maxHeartbeats 4000000 in
set_option maxRecDepth 100000 in
theorem calls_9 {bb : Nat → Prop} {w : World} {nb hb : Nat} {qv : Nat → Value} {s : Nt} {bo L : Nat} {D : Nat → Prop} (h : IsNet bb w nb hb qv s) (hbo : w.cell? ⟨bo, 0, none⟩ = some (.pointer (some ⟨nb, 0, none⟩))) (a : AV) (ha : a.Ok) (bv lv : Value) (hbv : RdB D w bv a.b) (hlv : DgIs D w lv a.l) (hD : ∀ k, D k → k < w.heap.size ∧ ¬ NB nb hb s.n qv k) (hW : Wg s (L + 1)) (hk : a.kind = 9) :
    Calls Try.prog 18 #[.pointer (some ⟨bo, 0, none⟩), actV a bv lv] w fun e w' => e = .returned (.tuple #[]) ∧ NetP bb w nb hb s.n qv (Nt.act s a) w' := by
  have HW := Lib.hid hW
  have HD := Lib.hid hD
  have HA := Lib.hid ha
  have HK0 := Lib.hid hk
  obtain ⟨A2, c2, rfl, hbc, hbl, _, _⟩ := id hbv
  obtain ⟨A1, c1, rfl, hlc, hll, _⟩ := id hlv
  obtain ⟨bn, hbn⟩ : ∃ bn, bn = a.b.length := ⟨_, rfl⟩
  obtain ⟨ln, hln⟩ : ∃ ln, ln = a.l.length := ⟨_, rfl⟩
  have HLN := Lib.hid hln
  rw [← hbn] at hbc hbl hbv ⊢
  rw [← hln] at hlc hll hlv ⊢
  have HW1 : Hid (∀ w1 g1, w1 = w.alloc (.cells #[.int .i64 a.kind, .int .i64 a.host, .int .i64 a.n, .int .i64 a.m, .int .u32 a.mask, .slice A2 bn c2, .slice A1 ln c1] 52) → g1 = w.heap.size → IsNet bb w1 nb hb qv s ∧ w1.cell? ⟨g1, 0, none⟩ = some (.int .i64 a.kind) ∧ w1.cell? ⟨g1, 1, none⟩ = some (.int .i64 a.host) ∧ w1.cell? ⟨g1, 2, none⟩ = some (.int .i64 a.n) ∧ w1.cell? ⟨g1, 3, none⟩ = some (.int .i64 a.m) ∧ w1.cell? ⟨g1, 4, none⟩ = some (.int .u32 a.mask) ∧ w1.cell? ⟨g1, 5, none⟩ = some (.slice A2 bn c2) ∧ w1.cell? ⟨g1, 6, none⟩ = some (.slice A1 ln c1) ∧ w1.cell? ⟨bo, 0, none⟩ = some (.pointer (some ⟨nb, 0, none⟩)) ∧ Below w.heap.size w w1 ∧ RdB D w1 (.slice A2 bn c2) a.b ∧ DgIs D w1 (.slice A1 ln c1) a.l) := Lib.hid (by
    rintro w1 g1 rfl rfl
    have hB : Below w.heap.size w (w.alloc (.cells #[.int .i64 a.kind, .int .i64 a.host, .int .i64 a.n, .int .i64 a.m, .int .u32 a.mask, .slice A2 bn c2, .slice A1 ln c1] 52)) := (Below.refl _ _).alloc (Nat.le_refl _) _
    refine ⟨h.below hB, ?_, ?_, ?_, ?_, ?_, ?_, ?_, (hB.cell (World.block_lt_of_cell? w _ hbo)).trans hbo, hB, hbv.keep (fun k hk => hB.block k (hD k hk).1), hlv.keep (fun k hk => hB.block k (hD k hk).1)⟩ <;> (rw [World.cell?_alloc_at _ _ _ _ rfl]; rfl))
  have q0 := hbo
  unfold actV
  clear h hbv hlv hD hW ha hbo hbn hln
  rw [hk] at HW1 ⊢
  clear hk
  go_enter Try.func18, Try.ntmps18
  go_upto_region 1 with (fail)
  generalize hw1 : w.alloc (.cells #[.int .i64 9, .int .i64 a.host, .int .i64 a.n, .int .i64 a.m, .int .u32 a.mask, .slice A2 bn c2, .slice A1 ln c1] 52) = w1
  generalize hg1 : w.heap.size = g1
  obtain ⟨hI, c0, c1', c2', c3', c4', c5', c6', p0, hal, hbs, hls⟩ := HW1.out w1 g1 hw1.symm hg1.symm
  have HI0 := Lib.hid hI
  have HI := Lib.hid hI.drew
  have HAL0 := Lib.hid hal
  have HAL := Lib.hid hal.drew
  have HB := Lib.hid (show RdB D w1.drew _ _ from hbs)
  have HL : Hid (DgIs D w1.drew (.slice A1 ln c1) a.l) := Lib.hid (show DgIs D w1.drew _ _ from hls)
  clear hI hal hbs hls HW1 hw1 hg1 q0
  go_upto_region 21 with (fail)
  refine start_ (n := 9) (S := fun w' => w' = w1.drew) (ds := [8]) #[false, false, false, false, false, false, false, false, false] (by kernel_rfl) rfl rfl rfl (fun hHeld => ?_)
  refine pure_ (i := 0) (N := some 100) (v := ?_) (a' := ?_) #[true, false, false, false, false, false, false, false, false] rfl rfl (by kernel_rfl) (fun _ _ _ h => h) (Or.inl ⟨by rfl, ?_⟩) ?_ ?_
  rotate_left
  · intro w'
    go_simp
    with_reducible rfl
  rotate_left
  · simp only [Act.put, List.setIfInBounds_toArray, List.set_cons_zero, List.set_cons_succ, i64_w, i32_w]
    rfl
  refine pure_ (i := 1) (N := some 101) (v := ?_) (a' := ?_) #[true, true, false, false, false, false, false, false, false] rfl rfl (by kernel_rfl) (fun _ _ _ h => h) (Or.inl ⟨by rfl, ?_⟩) ?_ ?_
  rotate_left
  · intro w'
    go_simp
    with_reducible rfl
  rotate_left
  · simp only [Act.put, List.setIfInBounds_toArray, List.set_cons_zero, List.set_cons_succ, i64_w, i32_w]
    rfl
  refine pure_ (i := 2) (N := some 102) (v := ?_) (a' := ?_) #[true, true, true, false, false, false, false, false, false] rfl rfl (by kernel_rfl) (fun _ _ _ h => h) (Or.inl ⟨by rfl, ?_⟩) ?_ ?_
  rotate_left
  · intro w'
    go_simp
    with_reducible rfl
  rotate_left
  · simp only [Act.put, List.setIfInBounds_toArray, List.set_cons_zero, List.set_cons_succ, i64_w, i32_w]
    rfl
  refine take_ (i := 3) (N := some 103) (v := ?_) (a' := ?_) #[true, true, true, true, false, false, false, false, false] rfl rfl (by kernel_rfl) (fun _ _ _ h => h) (Or.inl ⟨by rfl, ?_⟩) hHeld ?_ ?_
  rotate_left
  · rintro w' rfl
    go_simp
    with_reducible rfl
  rotate_left
  · simp only [Act.put, List.setIfInBounds_toArray, List.set_cons_zero, List.set_cons_succ, i64_w, i32_w]
    rfl
  refine pure_ (i := 4) (N := some 104) (v := ?_) (a' := ?_) #[true, true, true, true, true, false, false, false, false] rfl rfl (by kernel_rfl) (fun _ _ _ h => h) (Or.inl ⟨by rfl, ?_⟩) ?_ ?_
  rotate_left
  · intro w'
    go_simp
    with_reducible rfl
  rotate_left
  · simp only [Act.put, List.setIfInBounds_toArray, List.set_cons_zero, List.set_cons_succ, i64_w, i32_w]
    rfl
  refine take_ (i := 5) (N := some 105) (v := ?_) (a' := ?_) #[true, true, true, true, true, true, false, false, false] rfl rfl (by kernel_rfl) (fun _ _ _ h => h) (Or.inl ⟨by rfl, ?_⟩) hHeld ?_ ?_
  rotate_left
  · rintro w' rfl
    go_simp
    with_reducible rfl
  rotate_left
  · simp only [Act.put, List.setIfInBounds_toArray, List.set_cons_zero, List.set_cons_succ, i64_w, i32_w]
    rfl
  refine pure_ (i := 6) (N := some 106) (v := ?_) (a' := ?_) #[true, true, true, true, true, true, true, false, false] rfl rfl (by kernel_rfl) (fun _ _ _ h => h) (Or.inl ⟨by rfl, ?_⟩) ?_ ?_
  rotate_left
  · intro w'
    go_simp
    with_reducible rfl
  rotate_left
  · simp only [Act.put, List.setIfInBounds_toArray, List.set_cons_zero, List.set_cons_succ, i64_w, i32_w]
    rfl
  refine take_ (i := 7) (N := some 107) (v := ?_) (a' := ?_) #[true, true, true, true, true, true, true, true, false] rfl rfl (by kernel_rfl) (fun _ _ _ h => h) (Or.inl ⟨by rfl, ?_⟩) hHeld ?_ ?_
  rotate_left
  · rintro w' rfl
    go_simp
    with_reducible rfl
  rotate_left
  · simp only [Act.put, List.setIfInBounds_toArray, List.set_cons_zero, List.set_cons_succ, i64_w, i32_w]
    rfl
  refine last_ (i := 8) (N := some 108) #[true, true, true, true, true, true, true, true, true] rfl rfl (by kernel_rfl) (by decide) (fun K hK => ?_)
  refine goes_ Try.func29 (by kernel_rfl) rfl #[.pointer (some ⟨nb, 0, none⟩), .int .i64 a.host, .int .i64 a.n] (by rfl) rfl rfl (by simp [Act.eval]) ?_
  refine (double_calls HI.out a.host a.n (fun k hk => by have := HW.out.wf.q k hk; omega)).mono ?_
  rintro e w3 ⟨ev, rfl, hev, hN⟩
  have HNP := Lib.hid hN
  clear hN hev
  refine ⟨_, rfl, ?_⟩
  refine hK.out _ _ ?_
  clear hK K hHeld
  refine norm_ (a' := ?_) ?_ ?_
  rotate_left
  · show Act.put _ (some 108) _ = _
    simp only [Act.put, List.setIfInBounds_toArray, List.set_cons_zero, List.set_cons_succ, i64_w, i32_w]
    rfl
  refine done_ (by kernel_rfl) ?_
  go_wp2
  (try simp only [Exit.inBlock, Exit.then])
  refine bodyPost_end (results_none rfl _ _ _) rfl ?_
  exact ⟨rfl, by rw [act_9 s a HK0.out]; exact HNP.out.from_ HAL.out⟩
set_option maxHeartbeats 4000000 in
set_option maxRecDepth 100000 in
theorem calls_10 {bb : Nat → Prop} {w : World} {nb hb : Nat} {qv : Nat → Value} {s : Nt} {bo L : Nat} {D : Nat → Prop} (h : IsNet bb w nb hb qv s) (hbo : w.cell? ⟨bo, 0, none⟩ = some (.pointer (some ⟨nb, 0, none⟩))) (a : AV) (ha : a.Ok) (bv lv : Value) (hbv : RdB D w bv a.b) (hlv : DgIs D w lv a.l) (hD : ∀ k, D k → k < w.heap.size ∧ ¬ NB nb hb s.n qv k) (hW : Wg s (L + 1)) (hk : a.kind = 10) :
    Calls Try.prog 18 #[.pointer (some ⟨bo, 0, none⟩), actV a bv lv] w fun e w' => e = .returned (.tuple #[]) ∧ NetP bb w nb hb s.n qv (Nt.act s a) w' := by
  have HW := Lib.hid hW
  have HD := Lib.hid hD
  have HA := Lib.hid ha
  have HK0 := Lib.hid hk
  obtain ⟨A2, c2, rfl, hbc, hbl, _, _⟩ := id hbv
  obtain ⟨A1, c1, rfl, hlc, hll, _⟩ := id hlv
  obtain ⟨bn, hbn⟩ : ∃ bn, bn = a.b.length := ⟨_, rfl⟩
  obtain ⟨ln, hln⟩ : ∃ ln, ln = a.l.length := ⟨_, rfl⟩
  have HLN := Lib.hid hln
  rw [← hbn] at hbc hbl hbv ⊢
  rw [← hln] at hlc hll hlv ⊢
  have HW1 : Hid (∀ w1 g1, w1 = w.alloc (.cells #[.int .i64 a.kind, .int .i64 a.host, .int .i64 a.n, .int .i64 a.m, .int .u32 a.mask, .slice A2 bn c2, .slice A1 ln c1] 52) → g1 = w.heap.size → IsNet bb w1 nb hb qv s ∧ w1.cell? ⟨g1, 0, none⟩ = some (.int .i64 a.kind) ∧ w1.cell? ⟨g1, 1, none⟩ = some (.int .i64 a.host) ∧ w1.cell? ⟨g1, 2, none⟩ = some (.int .i64 a.n) ∧ w1.cell? ⟨g1, 3, none⟩ = some (.int .i64 a.m) ∧ w1.cell? ⟨g1, 4, none⟩ = some (.int .u32 a.mask) ∧ w1.cell? ⟨g1, 5, none⟩ = some (.slice A2 bn c2) ∧ w1.cell? ⟨g1, 6, none⟩ = some (.slice A1 ln c1) ∧ w1.cell? ⟨bo, 0, none⟩ = some (.pointer (some ⟨nb, 0, none⟩)) ∧ Below w.heap.size w w1 ∧ RdB D w1 (.slice A2 bn c2) a.b ∧ DgIs D w1 (.slice A1 ln c1) a.l) := Lib.hid (by
    rintro w1 g1 rfl rfl
    have hB : Below w.heap.size w (w.alloc (.cells #[.int .i64 a.kind, .int .i64 a.host, .int .i64 a.n, .int .i64 a.m, .int .u32 a.mask, .slice A2 bn c2, .slice A1 ln c1] 52)) := (Below.refl _ _).alloc (Nat.le_refl _) _
    refine ⟨h.below hB, ?_, ?_, ?_, ?_, ?_, ?_, ?_, (hB.cell (World.block_lt_of_cell? w _ hbo)).trans hbo, hB, hbv.keep (fun k hk => hB.block k (hD k hk).1), hlv.keep (fun k hk => hB.block k (hD k hk).1)⟩ <;> (rw [World.cell?_alloc_at _ _ _ _ rfl]; rfl))
  have q0 := hbo
  unfold actV
  clear h hbv hlv hD hW ha hbo hbn hln
  rw [hk] at HW1 ⊢
  clear hk
  go_enter Try.func18, Try.ntmps18
  go_upto_region 1 with (fail)
  generalize hw1 : w.alloc (.cells #[.int .i64 10, .int .i64 a.host, .int .i64 a.n, .int .i64 a.m, .int .u32 a.mask, .slice A2 bn c2, .slice A1 ln c1] 52) = w1
  generalize hg1 : w.heap.size = g1
  obtain ⟨hI, c0, c1', c2', c3', c4', c5', c6', p0, hal, hbs, hls⟩ := HW1.out w1 g1 hw1.symm hg1.symm
  have HI0 := Lib.hid hI
  have HI := Lib.hid hI.drew
  have HAL0 := Lib.hid hal
  have HAL := Lib.hid hal.drew
  have HB := Lib.hid (show RdB D w1.drew _ _ from hbs)
  have HL : Hid (DgIs D w1.drew (.slice A1 ln c1) a.l) := Lib.hid (show DgIs D w1.drew _ _ from hls)
  clear hI hal hbs hls HW1 hw1 hg1 q0
  go_upto_region 23 with (fail)
  refine start_ (n := 11) (S := fun w' => w' = w1.drew) (ds := [10]) #[false, false, false, false, false, false, false, false, false, false, false] (by kernel_rfl) rfl rfl rfl (fun hHeld => ?_)
  refine pure_ (i := 0) (N := some 111) (v := ?_) (a' := ?_) #[true, false, false, false, false, false, false, false, false, false, false] rfl rfl (by kernel_rfl) (fun _ _ _ h => h) (Or.inl ⟨by rfl, ?_⟩) ?_ ?_
  rotate_left
  · intro w'
    go_simp
    with_reducible rfl
  rotate_left
  · simp only [Act.put, List.setIfInBounds_toArray, List.set_cons_zero, List.set_cons_succ, i64_w, i32_w]
    rfl
  refine pure_ (i := 1) (N := some 112) (v := ?_) (a' := ?_) #[true, true, false, false, false, false, false, false, false, false, false] rfl rfl (by kernel_rfl) (fun _ _ _ h => h) (Or.inl ⟨by rfl, ?_⟩) ?_ ?_
  rotate_left
  · intro w'
    go_simp
    with_reducible rfl
  rotate_left
  · simp only [Act.put, List.setIfInBounds_toArray, List.set_cons_zero, List.set_cons_succ, i64_w, i32_w]
    rfl
  refine pure_ (i := 2) (N := some 113) (v := ?_) (a' := ?_) #[true, true, true, false, false, false, false, false, false, false, false] rfl rfl (by kernel_rfl) (fun _ _ _ h => h) (Or.inl ⟨by rfl, ?_⟩) ?_ ?_
  rotate_left
  · intro w'
    go_simp
    with_reducible rfl
  rotate_left
  · simp only [Act.put, List.setIfInBounds_toArray, List.set_cons_zero, List.set_cons_succ, i64_w, i32_w]
    rfl
  refine take_ (i := 3) (N := some 114) (v := ?_) (a' := ?_) #[true, true, true, true, false, false, false, false, false, false, false] rfl rfl (by kernel_rfl) (fun _ _ _ h => h) (Or.inl ⟨by rfl, ?_⟩) hHeld ?_ ?_
  rotate_left
  · rintro w' rfl
    go_simp
    with_reducible rfl
  rotate_left
  · simp only [Act.put, List.setIfInBounds_toArray, List.set_cons_zero, List.set_cons_succ, i64_w, i32_w]
    rfl
  refine pure_ (i := 4) (N := some 115) (v := ?_) (a' := ?_) #[true, true, true, true, true, false, false, false, false, false, false] rfl rfl (by kernel_rfl) (fun _ _ _ h => h) (Or.inl ⟨by rfl, ?_⟩) ?_ ?_
  rotate_left
  · intro w'
    go_simp
    with_reducible rfl
  rotate_left
  · simp only [Act.put, List.setIfInBounds_toArray, List.set_cons_zero, List.set_cons_succ, i64_w, i32_w]
    rfl
  refine take_ (i := 5) (N := some 116) (v := ?_) (a' := ?_) #[true, true, true, true, true, true, false, false, false, false, false] rfl rfl (by kernel_rfl) (fun _ _ _ h => h) (Or.inl ⟨by rfl, ?_⟩) hHeld ?_ ?_
  rotate_left
  · rintro w' rfl
    go_simp
    with_reducible rfl
  rotate_left
  · simp only [Act.put, List.setIfInBounds_toArray, List.set_cons_zero, List.set_cons_succ, i64_w, i32_w]
    rfl
  refine pure_ (i := 6) (N := some 117) (v := ?_) (a' := ?_) #[true, true, true, true, true, true, true, false, false, false, false] rfl rfl (by kernel_rfl) (fun _ _ _ h => h) (Or.inl ⟨by rfl, ?_⟩) ?_ ?_
  rotate_left
  · intro w'
    go_simp
    with_reducible rfl
  rotate_left
  · simp only [Act.put, List.setIfInBounds_toArray, List.set_cons_zero, List.set_cons_succ, i64_w, i32_w]
    rfl
  refine take_ (i := 7) (N := some 118) (v := ?_) (a' := ?_) #[true, true, true, true, true, true, true, true, false, false, false] rfl rfl (by kernel_rfl) (fun _ _ _ h => h) (Or.inl ⟨by rfl, ?_⟩) hHeld ?_ ?_
  rotate_left
  · rintro w' rfl
    go_simp
    with_reducible rfl
  rotate_left
  · simp only [Act.put, List.setIfInBounds_toArray, List.set_cons_zero, List.set_cons_succ, i64_w, i32_w]
    rfl
  refine pure_ (i := 8) (N := some 119) (v := ?_) (a' := ?_) #[true, true, true, true, true, true, true, true, true, false, false] rfl rfl (by kernel_rfl) (fun _ _ _ h => h) (Or.inl ⟨by rfl, ?_⟩) ?_ ?_
  rotate_left
  · intro w'
    go_simp
    with_reducible rfl
  rotate_left
  · simp only [Act.put, List.setIfInBounds_toArray, List.set_cons_zero, List.set_cons_succ, i64_w, i32_w]
    rfl
  refine take_ (i := 9) (N := some 120) (v := ?_) (a' := ?_) #[true, true, true, true, true, true, true, true, true, true, false] rfl rfl (by kernel_rfl) (fun _ _ _ h => h) (Or.inl ⟨by rfl, ?_⟩) hHeld ?_ ?_
  rotate_left
  · rintro w' rfl
    go_simp
    with_reducible rfl
  rotate_left
  · simp only [Act.put, List.setIfInBounds_toArray, List.set_cons_zero, List.set_cons_succ, i64_w, i32_w]
    rfl
  refine last_ (i := 10) (N := some 121) #[true, true, true, true, true, true, true, true, true, true, true] rfl rfl (by kernel_rfl) (by decide) (fun K hK => ?_)
  refine goes_ Try.func30 (by kernel_rfl) rfl #[.pointer (some ⟨nb, 0, none⟩), .int .i64 a.host, .int .i64 a.n, .int .i64 a.m] (by rfl) rfl rfl (by simp [Act.eval]) ?_
  refine (delay_calls HI.out a.host a.n a.m (fun k hk x hx => ⟨(HW.out.due k hk x hx).1, by have := (HW.out.due k hk x hx).2; omega⟩)).mono ?_
  rintro e w3 ⟨ev, rfl, hev, hN⟩
  have HNP := Lib.hid hN
  clear hN hev
  refine ⟨_, rfl, ?_⟩
  refine hK.out _ _ ?_
  clear hK K hHeld
  refine norm_ (a' := ?_) ?_ ?_
  rotate_left
  · show Act.put _ (some 121) _ = _
    simp only [Act.put, List.setIfInBounds_toArray, List.set_cons_zero, List.set_cons_succ, i64_w, i32_w]
    rfl
  refine done_ (by kernel_rfl) ?_
  go_wp2
  (try simp only [Exit.inBlock, Exit.then])
  refine bodyPost_end (results_none rfl _ _ _) rfl ?_
  exact ⟨rfl, by rw [act_10 s a HK0.out]; exact HNP.out.from_ HAL.out⟩
set_option maxHeartbeats 4000000 in
set_option maxRecDepth 100000 in
theorem calls_11 {bb : Nat → Prop} {w : World} {nb hb : Nat} {qv : Nat → Value} {s : Nt} {bo L : Nat} {D : Nat → Prop} (h : IsNet bb w nb hb qv s) (hbo : w.cell? ⟨bo, 0, none⟩ = some (.pointer (some ⟨nb, 0, none⟩))) (a : AV) (ha : a.Ok) (bv lv : Value) (hbv : RdB D w bv a.b) (hlv : DgIs D w lv a.l) (hD : ∀ k, D k → k < w.heap.size ∧ ¬ NB nb hb s.n qv k) (hW : Wg s (L + 1)) (hk : a.kind = 11) :
    Calls Try.prog 18 #[.pointer (some ⟨bo, 0, none⟩), actV a bv lv] w fun e w' => e = .returned (.tuple #[]) ∧ NetP bb w nb hb s.n qv (Nt.act s a) w' := by
  have HW := Lib.hid hW
  have HD := Lib.hid hD
  have HA := Lib.hid ha
  have HK0 := Lib.hid hk
  obtain ⟨A2, c2, rfl, hbc, hbl, _, _⟩ := id hbv
  obtain ⟨A1, c1, rfl, hlc, hll, _⟩ := id hlv
  obtain ⟨bn, hbn⟩ : ∃ bn, bn = a.b.length := ⟨_, rfl⟩
  obtain ⟨ln, hln⟩ : ∃ ln, ln = a.l.length := ⟨_, rfl⟩
  have HLN := Lib.hid hln
  rw [← hbn] at hbc hbl hbv ⊢
  rw [← hln] at hlc hll hlv ⊢
  have HW1 : Hid (∀ w1 g1, w1 = w.alloc (.cells #[.int .i64 a.kind, .int .i64 a.host, .int .i64 a.n, .int .i64 a.m, .int .u32 a.mask, .slice A2 bn c2, .slice A1 ln c1] 52) → g1 = w.heap.size → IsNet bb w1 nb hb qv s ∧ w1.cell? ⟨g1, 0, none⟩ = some (.int .i64 a.kind) ∧ w1.cell? ⟨g1, 1, none⟩ = some (.int .i64 a.host) ∧ w1.cell? ⟨g1, 2, none⟩ = some (.int .i64 a.n) ∧ w1.cell? ⟨g1, 3, none⟩ = some (.int .i64 a.m) ∧ w1.cell? ⟨g1, 4, none⟩ = some (.int .u32 a.mask) ∧ w1.cell? ⟨g1, 5, none⟩ = some (.slice A2 bn c2) ∧ w1.cell? ⟨g1, 6, none⟩ = some (.slice A1 ln c1) ∧ w1.cell? ⟨bo, 0, none⟩ = some (.pointer (some ⟨nb, 0, none⟩)) ∧ Below w.heap.size w w1 ∧ RdB D w1 (.slice A2 bn c2) a.b ∧ DgIs D w1 (.slice A1 ln c1) a.l) := Lib.hid (by
    rintro w1 g1 rfl rfl
    have hB : Below w.heap.size w (w.alloc (.cells #[.int .i64 a.kind, .int .i64 a.host, .int .i64 a.n, .int .i64 a.m, .int .u32 a.mask, .slice A2 bn c2, .slice A1 ln c1] 52)) := (Below.refl _ _).alloc (Nat.le_refl _) _
    refine ⟨h.below hB, ?_, ?_, ?_, ?_, ?_, ?_, ?_, (hB.cell (World.block_lt_of_cell? w _ hbo)).trans hbo, hB, hbv.keep (fun k hk => hB.block k (hD k hk).1), hlv.keep (fun k hk => hB.block k (hD k hk).1)⟩ <;> (rw [World.cell?_alloc_at _ _ _ _ rfl]; rfl))
  have q0 := hbo
  unfold actV
  clear h hbv hlv hD hW ha hbo hbn hln
  rw [hk] at HW1 ⊢
  clear hk
  go_enter Try.func18, Try.ntmps18
  go_upto_region 1 with (fail)
  generalize hw1 : w.alloc (.cells #[.int .i64 11, .int .i64 a.host, .int .i64 a.n, .int .i64 a.m, .int .u32 a.mask, .slice A2 bn c2, .slice A1 ln c1] 52) = w1
  generalize hg1 : w.heap.size = g1
  obtain ⟨hI, c0, c1', c2', c3', c4', c5', c6', p0, hal, hbs, hls⟩ := HW1.out w1 g1 hw1.symm hg1.symm
  have HI0 := Lib.hid hI
  have HI := Lib.hid hI.drew
  have HAL0 := Lib.hid hal
  have HAL := Lib.hid hal.drew
  have HB := Lib.hid (show RdB D w1.drew _ _ from hbs)
  have HL : Hid (DgIs D w1.drew (.slice A1 ln c1) a.l) := Lib.hid (show DgIs D w1.drew _ _ from hls)
  clear hI hal hbs hls HW1 hw1 hg1 q0
  go_upto_region 25 with (fail)
  refine start_ (n := 13) (S := fun w' => w' = w1.drew) (ds := [12]) #[false, false, false, false, false, false, false, false, false, false, false, false, false] (by kernel_rfl) rfl rfl rfl (fun hHeld => ?_)
  refine pure_ (i := 0) (N := some 124) (v := ?_) (a' := ?_) #[true, false, false, false, false, false, false, false, false, false, false, false, false] rfl rfl (by kernel_rfl) (fun _ _ _ h => h) (Or.inl ⟨by rfl, ?_⟩) ?_ ?_
  rotate_left
  · intro w'
    go_simp
    with_reducible rfl
  rotate_left
  · simp only [Act.put, List.setIfInBounds_toArray, List.set_cons_zero, List.set_cons_succ, i64_w, i32_w]
    rfl
  refine pure_ (i := 1) (N := some 125) (v := ?_) (a' := ?_) #[true, true, false, false, false, false, false, false, false, false, false, false, false] rfl rfl (by kernel_rfl) (fun _ _ _ h => h) (Or.inl ⟨by rfl, ?_⟩) ?_ ?_
  rotate_left
  · intro w'
    go_simp
    with_reducible rfl
  rotate_left
  · simp only [Act.put, List.setIfInBounds_toArray, List.set_cons_zero, List.set_cons_succ, i64_w, i32_w]
    rfl
  refine pure_ (i := 2) (N := some 126) (v := ?_) (a' := ?_) #[true, true, true, false, false, false, false, false, false, false, false, false, false] rfl rfl (by kernel_rfl) (fun _ _ _ h => h) (Or.inl ⟨by rfl, ?_⟩) ?_ ?_
  rotate_left
  · intro w'
    go_simp
    with_reducible rfl
  rotate_left
  · simp only [Act.put, List.setIfInBounds_toArray, List.set_cons_zero, List.set_cons_succ, i64_w, i32_w]
    rfl
  refine take_ (i := 3) (N := some 127) (v := ?_) (a' := ?_) #[true, true, true, true, false, false, false, false, false, false, false, false, false] rfl rfl (by kernel_rfl) (fun _ _ _ h => h) (Or.inl ⟨by rfl, ?_⟩) hHeld ?_ ?_
  rotate_left
  · rintro w' rfl
    go_simp
    with_reducible rfl
  rotate_left
  · simp only [Act.put, List.setIfInBounds_toArray, List.set_cons_zero, List.set_cons_succ, i64_w, i32_w]
    rfl
  refine pure_ (i := 4) (N := some 128) (v := ?_) (a' := ?_) #[true, true, true, true, true, false, false, false, false, false, false, false, false] rfl rfl (by kernel_rfl) (fun _ _ _ h => h) (Or.inl ⟨by rfl, ?_⟩) ?_ ?_
  rotate_left
  · intro w'
    go_simp
    with_reducible rfl
  rotate_left
  · simp only [Act.put, List.setIfInBounds_toArray, List.set_cons_zero, List.set_cons_succ, i64_w, i32_w]
    rfl
  refine take_ (i := 5) (N := some 129) (v := ?_) (a' := ?_) #[true, true, true, true, true, true, false, false, false, false, false, false, false] rfl rfl (by kernel_rfl) (fun _ _ _ h => h) (Or.inl ⟨by rfl, ?_⟩) hHeld ?_ ?_
  rotate_left
  · rintro w' rfl
    go_simp
    with_reducible rfl
  rotate_left
  · simp only [Act.put, List.setIfInBounds_toArray, List.set_cons_zero, List.set_cons_succ, i64_w, i32_w]
    rfl
  refine pure_ (i := 6) (N := some 130) (v := ?_) (a' := ?_) #[true, true, true, true, true, true, true, false, false, false, false, false, false] rfl rfl (by kernel_rfl) (fun _ _ _ h => h) (Or.inl ⟨by rfl, ?_⟩) ?_ ?_
  rotate_left
  · intro w'
    go_simp
    with_reducible rfl
  rotate_left
  · simp only [Act.put, List.setIfInBounds_toArray, List.set_cons_zero, List.set_cons_succ, i64_w, i32_w]
    rfl
  refine take_ (i := 7) (N := some 131) (v := ?_) (a' := ?_) #[true, true, true, true, true, true, true, true, false, false, false, false, false] rfl rfl (by kernel_rfl) (fun _ _ _ h => h) (Or.inl ⟨by rfl, ?_⟩) hHeld ?_ ?_
  rotate_left
  · rintro w' rfl
    go_simp
    with_reducible rfl
  rotate_left
  · simp only [Act.put, List.setIfInBounds_toArray, List.set_cons_zero, List.set_cons_succ, i64_w, i32_w]
    rfl
  refine pure_ (i := 8) (N := some 132) (v := ?_) (a' := ?_) #[true, true, true, true, true, true, true, true, true, false, false, false, false] rfl rfl (by kernel_rfl) (fun _ _ _ h => h) (Or.inl ⟨by rfl, ?_⟩) ?_ ?_
  rotate_left
  · intro w'
    go_simp
    with_reducible rfl
  rotate_left
  · simp only [Act.put, List.setIfInBounds_toArray, List.set_cons_zero, List.set_cons_succ, i64_w, i32_w]
    rfl
  refine take_ (i := 9) (N := some 133) (v := ?_) (a' := ?_) #[true, true, true, true, true, true, true, true, true, true, false, false, false] rfl rfl (by kernel_rfl) (fun _ _ _ h => h) (Or.inl ⟨by rfl, ?_⟩) hHeld ?_ ?_
  rotate_left
  · rintro w' rfl
    go_simp
    with_reducible rfl
  rotate_left
  · simp only [Act.put, List.setIfInBounds_toArray, List.set_cons_zero, List.set_cons_succ, i64_w, i32_w]
    rfl
  refine pure_ (i := 10) (N := some 134) (v := ?_) (a' := ?_) #[true, true, true, true, true, true, true, true, true, true, true, false, false] rfl rfl (by kernel_rfl) (fun _ _ _ h => h) (Or.inl ⟨by rfl, ?_⟩) ?_ ?_
  rotate_left
  · intro w'
    go_simp
    with_reducible rfl
  rotate_left
  · simp only [Act.put, List.setIfInBounds_toArray, List.set_cons_zero, List.set_cons_succ, i64_w, i32_w]
    rfl
  refine take_ (i := 11) (N := some 135) (v := ?_) (a' := ?_) #[true, true, true, true, true, true, true, true, true, true, true, true, false] rfl rfl (by kernel_rfl) (fun _ _ _ h => h) (Or.inl ⟨by rfl, ?_⟩) hHeld ?_ ?_
  rotate_left
  · rintro w' rfl
    go_simp
    with_reducible rfl
  rotate_left
  · simp only [Act.put, List.setIfInBounds_toArray, List.set_cons_zero, List.set_cons_succ, i64_w, i32_w]
    rfl
  refine last_ (i := 12) (N := some 136) #[true, true, true, true, true, true, true, true, true, true, true, true, true] rfl rfl (by kernel_rfl) (by decide) (fun K hK => ?_)
  refine goes_ Try.func31 (by kernel_rfl) rfl #[.pointer (some ⟨nb, 0, none⟩), .int .i64 a.host, .int .i64 a.n, .int .i64 a.m, .int .u32 a.mask] (by rfl) rfl rfl (by simp [Act.eval]) ?_
  refine (spoil_calls HI.out a.host a.n a.m a.mask HA.out.m HA.out.mask).mono ?_
  rintro e w3 ⟨ev, rfl, hev, hN⟩
  have HNP := Lib.hid hN
  clear hN hev
  refine ⟨_, rfl, ?_⟩
  refine hK.out _ _ ?_
  clear hK K hHeld
  refine norm_ (a' := ?_) ?_ ?_
  rotate_left
  · show Act.put _ (some 136) _ = _
    simp only [Act.put, List.setIfInBounds_toArray, List.set_cons_zero, List.set_cons_succ, i64_w, i32_w]
    rfl
  refine done_ (by kernel_rfl) ?_
  go_wp2
  (try simp only [Exit.inBlock, Exit.then])
  refine bodyPost_end (results_none rfl _ _ _) rfl ?_
  exact ⟨rfl, by rw [act_11 s a HK0.out]; exact HNP.out.from_ HAL.out⟩
set_option maxHeartbeats 4000000 in
set_option maxRecDepth 100000 in
theorem calls_12 {bb : Nat → Prop} {w : World} {nb hb : Nat} {qv : Nat → Value} {s : Nt} {bo L : Nat} {D : Nat → Prop} (h : IsNet bb w nb hb qv s) (hbo : w.cell? ⟨bo, 0, none⟩ = some (.pointer (some ⟨nb, 0, none⟩))) (a : AV) (ha : a.Ok) (bv lv : Value) (hbv : RdB D w bv a.b) (hlv : DgIs D w lv a.l) (hD : ∀ k, D k → k < w.heap.size ∧ ¬ NB nb hb s.n qv k) (hW : Wg s (L + 1)) (hk : a.kind = 12) :
    Calls Try.prog 18 #[.pointer (some ⟨bo, 0, none⟩), actV a bv lv] w fun e w' => e = .returned (.tuple #[]) ∧ NetP bb w nb hb s.n qv (Nt.act s a) w' := by
  have HW := Lib.hid hW
  have HD := Lib.hid hD
  have HA := Lib.hid ha
  have HK0 := Lib.hid hk
  obtain ⟨A2, c2, rfl, hbc, hbl, _, _⟩ := id hbv
  obtain ⟨A1, c1, rfl, hlc, hll, _⟩ := id hlv
  obtain ⟨bn, hbn⟩ : ∃ bn, bn = a.b.length := ⟨_, rfl⟩
  obtain ⟨ln, hln⟩ : ∃ ln, ln = a.l.length := ⟨_, rfl⟩
  have HLN := Lib.hid hln
  rw [← hbn] at hbc hbl hbv ⊢
  rw [← hln] at hlc hll hlv ⊢
  have HW1 : Hid (∀ w1 g1, w1 = w.alloc (.cells #[.int .i64 a.kind, .int .i64 a.host, .int .i64 a.n, .int .i64 a.m, .int .u32 a.mask, .slice A2 bn c2, .slice A1 ln c1] 52) → g1 = w.heap.size → IsNet bb w1 nb hb qv s ∧ w1.cell? ⟨g1, 0, none⟩ = some (.int .i64 a.kind) ∧ w1.cell? ⟨g1, 1, none⟩ = some (.int .i64 a.host) ∧ w1.cell? ⟨g1, 2, none⟩ = some (.int .i64 a.n) ∧ w1.cell? ⟨g1, 3, none⟩ = some (.int .i64 a.m) ∧ w1.cell? ⟨g1, 4, none⟩ = some (.int .u32 a.mask) ∧ w1.cell? ⟨g1, 5, none⟩ = some (.slice A2 bn c2) ∧ w1.cell? ⟨g1, 6, none⟩ = some (.slice A1 ln c1) ∧ w1.cell? ⟨bo, 0, none⟩ = some (.pointer (some ⟨nb, 0, none⟩)) ∧ Below w.heap.size w w1 ∧ RdB D w1 (.slice A2 bn c2) a.b ∧ DgIs D w1 (.slice A1 ln c1) a.l) := Lib.hid (by
    rintro w1 g1 rfl rfl
    have hB : Below w.heap.size w (w.alloc (.cells #[.int .i64 a.kind, .int .i64 a.host, .int .i64 a.n, .int .i64 a.m, .int .u32 a.mask, .slice A2 bn c2, .slice A1 ln c1] 52)) := (Below.refl _ _).alloc (Nat.le_refl _) _
    refine ⟨h.below hB, ?_, ?_, ?_, ?_, ?_, ?_, ?_, (hB.cell (World.block_lt_of_cell? w _ hbo)).trans hbo, hB, hbv.keep (fun k hk => hB.block k (hD k hk).1), hlv.keep (fun k hk => hB.block k (hD k hk).1)⟩ <;> (rw [World.cell?_alloc_at _ _ _ _ rfl]; rfl))
  have q0 := hbo
  unfold actV
  clear h hbv hlv hD hW ha hbo hbn hln
  rw [hk] at HW1 ⊢
  clear hk
  go_enter Try.func18, Try.ntmps18
  go_upto_region 1 with (fail)
  generalize hw1 : w.alloc (.cells #[.int .i64 12, .int .i64 a.host, .int .i64 a.n, .int .i64 a.m, .int .u32 a.mask, .slice A2 bn c2, .slice A1 ln c1] 52) = w1
  generalize hg1 : w.heap.size = g1
  obtain ⟨hI, c0, c1', c2', c3', c4', c5', c6', p0, hal, hbs, hls⟩ := HW1.out w1 g1 hw1.symm hg1.symm
  have HI0 := Lib.hid hI
  have HI := Lib.hid hI.drew
  have HAL0 := Lib.hid hal
  have HAL := Lib.hid hal.drew
  have HB := Lib.hid (show RdB D w1.drew _ _ from hbs)
  have HL : Hid (DgIs D w1.drew (.slice A1 ln c1) a.l) := Lib.hid (show DgIs D w1.drew _ _ from hls)
  clear hI hal hbs hls HW1 hw1 hg1 q0
  go_upto_region 27 with (fail)
  refine start_ (n := 9) (S := fun w' => w' = w1.drew) (ds := [8]) #[false, false, false, false, false, false, false, false, false] (by kernel_rfl) rfl rfl rfl (fun hHeld => ?_)
  refine pure_ (i := 0) (N := some 139) (v := ?_) (a' := ?_) #[true, false, false, false, false, false, false, false, false] rfl rfl (by kernel_rfl) (fun _ _ _ h => h) (Or.inl ⟨by rfl, ?_⟩) ?_ ?_
  rotate_left
  · intro w'
    go_simp
    with_reducible rfl
  rotate_left
  · simp only [Act.put, List.setIfInBounds_toArray, List.set_cons_zero, List.set_cons_succ, i64_w, i32_w]
    rfl
  refine pure_ (i := 1) (N := some 140) (v := ?_) (a' := ?_) #[true, true, false, false, false, false, false, false, false] rfl rfl (by kernel_rfl) (fun _ _ _ h => h) (Or.inl ⟨by rfl, ?_⟩) ?_ ?_
  rotate_left
  · intro w'
    go_simp
    with_reducible rfl
  rotate_left
  · simp only [Act.put, List.setIfInBounds_toArray, List.set_cons_zero, List.set_cons_succ, i64_w, i32_w]
    rfl
  refine pure_ (i := 2) (N := some 141) (v := ?_) (a' := ?_) #[true, true, true, false, false, false, false, false, false] rfl rfl (by kernel_rfl) (fun _ _ _ h => h) (Or.inl ⟨by rfl, ?_⟩) ?_ ?_
  rotate_left
  · intro w'
    go_simp
    with_reducible rfl
  rotate_left
  · simp only [Act.put, List.setIfInBounds_toArray, List.set_cons_zero, List.set_cons_succ, i64_w, i32_w]
    rfl
  refine take_ (i := 3) (N := some 142) (v := ?_) (a' := ?_) #[true, true, true, true, false, false, false, false, false] rfl rfl (by kernel_rfl) (fun _ _ _ h => h) (Or.inl ⟨by rfl, ?_⟩) hHeld ?_ ?_
  rotate_left
  · rintro w' rfl
    go_simp
    with_reducible rfl
  rotate_left
  · simp only [Act.put, List.setIfInBounds_toArray, List.set_cons_zero, List.set_cons_succ, i64_w, i32_w]
    rfl
  refine pure_ (i := 4) (N := some 143) (v := ?_) (a' := ?_) #[true, true, true, true, true, false, false, false, false] rfl rfl (by kernel_rfl) (fun _ _ _ h => h) (Or.inl ⟨by rfl, ?_⟩) ?_ ?_
  rotate_left
  · intro w'
    go_simp
    with_reducible rfl
  rotate_left
  · simp only [Act.put, List.setIfInBounds_toArray, List.set_cons_zero, List.set_cons_succ, i64_w, i32_w]
    rfl
  refine take_ (i := 5) (N := some 144) (v := ?_) (a' := ?_) #[true, true, true, true, true, true, false, false, false] rfl rfl (by kernel_rfl) (fun _ _ _ h => h) (Or.inl ⟨by rfl, ?_⟩) hHeld ?_ ?_
  rotate_left
  · rintro w' rfl
    go_simp
    with_reducible rfl
  rotate_left
  · simp only [Act.put, List.setIfInBounds_toArray, List.set_cons_zero, List.set_cons_succ, i64_w, i32_w]
    rfl
  refine pure_ (i := 6) (N := some 145) (v := ?_) (a' := ?_) #[true, true, true, true, true, true, true, false, false] rfl rfl (by kernel_rfl) (fun _ _ _ h => h) (Or.inl ⟨by rfl, ?_⟩) ?_ ?_
  rotate_left
  · intro w'
    go_simp
    with_reducible rfl
  rotate_left
  · simp only [Act.put, List.setIfInBounds_toArray, List.set_cons_zero, List.set_cons_succ, i64_w, i32_w]
    rfl
  refine take_ (i := 7) (N := some 146) (v := ?_) (a' := ?_) #[true, true, true, true, true, true, true, true, false] rfl rfl (by kernel_rfl) (fun _ _ _ h => h) (Or.inl ⟨by rfl, ?_⟩) hHeld ?_ ?_
  rotate_left
  · rintro w' rfl
    go_simp
    with_reducible rfl
  rotate_left
  · simp only [Act.put, List.setIfInBounds_toArray, List.set_cons_zero, List.set_cons_succ, i64_w, i32_w]
    rfl
  refine last_ (i := 8) (N := some 147) #[true, true, true, true, true, true, true, true, true] rfl rfl (by kernel_rfl) (by decide) (fun K hK => ?_)
  refine goes_ Try.func32 (by kernel_rfl) rfl #[.pointer (some ⟨nb, 0, none⟩), .int .i64 a.host, .slice A2 bn c2] (by rfl) rfl rfl (by simp [Act.eval]) ?_
  refine (inject_calls HI.out a.host _ a.b HB.out (fun k hk => Nat.lt_of_lt_of_le (HD.out k hk).1 HAL0.out.size) (fun k hk => by have := HW.out.wf.q k hk; omega)).mono ?_
  rintro e w3 ⟨ev, rfl, hev, hN⟩
  have HNP := Lib.hid hN
  clear hN hev
  refine ⟨_, rfl, ?_⟩
  refine hK.out _ _ ?_
  clear hK K hHeld
  refine norm_ (a' := ?_) ?_ ?_
  rotate_left
  · show Act.put _ (some 147) _ = _
    simp only [Act.put, List.setIfInBounds_toArray, List.set_cons_zero, List.set_cons_succ, i64_w, i32_w]
    rfl
  refine done_ (by kernel_rfl) ?_
  go_wp2
  (try simp only [Exit.inBlock, Exit.then])
  refine bodyPost_end (results_none rfl _ _ _) rfl ?_
  exact ⟨rfl, by rw [act_12 s a HK0.out]; exact HNP.out.from_ HAL.out⟩
set_option maxHeartbeats 4000000 in
set_option maxRecDepth 100000 in
theorem calls_other {bb : Nat → Prop} {w : World} {nb hb : Nat} {qv : Nat → Value} {s : Nt} {bo L : Nat} {D : Nat → Prop} (h : IsNet bb w nb hb qv s) (hbo : w.cell? ⟨bo, 0, none⟩ = some (.pointer (some ⟨nb, 0, none⟩))) (a : AV) (ha : a.Ok) (bv lv : Value) (hbv : RdB D w bv a.b) (hlv : DgIs D w lv a.l) (hD : ∀ k, D k → k < w.heap.size ∧ ¬ NB nb hb s.n qv k) (hW : Wg s (L + 1)) (hk : ¬ (0 ≤ a.kind ∧ a.kind ≤ 12)) :
    Calls Try.prog 18 #[.pointer (some ⟨bo, 0, none⟩), actV a bv lv] w fun e w' => e = .returned (.tuple #[]) ∧ NetP bb w nb hb s.n qv (Nt.act s a) w' := by
  have HW := Lib.hid hW
  have HD := Lib.hid hD
  have HA := Lib.hid ha
  have HK0 := Lib.hid hk
  obtain ⟨A2, c2, rfl, hbc, hbl, _, _⟩ := id hbv
  obtain ⟨A1, c1, rfl, hlc, hll, _⟩ := id hlv
  obtain ⟨bn, hbn⟩ : ∃ bn, bn = a.b.length := ⟨_, rfl⟩
  obtain ⟨ln, hln⟩ : ∃ ln, ln = a.l.length := ⟨_, rfl⟩
  have HLN := Lib.hid hln
  rw [← hbn] at hbc hbl hbv ⊢
  rw [← hln] at hlc hll hlv ⊢
  have HW1 : Hid (∀ w1 g1, w1 = w.alloc (.cells #[.int .i64 a.kind, .int .i64 a.host, .int .i64 a.n, .int .i64 a.m, .int .u32 a.mask, .slice A2 bn c2, .slice A1 ln c1] 52) → g1 = w.heap.size → IsNet bb w1 nb hb qv s ∧ w1.cell? ⟨g1, 0, none⟩ = some (.int .i64 a.kind) ∧ w1.cell? ⟨g1, 1, none⟩ = some (.int .i64 a.host) ∧ w1.cell? ⟨g1, 2, none⟩ = some (.int .i64 a.n) ∧ w1.cell? ⟨g1, 3, none⟩ = some (.int .i64 a.m) ∧ w1.cell? ⟨g1, 4, none⟩ = some (.int .u32 a.mask) ∧ w1.cell? ⟨g1, 5, none⟩ = some (.slice A2 bn c2) ∧ w1.cell? ⟨g1, 6, none⟩ = some (.slice A1 ln c1) ∧ w1.cell? ⟨bo, 0, none⟩ = some (.pointer (some ⟨nb, 0, none⟩)) ∧ Below w.heap.size w w1 ∧ RdB D w1 (.slice A2 bn c2) a.b ∧ DgIs D w1 (.slice A1 ln c1) a.l) := Lib.hid (by
    rintro w1 g1 rfl rfl
    have hB : Below w.heap.size w (w.alloc (.cells #[.int .i64 a.kind, .int .i64 a.host, .int .i64 a.n, .int .i64 a.m, .int .u32 a.mask, .slice A2 bn c2, .slice A1 ln c1] 52)) := (Below.refl _ _).alloc (Nat.le_refl _) _
    refine ⟨h.below hB, ?_, ?_, ?_, ?_, ?_, ?_, ?_, (hB.cell (World.block_lt_of_cell? w _ hbo)).trans hbo, hB, hbv.keep (fun k hk => hB.block k (hD k hk).1), hlv.keep (fun k hk => hB.block k (hD k hk).1)⟩ <;> (rw [World.cell?_alloc_at _ _ _ _ rfl]; rfl))
  have q0 := hbo
  unfold actV
  clear h hbv hlv hD hW ha hbo hbn hln
  have hact : Nt.act s a = s := by
    unfold Nt.act
    rw [if_neg (by omega : ¬ a.kind = 0)]
    rw [if_neg (by omega : ¬ a.kind = 1)]
    rw [if_neg (by omega : ¬ a.kind = 2)]
    rw [if_neg (by omega : ¬ a.kind = 3)]
    rw [if_neg (by omega : ¬ a.kind = 4)]
    rw [if_neg (by omega : ¬ a.kind = 5)]
    rw [if_neg (by omega : ¬ a.kind = 6)]
    rw [if_neg (by omega : ¬ a.kind = 7)]
    rw [if_neg (by omega : ¬ a.kind = 8)]
    rw [if_neg (by omega : ¬ a.kind = 9)]
    rw [if_neg (by omega : ¬ a.kind = 10)]
    rw [if_neg (by omega : ¬ a.kind = 11)]
    rw [if_neg (by omega : ¬ a.kind = 12)]
  rw [hact]
  have e0 : (a.kind == 0) = false := beq_eq_false_iff_ne.2 (by omega)
  have e1 : (a.kind == 1) = false := beq_eq_false_iff_ne.2 (by omega)
  have e2 : (a.kind == 2) = false := beq_eq_false_iff_ne.2 (by omega)
  have e3 : (a.kind == 3) = false := beq_eq_false_iff_ne.2 (by omega)
  have e4 : (a.kind == 4) = false := beq_eq_false_iff_ne.2 (by omega)
  have e5 : (a.kind == 5) = false := beq_eq_false_iff_ne.2 (by omega)
  have e6 : (a.kind == 6) = false := beq_eq_false_iff_ne.2 (by omega)
  have e7 : (a.kind == 7) = false := beq_eq_false_iff_ne.2 (by omega)
  have e8 : (a.kind == 8) = false := beq_eq_false_iff_ne.2 (by omega)
  have e9 : (a.kind == 9) = false := beq_eq_false_iff_ne.2 (by omega)
  have e10 : (a.kind == 10) = false := beq_eq_false_iff_ne.2 (by omega)
  have e11 : (a.kind == 11) = false := beq_eq_false_iff_ne.2 (by omega)
  have e12 : (a.kind == 12) = false := beq_eq_false_iff_ne.2 (by omega)
  clear hact hk
  go_enter Try.func18, Try.ntmps18
  go_upto_region 1 with (fail)
  generalize hw1 : w.alloc (.cells #[.int .i64 a.kind, .int .i64 a.host, .int .i64 a.n, .int .i64 a.m, .int .u32 a.mask, .slice A2 bn c2, .slice A1 ln c1] 52) = w1
  generalize hg1 : w.heap.size = g1
  obtain ⟨hI, c0, c1', c2', c3', c4', c5', c6', p0, hal, hbs, hls⟩ := HW1.out w1 g1 hw1.symm hg1.symm
  have HI0 := Lib.hid hI
  have HI := Lib.hid hI.drew
  have HAL0 := Lib.hid hal
  have HAL := Lib.hid hal.drew
  have HB := Lib.hid (show RdB D w1.drew _ _ from hbs)
  have HL : Hid (DgIs D w1.drew (.slice A1 ln c1) a.l) := Lib.hid (show DgIs D w1.drew _ _ from hls)
  clear hI hal hbs hls HW1 hw1 hg1 q0
  go_wp2
  go_end0
  exact ⟨rfl, ((NetP.refl HI0.out).from_ HAL0.out)⟩

theorem calls_calls {bb : Nat → Prop} {w : World} {nb hb : Nat} {qv : Nat → Value} {s : Nt} {bo L : Nat} {D : Nat → Prop} (h : IsNet bb w nb hb qv s) (hbo : w.cell? ⟨bo, 0, none⟩ = some (.pointer (some ⟨nb, 0, none⟩))) (a : AV) (ha : a.Ok) (bv lv : Value) (hbv : RdB D w bv a.b) (hlv : DgIs D w lv a.l) (hD : ∀ k, D k → k < w.heap.size ∧ ¬ NB nb hb s.n qv k) (hW : Wg s (L + 1)) :
    Calls Try.prog 18 #[.pointer (some ⟨bo, 0, none⟩), actV a bv lv] w fun e w' => e = .returned (.tuple #[]) ∧ NetP bb w nb hb s.n qv (Nt.act s a) w' := by
  by_cases hr : 0 ≤ a.kind ∧ a.kind ≤ 12
  rotate_left
  · exact calls_other h hbo a ha bv lv hbv hlv hD hW hr
  obtain ⟨h1, h2⟩ := hr
  rcases (show a.kind = 0 ∨ a.kind = 1 ∨ a.kind = 2 ∨ a.kind = 3 ∨ a.kind = 4 ∨ a.kind = 5 ∨ a.kind = 6 ∨ a.kind = 7 ∨ a.kind = 8 ∨ a.kind = 9 ∨ a.kind = 10 ∨ a.kind = 11 ∨ a.kind = 12 by omega) with e | e | e | e | e | e | e | e | e | e | e | e | e
  · exact calls_0 h hbo a ha bv lv hbv hlv hD hW e
  · exact calls_1 h hbo a ha bv lv hbv hlv hD hW e
  · exact calls_2 h hbo a ha bv lv hbv hlv hD hW e
  · exact calls_3 h hbo a ha bv lv hbv hlv hD hW e
  · exact calls_4 h hbo a ha bv lv hbv hlv hD hW e
  · exact calls_5 h hbo a ha bv lv hbv hlv hD hW e
  · exact calls_6 h hbo a ha bv lv hbv hlv hD hW e
  · exact calls_7 h hbo a ha bv lv hbv hlv hD hW e
  · exact calls_8 h hbo a ha bv lv hbv hlv hD hW e
  · exact calls_9 h hbo a ha bv lv hbv hlv hD hW e
  · exact calls_10 h hbo a ha bv lv hbv hlv hD hW e
  · exact calls_11 h hbo a ha bv lv hbv hlv hD hW e
  · exact calls_12 h hbo a ha bv lv hbv hlv hD hW e

end Go.Proofs.Ytpfpdbbgiimnmaa.Net
