/- geyserref16.Check by its contract. Conditions: numbers as memory holds them. Printed by mkrchk.py. -/
import Derived.Test.YtfcofokbhhnfkaaDoorBar
namespace Go.Proofs.YtfcofokbhhnfkaaDoor.Byt
set_option linter.unusedSimpArgs false
set_option linter.unusedVariables false
open Go.RowKit Go.Deep Go.Proofs.YtfcofokbhhnfkaaDoor.Er Go.Proofs.YtfcofokbhhnfkaaDoorW.PrintWords Go.Proofs.YtfcofokbhhnfkaaDoorW.PrintLast Go.Proofs.YtfcofokbhhnfkaaDoorW.PrintMore
theorem bare_data {p : Pk} (h : p.kind = 1) : p = bareP p ↔ (p.size = 0 ∧ p.sym = 0 ∧ p.blocks = 0 ∧ p.long = 0 ∧ p.short = 0) ∧ p.layers = 0 ∧ p.esis = 0 ∧ p.base = 0 ∧ p.len = 0 := by
  obtain ⟨kind, sess, layer, tick, burst, sync, many, place, block, esi, data, size, sym, blocks, long, short, layers, esis, base, len⟩ := p
  simp only at h
  unfold bareP pk0
  rw [if_pos h]
  simp only [Pk.mk.injEq]
  simp [and_assoc]
theorem bare_ann {p : Pk} (h : ¬ p.kind = 1) : p = bareP p ↔ p.burst = false ∧ p.sync = 0 ∧ p.many = 0 ∧ p.place = 0 ∧ p.block = 0 ∧ p.esi = 0 ∧ p.data = [] := by
  obtain ⟨kind, sess, layer, tick, burst, sync, many, place, block, esi, data, size, sym, blocks, long, short, layers, esis, base, len⟩ := p
  simp only at h
  unfold bareP pk0
  rw [if_neg h]
  simp only [Pk.mk.injEq]
  simp
theorem why_r {p : Pk} (h : ¬ RangeOk p) : whyP p = 1 := by unfold whyP; rw [if_neg h]
theorem why_b {p : Pk} (h : RangeOk p) (hb : ¬ p = bareP p) : whyP p = 2 := by
  unfold whyP
  rw [if_pos h]
  by_cases k : p.kind = 1
  · rw [if_pos k, if_neg (fun f => hb ((bare_data k).2 f.2))]
  · rw [if_neg k, if_neg (fun f => hb ((bare_ann k).2 ⟨f.1, f.2.1, f.2.2.1, f.2.2.2.1, f.2.2.2.2.1, f.2.2.2.2.2.1, f.2.2.2.2.2.2.1⟩))]
theorem why_d {p : Pk} (h : RangeOk p) (hb : p = bareP p) (k : p.kind = 1) : whyP p = if 1 ≤ p.data.length ∧ p.data.length ≤ 64 then 0 else 2 := by
  unfold whyP
  rw [if_pos h, if_pos k]
  by_cases c : 1 ≤ p.data.length ∧ p.data.length ≤ 64
  · rw [if_pos c, if_pos ⟨c, (bare_data k).1 hb⟩]
  · rw [if_neg c, if_neg (fun f => c f.1)]
theorem why_a {p : Pk} (h : RangeOk p) (hb : p = bareP p) (k : ¬ p.kind = 1) : whyP p = if PlanOk p.size p.sym p.blocks p.long p.short then 0 else 2 := by
  unfold whyP
  rw [if_pos h, if_neg k]
  obtain ⟨a1, a2, a3, a4, a5, a6, a7⟩ := (bare_ann k).1 hb
  by_cases c : PlanOk p.size p.sym p.blocks p.long p.short
  · rw [if_pos c, if_pos ⟨a1, a2, a3, a4, a5, a6, a7, c⟩]
  · rw [if_neg c, if_neg (fun f => c f.2.2.2.2.2.2.2)]
set_option maxHeartbeats 8000000 in
set_option maxRecDepth 100000 in
theorem rcheck_calls (p : Pk) (u : Value) (w : World) (hp : RdB (fun k => k < w.heap.size) w u p.data) (hb : PkB p) : Calls Tryd.prog 10 #[pkV p u] w fun e w' => e = .returned (.int .i64 (whyP p)) ∧ Below w.heap.size w w' := by
  have HU := Lib.hid (cells_of hp)
  have HPB := Lib.hid hb
  have HP := Lib.hid hp
  have HBV : Hid (RdB (fun k => k < w.heap.size) w (bareV p u) (bareP p).data) := Lib.hid (by
    unfold bareV bareP
    by_cases k : p.kind = 1
    · rw [if_pos k, if_pos k]; exact hp
    · rw [if_neg k, if_neg k]; exact ⟨none, 0, rfl, Nat.le_refl _, (show 0 ≤ 140737488355328 by decide), (fun x hx => by cases hx), fun e => absurd rfl e⟩)
  obtain ⟨A, c, rfl, _⟩ := hp
  obtain ⟨L, hL⟩ : ∃ L, L = p.data.length := ⟨_, rfl⟩
  have HLN := Lib.hid hL
  rw [← hL] at HU HP HBV ⊢
  obtain ⟨n, hn⟩ : ∃ n, n = whyP p := ⟨_, rfl⟩
  rw [← hn]
  clear hL
  by_cases hr : RangeOk p
  rotate_left
  · skip
    have HR : Hid (decide (RangeOk p) = false) := Lib.hid (decide_eq_false hr)
    have HN : Hid (n = 1) := Lib.hid (hn.trans (why_r hr))
    clear hr hn hb
    go_enter Tryd.func10, Tryd.ntmps10
    go_wp2_with (first
      | ((with_reducible refine gate_dst (N := 1) rfl ?_); refine wp_box rfl (.tmp 0) rfl rfl HU.out ?_; intro w2 hP hB hs; have H2 := Lib.hid (SB.mk hP hB); clear hP hB hs)
      | ((with_reducible refine gate_dst (N := 3) rfl ?_); refine wp_ldpk rfl (.tmp 1) rfl rfl H2.out.P ?_)
      | (go_at_call 21; refine (ranged_calls p _ _ HU.out HPB.out).mono ?_; rw [HR.out]; rintro e w4 ⟨rfl, hb⟩; have H4 := Lib.hid (H2.out.below hb); clear hb H2))
    go_ret
    exact ⟨by rw [HN.out]; rfl, H4.out.B⟩
  have HR : Hid (decide (RangeOk p) = true) := Lib.hid (decide_eq_true hr)
  by_cases hq : p = bareP p
  rotate_left
  · skip
    have HEQ : Hid (decide (p = bareP p) = false) := Lib.hid (decide_eq_false hq)
    have HN : Hid (n = 2) := Lib.hid (hn.trans (why_b hr hq))
    clear hr hn hb hq
    go_enter Tryd.func10, Tryd.ntmps10
    go_upto_region 3 with (first
      | ((with_reducible refine gate_dst (N := 1) rfl ?_); refine wp_box rfl (.tmp 0) rfl rfl HU.out ?_; intro w2 hP hB hs; have H2 := Lib.hid (SB.mk hP hB); clear hP hB hs)
      | ((with_reducible refine gate_dst (N := 3) rfl ?_); refine wp_ldpk rfl (.tmp 1) rfl rfl H2.out.P ?_)
      | (go_at_call 21; refine (ranged_calls p _ _ HU.out HPB.out).mono ?_; rw [HR.out]; rintro e w4 ⟨rfl, hb⟩; have H4 := Lib.hid (H2.out.below hb); clear hb H2))
    refine start_ (n := 5) (S := fun w' => SB w w.heap.size p (.slice A L c) w') (ds := []) #[false, false, false, false, false] (by kernel_rfl) rfl rfl H4.out.drew (fun hHeld => ?_)
    refine take_ (i := 0) (N := some 6) (v := pkV p (.slice A L c)) #[true, false, false, false, false] rfl rfl (by kernel_rfl) (fun _ _ _ h => h) (Or.inl ⟨by rfl, fun w' hs => run_ldpk (.tmp 1) rfl rfl hs.P⟩) hHeld rfl ?_
    refine norm_ (a' := ?_) ?_ ?_
    rotate_left
    · show Act.put _ (some 6) _ = _
      simp only [Act.put, List.setIfInBounds_toArray, List.set_cons_zero, List.set_cons_succ, i64_w, i32_w]
      rfl
    refine take_ (i := 1) (N := some 7) (v := pkV p (.slice A L c)) #[true, true, false, false, false] rfl rfl (by kernel_rfl) (fun _ _ _ h => h) (Or.inl ⟨by rfl, fun w' hs => run_ldpk (.tmp 1) rfl rfl hs.P⟩) hHeld rfl ?_
    refine norm_ (a' := ?_) ?_ ?_
    rotate_left
    · show Act.put _ (some 7) _ = _
      simp only [Act.put, List.setIfInBounds_toArray, List.set_cons_zero, List.set_cons_succ, i64_w, i32_w]
      rfl
    refine one_ (i := 2) (N := some 8) #[true, true, true, false, false] rfl rfl (by kernel_rfl) (by decide) (fun K hK => ?_)
    refine call_ 22 #[pkV p (.slice A L c)] (by rfl) rfl ?_ ?_
    · have he := enters_ (P := Tryd.prog) Tryd.func22 (by kernel_rfl) rfl #[pkV p (.slice A L c)] w4.drew
      unfold execOp
      simp [resolve, Deferred.ofValue, invoke, Act.eval, he]
    refine (bare_calls p A L c w4.drew).mono ?_
    rintro e w5 ⟨rfl, hb⟩
    refine ⟨_, rfl, ?_⟩
    have hH5x := hHeld.below hb
    clear hb
    refine hK.out _ _ hH5x (fun hH5 => ?_)
    clear hK K hHeld
    refine norm_ (a' := ?_) ?_ ?_
    rotate_left
    · show Act.put _ (some 8) _ = _
      simp only [Act.put, List.setIfInBounds_toArray, List.set_cons_zero, List.set_cons_succ, i64_w, i32_w]
      rfl
    refine one_ (i := 3) (N := some 9) #[true, true, true, true, false] rfl rfl (by kernel_rfl) (by decide) (fun K hK => ?_)
    refine call_ 16 #[pkV p (.slice A L c), pkV (bareP p) (bareV p (.slice A L c))] (by rfl) rfl ?_ ?_
    · have he := enters_ (P := Tryd.prog) Tryd.func16 (by kernel_rfl) rfl #[pkV p (.slice A L c), pkV (bareP p) (bareV p (.slice A L c))] w5
      unfold execOp
      simp [resolve, Deferred.ofValue, invoke, Act.eval, he]
    refine (SamR_calls (D := fun k => k < w.heap.size) (D' := fun k => k < w.heap.size) p (bareP p) (.slice A L c) (bareV p (.slice A L c)) w5 (HP.out.at0 hH5.B) (HBV.out.at0 hH5.B) (fun k hk => Nat.lt_of_lt_of_le hk hH5.B.size) (fun k hk => Nat.lt_of_lt_of_le hk hH5.B.size)).mono ?_
    rw [HEQ.out]
    rintro e w6 ⟨rfl, hb⟩
    refine ⟨_, rfl, ?_⟩
    have hH6x := hH5.below hb
    clear hb
    refine hK.out _ _ hH6x (fun hH6 => ?_)
    clear hK K hH5
    refine norm_ (a' := ?_) ?_ ?_
    rotate_left
    · show Act.put _ (some 9) _ = _
      simp only [Act.put, List.setIfInBounds_toArray, List.set_cons_zero, List.set_cons_succ, i64_w, i32_w]
      rfl
    refine pure_ (i := 4) (N := some 10) (v := ?_) (a' := ?_) #[true, true, true, true, true] rfl rfl (by kernel_rfl) (fun _ _ _ h => h) (Or.inl ⟨by rfl, ?_⟩) ?_ ?_
    rotate_left
    · intro w'
      go_simp
      with_reducible rfl
    rotate_left
    · simp only [Act.put, List.setIfInBounds_toArray, List.set_cons_zero, List.set_cons_succ, i64_w, i32_w]
      rfl
    refine done_ (by kernel_rfl) ?_
    go_wp2
    go_ret
    exact ⟨by rw [HN.out]; rfl, hH6.B⟩
  have HEQ : Hid (decide (p = bareP p) = true) := Lib.hid (decide_eq_true hq)
  by_cases hk : p.kind = 1
  · have HK := Lib.hid hk
    have hw := hn.trans (why_d hr hq hk)
    rw [← HLN.out] at hw
    by_cases h1 : (L : Int) < 1
    · skip
      have d1 : decide ((L : Int) < 1) = true := decide_eq_true h1
      have HN : Hid (n = 2) := Lib.hid (hw.trans (if_neg (by omega)))
      clear hr hn hb hq hk hw h1
      go_enter Tryd.func10, Tryd.ntmps10
      go_upto_region 3 with (first
        | ((with_reducible refine gate_dst (N := 1) rfl ?_); refine wp_box rfl (.tmp 0) rfl rfl HU.out ?_; intro w2 hP hB hs; have H2 := Lib.hid (SB.mk hP hB); clear hP hB hs)
        | ((with_reducible refine gate_dst (N := 3) rfl ?_); refine wp_ldpk rfl (.tmp 1) rfl rfl H2.out.P ?_)
        | (go_at_call 21; refine (ranged_calls p _ _ HU.out HPB.out).mono ?_; rw [HR.out]; rintro e w4 ⟨rfl, hb⟩; have H4 := Lib.hid (H2.out.below hb); clear hb H2))
      refine start_ (n := 5) (S := fun w' => SB w w.heap.size p (.slice A L c) w') (ds := []) #[false, false, false, false, false] (by kernel_rfl) rfl rfl H4.out.drew (fun hHeld => ?_)
      refine take_ (i := 0) (N := some 6) (v := pkV p (.slice A L c)) #[true, false, false, false, false] rfl rfl (by kernel_rfl) (fun _ _ _ h => h) (Or.inl ⟨by rfl, fun w' hs => run_ldpk (.tmp 1) rfl rfl hs.P⟩) hHeld rfl ?_
      refine norm_ (a' := ?_) ?_ ?_
      rotate_left
      · show Act.put _ (some 6) _ = _
        simp only [Act.put, List.setIfInBounds_toArray, List.set_cons_zero, List.set_cons_succ, i64_w, i32_w]
        rfl
      refine take_ (i := 1) (N := some 7) (v := pkV p (.slice A L c)) #[true, true, false, false, false] rfl rfl (by kernel_rfl) (fun _ _ _ h => h) (Or.inl ⟨by rfl, fun w' hs => run_ldpk (.tmp 1) rfl rfl hs.P⟩) hHeld rfl ?_
      refine norm_ (a' := ?_) ?_ ?_
      rotate_left
      · show Act.put _ (some 7) _ = _
        simp only [Act.put, List.setIfInBounds_toArray, List.set_cons_zero, List.set_cons_succ, i64_w, i32_w]
        rfl
      refine one_ (i := 2) (N := some 8) #[true, true, true, false, false] rfl rfl (by kernel_rfl) (by decide) (fun K hK => ?_)
      refine call_ 22 #[pkV p (.slice A L c)] (by rfl) rfl ?_ ?_
      · have he := enters_ (P := Tryd.prog) Tryd.func22 (by kernel_rfl) rfl #[pkV p (.slice A L c)] w4.drew
        unfold execOp
        simp [resolve, Deferred.ofValue, invoke, Act.eval, he]
      refine (bare_calls p A L c w4.drew).mono ?_
      rintro e w5 ⟨rfl, hb⟩
      refine ⟨_, rfl, ?_⟩
      have hH5x := hHeld.below hb
      clear hb
      refine hK.out _ _ hH5x (fun hH5 => ?_)
      clear hK K hHeld
      refine norm_ (a' := ?_) ?_ ?_
      rotate_left
      · show Act.put _ (some 8) _ = _
        simp only [Act.put, List.setIfInBounds_toArray, List.set_cons_zero, List.set_cons_succ, i64_w, i32_w]
        rfl
      refine one_ (i := 3) (N := some 9) #[true, true, true, true, false] rfl rfl (by kernel_rfl) (by decide) (fun K hK => ?_)
      refine call_ 16 #[pkV p (.slice A L c), pkV (bareP p) (bareV p (.slice A L c))] (by rfl) rfl ?_ ?_
      · have he := enters_ (P := Tryd.prog) Tryd.func16 (by kernel_rfl) rfl #[pkV p (.slice A L c), pkV (bareP p) (bareV p (.slice A L c))] w5
        unfold execOp
        simp [resolve, Deferred.ofValue, invoke, Act.eval, he]
      refine (SamR_calls (D := fun k => k < w.heap.size) (D' := fun k => k < w.heap.size) p (bareP p) (.slice A L c) (bareV p (.slice A L c)) w5 (HP.out.at0 hH5.B) (HBV.out.at0 hH5.B) (fun k hk => Nat.lt_of_lt_of_le hk hH5.B.size) (fun k hk => Nat.lt_of_lt_of_le hk hH5.B.size)).mono ?_
      rw [HEQ.out]
      rintro e w6 ⟨rfl, hb⟩
      refine ⟨_, rfl, ?_⟩
      have hH6x := hH5.below hb
      clear hb
      refine hK.out _ _ hH6x (fun hH6 => ?_)
      clear hK K hH5
      refine norm_ (a' := ?_) ?_ ?_
      rotate_left
      · show Act.put _ (some 9) _ = _
        simp only [Act.put, List.setIfInBounds_toArray, List.set_cons_zero, List.set_cons_succ, i64_w, i32_w]
        rfl
      refine pure_ (i := 4) (N := some 10) (v := ?_) (a' := ?_) #[true, true, true, true, true] rfl rfl (by kernel_rfl) (fun _ _ _ h => h) (Or.inl ⟨by rfl, ?_⟩) ?_ ?_
      rotate_left
      · intro w'
        go_simp
        with_reducible rfl
      rotate_left
      · simp only [Act.put, List.setIfInBounds_toArray, List.set_cons_zero, List.set_cons_succ, i64_w, i32_w]
        rfl
      refine done_ (by kernel_rfl) ?_
      have s0 : w6.cell? ⟨w.heap.size, 0, none⟩ = some (.int .i64 1) := (blk_cell hH6.P 0).trans (congrArg (fun z => some (Value.int .i64 z)) HK.out)
      have s10 : w6.cell? ⟨w.heap.size, 10, none⟩ = some (.slice A L c) := (blk_cell hH6.P 10).trans rfl
      go_wp2
      go_ret
      exact ⟨by rw [HN.out]; rfl, hH6.B⟩
    have d1 : decide ((L : Int) < 1) = false := decide_eq_false h1
    by_cases h2 : 64 < (L : Int)
    · skip
      have d2 : decide (64 < (L : Int)) = true := decide_eq_true h2
      have HN : Hid (n = 2) := Lib.hid (hw.trans (if_neg (by omega)))
      clear hr hn hb hq hk hw h1 h2
      go_enter Tryd.func10, Tryd.ntmps10
      go_upto_region 3 with (first
        | ((with_reducible refine gate_dst (N := 1) rfl ?_); refine wp_box rfl (.tmp 0) rfl rfl HU.out ?_; intro w2 hP hB hs; have H2 := Lib.hid (SB.mk hP hB); clear hP hB hs)
        | ((with_reducible refine gate_dst (N := 3) rfl ?_); refine wp_ldpk rfl (.tmp 1) rfl rfl H2.out.P ?_)
        | (go_at_call 21; refine (ranged_calls p _ _ HU.out HPB.out).mono ?_; rw [HR.out]; rintro e w4 ⟨rfl, hb⟩; have H4 := Lib.hid (H2.out.below hb); clear hb H2))
      refine start_ (n := 5) (S := fun w' => SB w w.heap.size p (.slice A L c) w') (ds := []) #[false, false, false, false, false] (by kernel_rfl) rfl rfl H4.out.drew (fun hHeld => ?_)
      refine take_ (i := 0) (N := some 6) (v := pkV p (.slice A L c)) #[true, false, false, false, false] rfl rfl (by kernel_rfl) (fun _ _ _ h => h) (Or.inl ⟨by rfl, fun w' hs => run_ldpk (.tmp 1) rfl rfl hs.P⟩) hHeld rfl ?_
      refine norm_ (a' := ?_) ?_ ?_
      rotate_left
      · show Act.put _ (some 6) _ = _
        simp only [Act.put, List.setIfInBounds_toArray, List.set_cons_zero, List.set_cons_succ, i64_w, i32_w]
        rfl
      refine take_ (i := 1) (N := some 7) (v := pkV p (.slice A L c)) #[true, true, false, false, false] rfl rfl (by kernel_rfl) (fun _ _ _ h => h) (Or.inl ⟨by rfl, fun w' hs => run_ldpk (.tmp 1) rfl rfl hs.P⟩) hHeld rfl ?_
      refine norm_ (a' := ?_) ?_ ?_
      rotate_left
      · show Act.put _ (some 7) _ = _
        simp only [Act.put, List.setIfInBounds_toArray, List.set_cons_zero, List.set_cons_succ, i64_w, i32_w]
        rfl
      refine one_ (i := 2) (N := some 8) #[true, true, true, false, false] rfl rfl (by kernel_rfl) (by decide) (fun K hK => ?_)
      refine call_ 22 #[pkV p (.slice A L c)] (by rfl) rfl ?_ ?_
      · have he := enters_ (P := Tryd.prog) Tryd.func22 (by kernel_rfl) rfl #[pkV p (.slice A L c)] w4.drew
        unfold execOp
        simp [resolve, Deferred.ofValue, invoke, Act.eval, he]
      refine (bare_calls p A L c w4.drew).mono ?_
      rintro e w5 ⟨rfl, hb⟩
      refine ⟨_, rfl, ?_⟩
      have hH5x := hHeld.below hb
      clear hb
      refine hK.out _ _ hH5x (fun hH5 => ?_)
      clear hK K hHeld
      refine norm_ (a' := ?_) ?_ ?_
      rotate_left
      · show Act.put _ (some 8) _ = _
        simp only [Act.put, List.setIfInBounds_toArray, List.set_cons_zero, List.set_cons_succ, i64_w, i32_w]
        rfl
      refine one_ (i := 3) (N := some 9) #[true, true, true, true, false] rfl rfl (by kernel_rfl) (by decide) (fun K hK => ?_)
      refine call_ 16 #[pkV p (.slice A L c), pkV (bareP p) (bareV p (.slice A L c))] (by rfl) rfl ?_ ?_
      · have he := enters_ (P := Tryd.prog) Tryd.func16 (by kernel_rfl) rfl #[pkV p (.slice A L c), pkV (bareP p) (bareV p (.slice A L c))] w5
        unfold execOp
        simp [resolve, Deferred.ofValue, invoke, Act.eval, he]
      refine (SamR_calls (D := fun k => k < w.heap.size) (D' := fun k => k < w.heap.size) p (bareP p) (.slice A L c) (bareV p (.slice A L c)) w5 (HP.out.at0 hH5.B) (HBV.out.at0 hH5.B) (fun k hk => Nat.lt_of_lt_of_le hk hH5.B.size) (fun k hk => Nat.lt_of_lt_of_le hk hH5.B.size)).mono ?_
      rw [HEQ.out]
      rintro e w6 ⟨rfl, hb⟩
      refine ⟨_, rfl, ?_⟩
      have hH6x := hH5.below hb
      clear hb
      refine hK.out _ _ hH6x (fun hH6 => ?_)
      clear hK K hH5
      refine norm_ (a' := ?_) ?_ ?_
      rotate_left
      · show Act.put _ (some 9) _ = _
        simp only [Act.put, List.setIfInBounds_toArray, List.set_cons_zero, List.set_cons_succ, i64_w, i32_w]
        rfl
      refine pure_ (i := 4) (N := some 10) (v := ?_) (a' := ?_) #[true, true, true, true, true] rfl rfl (by kernel_rfl) (fun _ _ _ h => h) (Or.inl ⟨by rfl, ?_⟩) ?_ ?_
      rotate_left
      · intro w'
        go_simp
        with_reducible rfl
      rotate_left
      · simp only [Act.put, List.setIfInBounds_toArray, List.set_cons_zero, List.set_cons_succ, i64_w, i32_w]
        rfl
      refine done_ (by kernel_rfl) ?_
      have s0 : w6.cell? ⟨w.heap.size, 0, none⟩ = some (.int .i64 1) := (blk_cell hH6.P 0).trans (congrArg (fun z => some (Value.int .i64 z)) HK.out)
      have s10 : w6.cell? ⟨w.heap.size, 10, none⟩ = some (.slice A L c) := (blk_cell hH6.P 10).trans rfl
      go_wp2
      go_ret
      exact ⟨by rw [HN.out]; rfl, hH6.B⟩
    have d2 : decide (64 < (L : Int)) = false := decide_eq_false h2
    have HN : Hid (n = 0) := Lib.hid (hw.trans (if_pos (by omega)))
    clear hr hn hb hq hk hw h1 h2
    go_enter Tryd.func10, Tryd.ntmps10
    go_upto_region 3 with (first
      | ((with_reducible refine gate_dst (N := 1) rfl ?_); refine wp_box rfl (.tmp 0) rfl rfl HU.out ?_; intro w2 hP hB hs; have H2 := Lib.hid (SB.mk hP hB); clear hP hB hs)
      | ((with_reducible refine gate_dst (N := 3) rfl ?_); refine wp_ldpk rfl (.tmp 1) rfl rfl H2.out.P ?_)
      | (go_at_call 21; refine (ranged_calls p _ _ HU.out HPB.out).mono ?_; rw [HR.out]; rintro e w4 ⟨rfl, hb⟩; have H4 := Lib.hid (H2.out.below hb); clear hb H2))
    refine start_ (n := 5) (S := fun w' => SB w w.heap.size p (.slice A L c) w') (ds := []) #[false, false, false, false, false] (by kernel_rfl) rfl rfl H4.out.drew (fun hHeld => ?_)
    refine take_ (i := 0) (N := some 6) (v := pkV p (.slice A L c)) #[true, false, false, false, false] rfl rfl (by kernel_rfl) (fun _ _ _ h => h) (Or.inl ⟨by rfl, fun w' hs => run_ldpk (.tmp 1) rfl rfl hs.P⟩) hHeld rfl ?_
    refine norm_ (a' := ?_) ?_ ?_
    rotate_left
    · show Act.put _ (some 6) _ = _
      simp only [Act.put, List.setIfInBounds_toArray, List.set_cons_zero, List.set_cons_succ, i64_w, i32_w]
      rfl
    refine take_ (i := 1) (N := some 7) (v := pkV p (.slice A L c)) #[true, true, false, false, false] rfl rfl (by kernel_rfl) (fun _ _ _ h => h) (Or.inl ⟨by rfl, fun w' hs => run_ldpk (.tmp 1) rfl rfl hs.P⟩) hHeld rfl ?_
    refine norm_ (a' := ?_) ?_ ?_
    rotate_left
    · show Act.put _ (some 7) _ = _
      simp only [Act.put, List.setIfInBounds_toArray, List.set_cons_zero, List.set_cons_succ, i64_w, i32_w]
      rfl
    refine one_ (i := 2) (N := some 8) #[true, true, true, false, false] rfl rfl (by kernel_rfl) (by decide) (fun K hK => ?_)
    refine call_ 22 #[pkV p (.slice A L c)] (by rfl) rfl ?_ ?_
    · have he := enters_ (P := Tryd.prog) Tryd.func22 (by kernel_rfl) rfl #[pkV p (.slice A L c)] w4.drew
      unfold execOp
      simp [resolve, Deferred.ofValue, invoke, Act.eval, he]
    refine (bare_calls p A L c w4.drew).mono ?_
    rintro e w5 ⟨rfl, hb⟩
    refine ⟨_, rfl, ?_⟩
    have hH5x := hHeld.below hb
    clear hb
    refine hK.out _ _ hH5x (fun hH5 => ?_)
    clear hK K hHeld
    refine norm_ (a' := ?_) ?_ ?_
    rotate_left
    · show Act.put _ (some 8) _ = _
      simp only [Act.put, List.setIfInBounds_toArray, List.set_cons_zero, List.set_cons_succ, i64_w, i32_w]
      rfl
    refine one_ (i := 3) (N := some 9) #[true, true, true, true, false] rfl rfl (by kernel_rfl) (by decide) (fun K hK => ?_)
    refine call_ 16 #[pkV p (.slice A L c), pkV (bareP p) (bareV p (.slice A L c))] (by rfl) rfl ?_ ?_
    · have he := enters_ (P := Tryd.prog) Tryd.func16 (by kernel_rfl) rfl #[pkV p (.slice A L c), pkV (bareP p) (bareV p (.slice A L c))] w5
      unfold execOp
      simp [resolve, Deferred.ofValue, invoke, Act.eval, he]
    refine (SamR_calls (D := fun k => k < w.heap.size) (D' := fun k => k < w.heap.size) p (bareP p) (.slice A L c) (bareV p (.slice A L c)) w5 (HP.out.at0 hH5.B) (HBV.out.at0 hH5.B) (fun k hk => Nat.lt_of_lt_of_le hk hH5.B.size) (fun k hk => Nat.lt_of_lt_of_le hk hH5.B.size)).mono ?_
    rw [HEQ.out]
    rintro e w6 ⟨rfl, hb⟩
    refine ⟨_, rfl, ?_⟩
    have hH6x := hH5.below hb
    clear hb
    refine hK.out _ _ hH6x (fun hH6 => ?_)
    clear hK K hH5
    refine norm_ (a' := ?_) ?_ ?_
    rotate_left
    · show Act.put _ (some 9) _ = _
      simp only [Act.put, List.setIfInBounds_toArray, List.set_cons_zero, List.set_cons_succ, i64_w, i32_w]
      rfl
    refine pure_ (i := 4) (N := some 10) (v := ?_) (a' := ?_) #[true, true, true, true, true] rfl rfl (by kernel_rfl) (fun _ _ _ h => h) (Or.inl ⟨by rfl, ?_⟩) ?_ ?_
    rotate_left
    · intro w'
      go_simp
      with_reducible rfl
    rotate_left
    · simp only [Act.put, List.setIfInBounds_toArray, List.set_cons_zero, List.set_cons_succ, i64_w, i32_w]
      rfl
    refine done_ (by kernel_rfl) ?_
    have s0 : w6.cell? ⟨w.heap.size, 0, none⟩ = some (.int .i64 1) := (blk_cell hH6.P 0).trans (congrArg (fun z => some (Value.int .i64 z)) HK.out)
    have s10 : w6.cell? ⟨w.heap.size, 10, none⟩ = some (.slice A L c) := (blk_cell hH6.P 10).trans rfl
    go_wp2
    go_ret
    exact ⟨by rw [HN.out]; rfl, hH6.B⟩
  · have hk2 : p.kind = 2 := hr.2.2.2.elim (fun q => absurd q.1 hk) (fun q => q.1)
    have HK := Lib.hid hk2
    have hw := hn.trans (why_a hr hq hk)
    have HSZ : Hid (p.size ≤ 4294967295) := Lib.hid (hr.2.2.2.elim (fun q => absurd q.1 hk) (fun q => by have := q.2.2.1; omega))
    have HW := Lib.hid hw
    clear hr hn hb hq hk hk2 hw
    go_enter Tryd.func10, Tryd.ntmps10
    go_upto_region 3 with (first
      | ((with_reducible refine gate_dst (N := 1) rfl ?_); refine wp_box rfl (.tmp 0) rfl rfl HU.out ?_; intro w2 hP hB hs; have H2 := Lib.hid (SB.mk hP hB); clear hP hB hs)
      | ((with_reducible refine gate_dst (N := 3) rfl ?_); refine wp_ldpk rfl (.tmp 1) rfl rfl H2.out.P ?_)
      | (go_at_call 21; refine (ranged_calls p _ _ HU.out HPB.out).mono ?_; rw [HR.out]; rintro e w4 ⟨rfl, hb⟩; have H4 := Lib.hid (H2.out.below hb); clear hb H2))
    refine start_ (n := 5) (S := fun w' => SB w w.heap.size p (.slice A L c) w') (ds := []) #[false, false, false, false, false] (by kernel_rfl) rfl rfl H4.out.drew (fun hHeld => ?_)
    refine take_ (i := 0) (N := some 6) (v := pkV p (.slice A L c)) #[true, false, false, false, false] rfl rfl (by kernel_rfl) (fun _ _ _ h => h) (Or.inl ⟨by rfl, fun w' hs => run_ldpk (.tmp 1) rfl rfl hs.P⟩) hHeld rfl ?_
    refine norm_ (a' := ?_) ?_ ?_
    rotate_left
    · show Act.put _ (some 6) _ = _
      simp only [Act.put, List.setIfInBounds_toArray, List.set_cons_zero, List.set_cons_succ, i64_w, i32_w]
      rfl
    refine take_ (i := 1) (N := some 7) (v := pkV p (.slice A L c)) #[true, true, false, false, false] rfl rfl (by kernel_rfl) (fun _ _ _ h => h) (Or.inl ⟨by rfl, fun w' hs => run_ldpk (.tmp 1) rfl rfl hs.P⟩) hHeld rfl ?_
    refine norm_ (a' := ?_) ?_ ?_
    rotate_left
    · show Act.put _ (some 7) _ = _
      simp only [Act.put, List.setIfInBounds_toArray, List.set_cons_zero, List.set_cons_succ, i64_w, i32_w]
      rfl
    refine one_ (i := 2) (N := some 8) #[true, true, true, false, false] rfl rfl (by kernel_rfl) (by decide) (fun K hK => ?_)
    refine call_ 22 #[pkV p (.slice A L c)] (by rfl) rfl ?_ ?_
    · have he := enters_ (P := Tryd.prog) Tryd.func22 (by kernel_rfl) rfl #[pkV p (.slice A L c)] w4.drew
      unfold execOp
      simp [resolve, Deferred.ofValue, invoke, Act.eval, he]
    refine (bare_calls p A L c w4.drew).mono ?_
    rintro e w5 ⟨rfl, hb⟩
    refine ⟨_, rfl, ?_⟩
    have hH5x := hHeld.below hb
    clear hb
    refine hK.out _ _ hH5x (fun hH5 => ?_)
    clear hK K hHeld
    refine norm_ (a' := ?_) ?_ ?_
    rotate_left
    · show Act.put _ (some 8) _ = _
      simp only [Act.put, List.setIfInBounds_toArray, List.set_cons_zero, List.set_cons_succ, i64_w, i32_w]
      rfl
    refine one_ (i := 3) (N := some 9) #[true, true, true, true, false] rfl rfl (by kernel_rfl) (by decide) (fun K hK => ?_)
    refine call_ 16 #[pkV p (.slice A L c), pkV (bareP p) (bareV p (.slice A L c))] (by rfl) rfl ?_ ?_
    · have he := enters_ (P := Tryd.prog) Tryd.func16 (by kernel_rfl) rfl #[pkV p (.slice A L c), pkV (bareP p) (bareV p (.slice A L c))] w5
      unfold execOp
      simp [resolve, Deferred.ofValue, invoke, Act.eval, he]
    refine (SamR_calls (D := fun k => k < w.heap.size) (D' := fun k => k < w.heap.size) p (bareP p) (.slice A L c) (bareV p (.slice A L c)) w5 (HP.out.at0 hH5.B) (HBV.out.at0 hH5.B) (fun k hk => Nat.lt_of_lt_of_le hk hH5.B.size) (fun k hk => Nat.lt_of_lt_of_le hk hH5.B.size)).mono ?_
    rw [HEQ.out]
    rintro e w6 ⟨rfl, hb⟩
    refine ⟨_, rfl, ?_⟩
    have hH6x := hH5.below hb
    clear hb
    refine hK.out _ _ hH6x (fun hH6 => ?_)
    clear hK K hH5
    refine norm_ (a' := ?_) ?_ ?_
    rotate_left
    · show Act.put _ (some 9) _ = _
      simp only [Act.put, List.setIfInBounds_toArray, List.set_cons_zero, List.set_cons_succ, i64_w, i32_w]
      rfl
    refine pure_ (i := 4) (N := some 10) (v := ?_) (a' := ?_) #[true, true, true, true, true] rfl rfl (by kernel_rfl) (fun _ _ _ h => h) (Or.inl ⟨by rfl, ?_⟩) ?_ ?_
    rotate_left
    · intro w'
      go_simp
      with_reducible rfl
    rotate_left
    · simp only [Act.put, List.setIfInBounds_toArray, List.set_cons_zero, List.set_cons_succ, i64_w, i32_w]
      rfl
    refine done_ (by kernel_rfl) ?_
    have s0 : w6.cell? ⟨w.heap.size, 0, none⟩ = some (.int .i64 2) := (blk_cell hH6.P 0).trans (congrArg (fun z => some (Value.int .i64 z)) HK.out)
    have s10 : w6.cell? ⟨w.heap.size, 10, none⟩ = some (.slice A L c) := (blk_cell hH6.P 10).trans rfl
    have s11 : w6.cell? ⟨w.heap.size, 11, none⟩ = some (.int .i64 p.size) := (blk_cell hH6.P 11).trans rfl
    have s12 : w6.cell? ⟨w.heap.size, 12, none⟩ = some (.int .i64 p.sym) := (blk_cell hH6.P 12).trans rfl
    have s13 : w6.cell? ⟨w.heap.size, 13, none⟩ = some (.int .i64 p.blocks) := (blk_cell hH6.P 13).trans rfl
    have s14 : w6.cell? ⟨w.heap.size, 14, none⟩ = some (.int .i64 p.long) := (blk_cell hH6.P 14).trans rfl
    have s15 : w6.cell? ⟨w.heap.size, 15, none⟩ = some (.int .i64 p.short) := (blk_cell hH6.P 15).trans rfl
    go_wp2_with (first
      | (go_at_call 23
         refine (chk14R_calls p.size p.sym p.blocks p.long p.short _ HSZ.out).mono ?_
         rintro e w7 ⟨m, rfl, hm, hb⟩
         have H7 := Lib.hid (And.intro hm (hH6.B.trans (hb.mono hH6.B.size)))
         clear hm hb
         by_cases h0 : m = 0
         · subst h0
           have HN : Hid (n = 0) := Lib.hid (HW.out.trans (if_pos (H7.out.1.1 rfl)))
           go_wp2
           go_ret
           exact ⟨by rw [HN.out]; rfl, H7.out.2⟩
         · have HN : Hid (n = 2) := Lib.hid (HW.out.trans (if_neg (fun h => h0 (H7.out.1.2 h))))
           have e1 : (m != 0) = true := bne_iff_ne.2 h0
           have e2 : (m == 0) = false := beq_eq_false_iff_ne.2 h0
           clear h0
           go_wp2
           go_ret
           exact ⟨by rw [HN.out]; rfl, H7.out.2⟩))
end Go.Proofs.YtfcofokbhhnfkaaDoor.Byt
