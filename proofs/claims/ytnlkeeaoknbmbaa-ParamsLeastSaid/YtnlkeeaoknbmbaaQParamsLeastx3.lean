-- Written by a program of this session out of the translation. Lean checks it.
import Derived.Test.YtnlkeeaoknbmbaaQParamsLeastx0
import Derived.Test.YtnlkeeaoknbmbaaQParamsLeastx2
namespace Go.Proofs.Ytnlkeeaoknbmbaa.QParamsLeast
open Go.RowKit Go.Proofs.Ytnlkeeaoknbmbaa.Er Go.Proofs.YtnlkeeaoknbmbaaW.PrintWords Go.Proofs.YtnlkeeaoknbmbaaW.PrintLast Go.Proofs.YtnlkeeaoknbmbaaW.PrintMore
attribute [local go_sem] max2_int min2_int max_two min_two max_three min_three max_four min_four   -- for this text's walks alone
set_option linter.unusedVariables false
set_option linter.unusedSimpArgs false

/-! ### geyserlaw08_ParamsLeast: function 3 -/
mutual
def geyserlaw08_ParamsLeast.j0 : Nat → Int → Int → Option Er → Bool → Option (Bool)
  | 0, _, _, _, _ => none
  | k + 1, x0, x3, x4, x17 => if x17 = true then (if x4.isNone = true then (if (true == (decide (x0 ≤ 65521))) = true then ((geyserlaw08_awake.f k).bind fun t135 => (some t135)) else (some false)) else (if (false == (decide (x0 ≤ 65521))) = true then ((geyserlaw08_awake.f k).bind fun t136 => (some t136)) else (some false))) else (geyserlaw08_ParamsLeast.l0 k x0 x3 x0)
def geyserlaw08_ParamsLeast.l0 : Nat → Int → Int → Int → Option (Bool)
  | 0, _, _, _ => none
  | k + 1, x0, x3, x5 => if x5 < x3 then ((IsPrime.f x5).bind fun t137 => (if t137 = true then (some false) else (geyserlaw08_ParamsLeast.l0 k x0 x3 (wrap64 (x5 + 1))))) else (geyserlaw08_ParamsLeast.l1 k x0 x3 2)
def geyserlaw08_ParamsLeast.l1 : Nat → Int → Int → Int → Option (Bool)
  | 0, _, _, _ => none
  | k + 1, x0, x3, x6 => if x6 < x3 then (if x6 = 0 then (none) else (if (Int.tmod x3 x6) = 0 then (some false) else (geyserlaw08_ParamsLeast.l1 k x0 x3 (wrap64 (x6 + 1))))) else (if x3 ≥ 2 then (if x3 ≥ x0 then ((geyserlaw08_awake.f k).bind fun t138 => (some t138)) else (some false)) else (some false))
end
def geyserlaw08_ParamsLeast.f (k : Nat) (a0 : Int) : Option (Bool) := (params_Prime.f k a0).bind fun bt131 => (if bt131.2.isNone = true then (geyserlaw08_ParamsLeast.j0 k a0 bt131.1 none (decide (a0 < (-1000)))) else (geyserlaw08_ParamsLeast.j0 k a0 bt131.1 (some (bt131.2.getD dEr)) true))
theorem geyserlaw08_ParamsLeast.mono_l : ∀ k, (∀ y0 y1 y2 y3, LeO (geyserlaw08_ParamsLeast.j0 k y0 y1 y2 y3) (geyserlaw08_ParamsLeast.j0 (k + 1) y0 y1 y2 y3)) ∧ (∀ y0 y1 y2, LeO (geyserlaw08_ParamsLeast.l0 k y0 y1 y2) (geyserlaw08_ParamsLeast.l0 (k + 1) y0 y1 y2)) ∧ (∀ y0 y1 y2, LeO (geyserlaw08_ParamsLeast.l1 k y0 y1 y2) (geyserlaw08_ParamsLeast.l1 (k + 1) y0 y1 y2))
  | 0 => ⟨fun _ _ _ _ r h => by simp [geyserlaw08_ParamsLeast.j0] at h, fun _ _ _ r h => by simp [geyserlaw08_ParamsLeast.l0] at h, fun _ _ _ r h => by simp [geyserlaw08_ParamsLeast.l1] at h⟩
  | k + 1 => by
    obtain ⟨ih0, ih1, ih2⟩ := geyserlaw08_ParamsLeast.mono_l k
    refine ⟨?_, ?_, ?_⟩
    · intro y0 y1 y2 y3
      unfold geyserlaw08_ParamsLeast.j0
      repeat' first
      | (with_reducible exact ih0 _ _ _ _)
      | (with_reducible exact ih1 _ _ _)
      | (with_reducible exact ih2 _ _ _)
      | (with_reducible exact geyserlaw08_awake.mono _)
      | (with_reducible exact params_Prime.mono _ _)
      | (with_reducible exact LeO.refl _)
      | (with_reducible exact LeO.none _)
      | (with_reducible refine LeO.ite ?_ ?_)
      | (with_reducible refine LeO.bind ?_ (fun _ => ?_))
      | exact ih0 _ _ _ _
      | exact ih1 _ _ _
      | exact ih2 _ _ _
      | exact geyserlaw08_awake.mono _
      | exact params_Prime.mono _ _
      | exact LeO.none _
      | refine LeO.ite ?_ ?_
      | refine LeO.bind ?_ (fun _ => ?_)
    · intro y0 y1 y2
      unfold geyserlaw08_ParamsLeast.l0
      repeat' first
      | (with_reducible exact ih0 _ _ _ _)
      | (with_reducible exact ih1 _ _ _)
      | (with_reducible exact ih2 _ _ _)
      | (with_reducible exact geyserlaw08_awake.mono _)
      | (with_reducible exact params_Prime.mono _ _)
      | (with_reducible exact LeO.refl _)
      | (with_reducible exact LeO.none _)
      | (with_reducible refine LeO.ite ?_ ?_)
      | (with_reducible refine LeO.bind ?_ (fun _ => ?_))
      | exact ih0 _ _ _ _
      | exact ih1 _ _ _
      | exact ih2 _ _ _
      | exact geyserlaw08_awake.mono _
      | exact params_Prime.mono _ _
      | exact LeO.none _
      | refine LeO.ite ?_ ?_
      | refine LeO.bind ?_ (fun _ => ?_)
    · intro y0 y1 y2
      unfold geyserlaw08_ParamsLeast.l1
      repeat' first
      | (with_reducible exact ih0 _ _ _ _)
      | (with_reducible exact ih1 _ _ _)
      | (with_reducible exact ih2 _ _ _)
      | (with_reducible exact geyserlaw08_awake.mono _)
      | (with_reducible exact params_Prime.mono _ _)
      | (with_reducible exact LeO.refl _)
      | (with_reducible exact LeO.none _)
      | (with_reducible refine LeO.ite ?_ ?_)
      | (with_reducible refine LeO.bind ?_ (fun _ => ?_))
      | exact ih0 _ _ _ _
      | exact ih1 _ _ _
      | exact ih2 _ _ _
      | exact geyserlaw08_awake.mono _
      | exact params_Prime.mono _ _
      | exact LeO.none _
      | refine LeO.ite ?_ ?_
      | refine LeO.bind ?_ (fun _ => ?_)
theorem geyserlaw08_ParamsLeast.mono : ∀ a0 k, LeO (geyserlaw08_ParamsLeast.f k a0) (geyserlaw08_ParamsLeast.f (k + 1) a0) := by
  intro a0 k
  obtain ⟨ih0, ih1, ih2⟩ := geyserlaw08_ParamsLeast.mono_l k
  unfold geyserlaw08_ParamsLeast.f
  repeat' first
      | (with_reducible exact ih0 _ _ _ _)
      | (with_reducible exact ih1 _ _ _)
      | (with_reducible exact ih2 _ _ _)
      | (with_reducible exact geyserlaw08_awake.mono _)
      | (with_reducible exact params_Prime.mono _ _)
      | (with_reducible exact LeO.refl _)
      | (with_reducible exact LeO.none _)
      | (with_reducible refine LeO.ite ?_ ?_)
      | (with_reducible refine LeO.bind ?_ (fun _ => ?_))
      | exact ih0 _ _ _ _
      | exact ih1 _ _ _
      | exact ih2 _ _ _
      | exact geyserlaw08_awake.mono _
      | exact params_Prime.mono _ _
      | exact LeO.none _
      | refine LeO.ite ?_ ?_
      | refine LeO.bind ?_ (fun _ => ?_)
set_option maxHeartbeats 8000000 in
set_option maxRecDepth 100000 in
theorem geyserlaw08_ParamsLeast.calls (k : Nat) (a0 : Int) (r : Bool) (w : World) (h : geyserlaw08_ParamsLeast.f k a0 = some r) :
    Calls Try.prog 3 #[.int .i64 a0] w fun e w' => e = .returned (.bool r) ∧ Below w.heap.size w w' := by
  have hu23 := Try.underlying23
  have HB := Aside0.mk (Below.refl w.heap.size w)
  have H : ((params_Prime.f k a0).bind fun bt131 => (if bt131.2.isNone = true then (geyserlaw08_ParamsLeast.j0 k a0 bt131.1 none (decide (a0 < (-1000)))) else (geyserlaw08_ParamsLeast.j0 k a0 bt131.1 (some (bt131.2.getD dEr)) true))) = some r := h
  clear h
  replace H := Option.bind_eq_some_iff.mp H
  obtain ⟨⟨t131, t132⟩, A20, H⟩ := H
  replace H : (if t132.isNone = true then (geyserlaw08_ParamsLeast.j0 k a0 t131 none (decide (a0 < (-1000)))) else (geyserlaw08_ParamsLeast.j0 k a0 t131 (some (t132.getD dEr)) true)) = some r := H
  have A2 := Aside0.mk A20
  clear A20
  have HC3 := Aside0.mk H
  clear H
  go_enter Try.func3, Try.ntmps3
  go_upto_region 2 with (first | ((with_reducible refine gate_callee (f := 6) rfl ?_); refine goesL_ (some 9) rfl rfl Try.func6 (by kernel_rfl) rfl #[.int .i64 a0] rfl (by (try simp only [List.map_toArray, List.map_cons, List.map_nil]); first | done | rfl | (simp only [List.length_drop, List.length_take]; rfl)) ?_; (with_reducible refine (params_Prime.calls k a0 t131 t132 _ A2.out).mono ?_); rintro e w4 ⟨ev_t132, rfl, he0, hb⟩; refine ⟨_, rfl, ?_⟩; have n0_ := Aside0.mk (below_step (by repeat (first | (with_reducible first | exact HB.out | apply below_alloc | apply pw_below_drewN | apply below_drew1) | exact HB.out)) hb); clear HB; have HB := n0_; clear n0_; (try clear hb); (try clear hb2); (try clear hk); (try clear hi); have HE_t132 := Aside0.mk he0; clear he0))
  (try simp only [Act.put, List.setIfInBounds_toArray, List.set_cons_zero, List.set_cons_succ])
  go_cut [17] (fun v17 wc => ∃ (kq : Nat) (x17_2 : Bool), v17 = .bool x17_2 ∧ Aside0 (geyserlaw08_ParamsLeast.j0 kq a0 t131 t132 x17_2 = some r) ∧ Aside0 (kq ≤ k) ∧ Aside0 (ErR wc (ev_t132) t132) ∧ Aside0 (Below w.heap.size w wc))
  case first =>
    have H := HC3.out
    clear HC3
    rcases t132 with _ | q133
    · have H1 : (geyserlaw08_ParamsLeast.j0 k a0 t131 none (decide (a0 < (-1000)))) = some r := by rw [if_pos (show (none : Option Er).isNone = true by rfl)] at H; exact H
      clear H
      have H := H1
      clear H1
      try simp only [errW_none, errW_some]
      (try (obtain rfl := ErR_nil HE_t132.out; clear HE_t132))
      have H' := Aside0.mk H
      clear H
      go_wp2
      go_meet
      case rel => exact ⟨_, (decide (a0 < (-1000))), (by first | rfl | (simp; done) | (simp [*]; done)), H', ⟨by first | omega | exact Nat.le_refl _⟩, ⟨by repeat (first | (with_reducible exact HE_t132.out) | (with_reducible exact ErR_none _) | (with_reducible exact Aside0.out (by assumption)) | (with_reducible apply ErR_drew) | (with_reducible apply ErR_drewN) | (with_reducible apply ErR_alloc) | (with_reducible refine ErR_set (by repeat (first | (with_reducible refine NF_blk (Aside0.out (by assumption)) (by decide)) | (with_reducible apply NF_set) | (with_reducible apply NF_drew) | (with_reducible apply NF_drewN) | (with_reducible apply NF_alloc))) ?_) | exact HE_t132.out | apply ErR_drew | apply ErR_drewN | apply ErR_alloc)⟩, ⟨by repeat (first | (with_reducible first | exact HB.out | apply below_alloc | apply pw_below_drewN | apply below_drew1) | exact HB.out)⟩⟩
    · have H1 : (geyserlaw08_ParamsLeast.j0 k a0 t131 (some q133) true) = some r := by rw [if_neg (show ¬ (some q133).isNone = true by simp)] at H; exact H
      clear H
      have H := H1
      clear H1
      try simp only [errW_none, errW_some]
      (try (obtain ⟨ad_q133, rfl⟩ := ErR_ptr HE_t132.out; have HE_q133 := HE_t132; clear HE_t132))
      have H' := Aside0.mk H
      clear H
      go_wp2
      go_meet
      case rel => exact ⟨_, (true), (by first | rfl | (simp; done) | (simp [*]; done)), H', ⟨by first | omega | exact Nat.le_refl _⟩, ⟨by repeat (first | (with_reducible exact HE_t132.out) | (with_reducible exact ErR_none _) | (with_reducible exact Aside0.out (by assumption)) | (with_reducible apply ErR_drew) | (with_reducible apply ErR_drewN) | (with_reducible apply ErR_alloc) | (with_reducible refine ErR_set (by repeat (first | (with_reducible refine NF_blk (Aside0.out (by assumption)) (by decide)) | (with_reducible apply NF_set) | (with_reducible apply NF_drew) | (with_reducible apply NF_drewN) | (with_reducible apply NF_alloc))) ?_) | exact HE_t132.out | apply ErR_drew | apply ErR_drewN | apply ErR_alloc)⟩, ⟨by repeat (first | (with_reducible first | exact HB.out | apply below_alloc | apply pw_below_drewN | apply below_drew1) | exact HB.out)⟩⟩
  case rest =>
    clear HC3
    try clear q1
    try clear p2
    try clear c3
    try clear q133
    obtain ⟨kq, x17_2, rfl, HA, HJ2, HE_t132, HB⟩ := hcut
    cases kq with
    | zero => exact absurd HA.out (by simp [geyserlaw08_ParamsLeast.j0])
    | succ kj2 =>
      have H := HA.out
      clear HA
      simp only [geyserlaw08_ParamsLeast.j0] at H
      by_cases c5 : x17_2 = true
      · subst c5
        have H1 : (if t132.isNone = true then (if (true == (decide (a0 ≤ 65521))) = true then ((geyserlaw08_awake.f kj2).bind fun t135 => (some t135)) else (some false)) else (if (false == (decide (a0 ≤ 65521))) = true then ((geyserlaw08_awake.f kj2).bind fun t136 => (some t136)) else (some false))) = some r := by rw [if_pos rfl] at H; exact H
        clear H
        have H := H1
        clear H1
        rcases t132 with _ | q134
        · have H1 : (if (true == (decide (a0 ≤ 65521))) = true then ((geyserlaw08_awake.f kj2).bind fun t135 => (some t135)) else (some false)) = some r := by rw [if_pos (show (none : Option Er).isNone = true by rfl)] at H; exact H
          clear H
          have H := H1
          clear H1
          try simp only [errW_none, errW_some]
          (try (obtain rfl := ErR_nil HE_t132.out; clear HE_t132))
          by_cases c6 : (true == (decide (a0 ≤ 65521))) = true
          · rw [if_pos c6] at H
            have c6b0 : (true == (decide (a0 ≤ 65521))) = true := c6
            (try (have c6b1 : decide (true = (decide (a0 ≤ 65521))) = true := by simpa using c6))
            (try (have c6b2 : (true == (decide (a0 ≤ 65521))) = true := by simpa using c6))
            clear c6
            replace H := Option.bind_eq_some_iff.mp H
            obtain ⟨t135, A70, H⟩ := H
            replace H : (some t135) = some r := H
            have A7 := Aside0.mk A70
            clear A70
            obtain rfl := Option.some.inj H
            go_wp2_with (first | (go_at_call 7; (with_reducible refine (geyserlaw08_awake.calls kj2  t135 _ A7.out).mono ?_); rintro e w8 ⟨rfl, hb⟩; (try (have nE_ := Aside0.mk (ErR_below hb (by repeat (first | (with_reducible exact HE_t132.out) | (with_reducible exact ErR_none _) | (with_reducible exact Aside0.out (by assumption)) | (with_reducible apply ErR_drew) | (with_reducible apply ErR_drewN) | (with_reducible apply ErR_alloc) | (with_reducible refine ErR_set (by repeat (first | (with_reducible refine NF_blk (Aside0.out (by assumption)) (by decide)) | (with_reducible apply NF_set) | (with_reducible apply NF_drew) | (with_reducible apply NF_drewN) | (with_reducible apply NF_alloc))) ?_) | exact HE_t132.out | apply ErR_drew | apply ErR_drewN | apply ErR_alloc))); clear HE_t132; have HE_t132 := nE_; clear nE_)); have n0_ := Aside0.mk (below_step (by repeat (first | (with_reducible first | exact HB.out | apply below_alloc | apply pw_below_drewN | apply below_drew1) | exact HB.out)) hb); clear HB; have HB := n0_; clear n0_; (try clear hb); (try clear hb2); (try clear hk); (try clear hi)))
            go_ret
            exact ⟨by first | rfl | (simp [errW_none, errW_some] <;> rfl) | (simp [*, errW_none, errW_some] <;> rfl), by repeat (first | (with_reducible first | exact HB.out | apply below_alloc | apply pw_below_drewN | apply below_drew1) | exact HB.out)⟩
          · rw [if_neg c6] at H
            have c6b0 : (true == (decide (a0 ≤ 65521))) = false := by simpa using c6
            (try (have c6b1 : decide (true = (decide (a0 ≤ 65521))) = false := by simpa using c6))
            (try (have c6b2 : (true == (decide (a0 ≤ 65521))) = false := by simpa using c6))
            (try (have c6b3 : ¬ (true = (decide (a0 ≤ 65521))) := by simpa using c6))
            clear c6
            obtain rfl := Option.some.inj H
            go_wp2
            go_ret
            exact ⟨by first | rfl | (simp [errW_none, errW_some] <;> rfl) | (simp [*, errW_none, errW_some] <;> rfl), by repeat (first | (with_reducible first | exact HB.out | apply below_alloc | apply pw_below_drewN | apply below_drew1) | exact HB.out)⟩
        · have H1 : (if (false == (decide (a0 ≤ 65521))) = true then ((geyserlaw08_awake.f kj2).bind fun t136 => (some t136)) else (some false)) = some r := by rw [if_neg (show ¬ (some q134).isNone = true by simp)] at H; exact H
          clear H
          have H := H1
          clear H1
          try simp only [errW_none, errW_some]
          (try (obtain ⟨ad_q134, rfl⟩ := ErR_ptr HE_t132.out; have HE_q134 := HE_t132; clear HE_t132))
          by_cases c9 : (false == (decide (a0 ≤ 65521))) = true
          · rw [if_pos c9] at H
            have c9b0 : (false == (decide (a0 ≤ 65521))) = true := c9
            (try (have c9b1 : decide (false = (decide (a0 ≤ 65521))) = true := by simpa using c9))
            (try (have c9b2 : (false == (decide (a0 ≤ 65521))) = true := by simpa using c9))
            clear c9
            replace H := Option.bind_eq_some_iff.mp H
            obtain ⟨t136, A100, H⟩ := H
            replace H : (some t136) = some r := H
            have A10 := Aside0.mk A100
            clear A100
            obtain rfl := Option.some.inj H
            go_wp2_with (first | (go_at_call 7; (with_reducible refine (geyserlaw08_awake.calls kj2  t136 _ A10.out).mono ?_); rintro e w11 ⟨rfl, hb⟩; (try (have nE_ := Aside0.mk (ErR_below hb (by repeat (first | (with_reducible exact HE_t132.out) | (with_reducible exact ErR_none _) | (with_reducible exact Aside0.out (by assumption)) | (with_reducible apply ErR_drew) | (with_reducible apply ErR_drewN) | (with_reducible apply ErR_alloc) | (with_reducible refine ErR_set (by repeat (first | (with_reducible refine NF_blk (Aside0.out (by assumption)) (by decide)) | (with_reducible apply NF_set) | (with_reducible apply NF_drew) | (with_reducible apply NF_drewN) | (with_reducible apply NF_alloc))) ?_) | exact HE_t132.out | apply ErR_drew | apply ErR_drewN | apply ErR_alloc))); clear HE_t132; have HE_t132 := nE_; clear nE_)); have n0_ := Aside0.mk (below_step (by repeat (first | (with_reducible first | exact HB.out | apply below_alloc | apply pw_below_drewN | apply below_drew1) | exact HB.out)) hb); clear HB; have HB := n0_; clear n0_; (try clear hb); (try clear hb2); (try clear hk); (try clear hi)))
            go_ret
            exact ⟨by first | rfl | (simp [errW_none, errW_some] <;> rfl) | (simp [*, errW_none, errW_some] <;> rfl), by repeat (first | (with_reducible first | exact HB.out | apply below_alloc | apply pw_below_drewN | apply below_drew1) | exact HB.out)⟩
          · rw [if_neg c9] at H
            have c9b0 : (false == (decide (a0 ≤ 65521))) = false := by simpa using c9
            (try (have c9b1 : decide (false = (decide (a0 ≤ 65521))) = false := by simpa using c9))
            (try (have c9b2 : (false == (decide (a0 ≤ 65521))) = false := by simpa using c9))
            (try (have c9b3 : ¬ (false = (decide (a0 ≤ 65521))) := by simpa using c9))
            clear c9
            obtain rfl := Option.some.inj H
            go_wp2
            go_ret
            exact ⟨by first | rfl | (simp [errW_none, errW_some] <;> rfl) | (simp [*, errW_none, errW_some] <;> rfl), by repeat (first | (with_reducible first | exact HB.out | apply below_alloc | apply pw_below_drewN | apply below_drew1) | exact HB.out)⟩
      · replace c5 := Bool.eq_false_iff.mpr c5
        subst c5
        have H1 : (geyserlaw08_ParamsLeast.l0 kj2 a0 t131 a0) = some r := by rw [if_neg (show ¬ (false = true) by decide)] at H; exact H
        clear H
        have H := H1
        clear H1
        have H' := Aside0.mk H
        clear H
        go_wp2
        go_loopg [5] kj2 (fun kq v5 w' => ∃ (x5_2 : Int), v5 = .int .i64 x5_2 ∧ Aside0 (geyserlaw08_ParamsLeast.l0 kq a0 t131 x5_2 = some r) ∧ Aside0 (kq ≤ kj2) ∧ Aside0 (Below w.heap.size w w'))
        case atStart => exact ⟨(a0), (by first | rfl | (simp; done) | (simp [*]; done)), H', ⟨Nat.le_refl _⟩, ⟨by repeat (first | (with_reducible first | exact HB.out | apply below_alloc | apply pw_below_drewN | apply below_drew1) | exact HB.out)⟩⟩
        case round =>
          clear H'
          try clear q1
          try clear p2
          try clear c3
          try clear c5
          try clear c6
          try clear c6b0
          try clear c6b1
          try clear c6b2
          try clear c9
          try clear c9b0
          try clear c9b1
          try clear c9b2
          try clear p2
          try clear q1
          try clear q133
          try clear q134
          obtain ⟨x5_2, rfl, HA, HK2, HB⟩ := hrel
          cases gk with
          | zero => exact absurd HA.out (by simp [geyserlaw08_ParamsLeast.l0])
          | succ k2 =>
            have H := HA.out
            clear HA
            simp only [geyserlaw08_ParamsLeast.l0] at H
            by_cases c12 : x5_2 < t131
            · rw [if_pos c12] at H
              have c12b0 : decide (x5_2 < t131) = true := decide_eq_true c12
              clear c12
              replace H := Option.bind_eq_some_iff.mp H
              obtain ⟨t137, A130, H⟩ := H
              replace H : (if t137 = true then (some false) else (geyserlaw08_ParamsLeast.l0 k2 a0 t131 (wrap64 (x5_2 + 1)))) = some r := H
              have A13 := Aside0.mk A130
              clear A130
              by_cases c14 : t137 = true
              · subst c14
                have H1 : (some false) = some r := by rw [if_pos rfl] at H; exact H
                clear H
                have H := H1
                clear H1
                obtain rfl := Option.some.inj H
                go_wp2_with (first | ((with_reducible refine gate_callee (f := 8) rfl ?_); refine goesL_ (some 33) rfl rfl Try.func8 (by kernel_rfl) rfl #[.int .i64 x5_2] rfl (by (try simp only [List.map_toArray, List.map_cons, List.map_nil]); first | done | rfl | (simp only [List.length_drop, List.length_take]; rfl)) ?_; (with_reducible refine (IsPrime.calls x5_2 true _ A13.out).mono ?_); rintro e w' ⟨rfl, ⟨nd, rfl⟩⟩; refine ⟨_, rfl, ?_⟩))
                go_ret
                exact ⟨by first | rfl | (simp [errW_none, errW_some] <;> rfl) | (simp [*, errW_none, errW_some] <;> rfl), by repeat (first | (with_reducible first | exact HB.out | apply below_alloc | apply pw_below_drewN | apply below_drew1) | exact HB.out)⟩
              · replace c14 := Bool.eq_false_iff.mpr c14
                subst c14
                have H1 : (geyserlaw08_ParamsLeast.l0 k2 a0 t131 (wrap64 (x5_2 + 1))) = some r := by rw [if_neg (show ¬ (false = true) by decide)] at H; exact H
                clear H
                have H := H1
                clear H1
                have H' := Aside0.mk H
                clear H
                go_wp2_with (first | ((with_reducible refine gate_callee (f := 8) rfl ?_); refine goesL_ (some 33) rfl rfl Try.func8 (by kernel_rfl) rfl #[.int .i64 x5_2] rfl (by (try simp only [List.map_toArray, List.map_cons, List.map_nil]); first | done | rfl | (simp only [List.length_drop, List.length_take]; rfl)) ?_; (with_reducible refine (IsPrime.calls x5_2 false _ A13.out).mono ?_); rintro e w' ⟨rfl, ⟨nd, rfl⟩⟩; refine ⟨_, rfl, ?_⟩))
                go_roundg k2
                case measure => have := HJ2.out; have := HK2.out; omega
                case rel => exact ⟨(wrap64 (x5_2 + 1)), (by first | rfl | (simp; done) | (simp [*]; done)), H', ⟨by have := HJ2.out; have := HK2.out; omega⟩, ⟨by repeat (first | (with_reducible first | exact HB.out | apply below_alloc | apply pw_below_drewN | apply below_drew1) | exact HB.out)⟩⟩
            · rw [if_neg c12] at H
              have c12b0 : decide (x5_2 < t131) = false := decide_eq_false c12
              clear c12
              have H' := Aside0.mk H
              clear H
              go_wp2
              go_loopg [6] k2 (fun kq v6 w' => ∃ (x6_3 : Int), v6 = .int .i64 x6_3 ∧ Aside0 (geyserlaw08_ParamsLeast.l1 kq a0 t131 x6_3 = some r) ∧ Aside0 (kq ≤ k2) ∧ Aside0 (Below w.heap.size w w'))
              case atStart => exact ⟨(2), (by first | rfl | (simp; done) | (simp [*]; done)), H', ⟨Nat.le_refl _⟩, ⟨by repeat (first | (with_reducible first | exact HB.out | apply below_alloc | apply pw_below_drewN | apply below_drew1) | exact HB.out)⟩⟩
              case round =>
                clear H'
                try clear c1
                try clear q1
                try clear p2
                try clear c3
                try clear c5
                try clear c6
                try clear c6b0
                try clear c6b1
                try clear c6b2
                try clear p6
                try clear c8
                try clear c9
                try clear c9b0
                try clear c9b1
                try clear c9b2
                try clear c12
                try clear c12b0
                try clear q13
                try clear c14
                try clear p2
                try clear q1
                try clear q133
                try clear q134
                obtain ⟨x6_3, rfl, HA, HK3, HB⟩ := hrel
                cases gk with
                | zero => exact absurd HA.out (by simp [geyserlaw08_ParamsLeast.l1])
                | succ k3 =>
                  have H := HA.out
                  clear HA
                  simp only [geyserlaw08_ParamsLeast.l1] at H
                  by_cases c15 : x6_3 < t131
                  · rw [if_pos c15] at H
                    have c15b0 : decide (x6_3 < t131) = true := decide_eq_true c15
                    clear c15
                    by_cases c16 : x6_3 = 0
                    · rw [if_pos c16] at H
                      exact absurd H (by simp)
                    · rw [if_neg c16] at H
                      have c16b0 : (x6_3 == 0) = false := beq_eq_false_iff_ne.mpr c16
                      have c16b1 : (x6_3 != 0) = true := bne_iff_ne.mpr c16
                      by_cases c17 : (Int.tmod t131 x6_3) = 0
                      · rw [if_pos c17] at H
                        have c17b0 : ((Int.tmod t131 x6_3) == 0) = true := beq_iff_eq.mpr c17
                        have c17b1 : ((Int.tmod t131 x6_3) != 0) = false := bne_eq_false_iff_eq.mpr c17
                        clear c17
                        obtain rfl := Option.some.inj H
                        go_wp2
                        go_ret
                        exact ⟨by first | rfl | (simp [errW_none, errW_some] <;> rfl) | (simp [*, errW_none, errW_some] <;> rfl), by repeat (first | (with_reducible first | exact HB.out | apply below_alloc | apply pw_below_drewN | apply below_drew1) | exact HB.out)⟩
                      · rw [if_neg c17] at H
                        have c17b0 : ((Int.tmod t131 x6_3) == 0) = false := beq_eq_false_iff_ne.mpr c17
                        have c17b1 : ((Int.tmod t131 x6_3) != 0) = true := bne_iff_ne.mpr c17
                        have H' := Aside0.mk H
                        clear H
                        go_wp2
                        go_roundg k3
                        case measure => have := HJ2.out; have := HK2.out; have := HK3.out; omega
                        case rel => exact ⟨(wrap64 (x6_3 + 1)), (by first | rfl | (simp; done) | (simp [*]; done)), H', ⟨by have := HJ2.out; have := HK2.out; have := HK3.out; omega⟩, ⟨by repeat (first | (with_reducible first | exact HB.out | apply below_alloc | apply pw_below_drewN | apply below_drew1) | exact HB.out)⟩⟩
                  · rw [if_neg c15] at H
                    have c15b0 : decide (x6_3 < t131) = false := decide_eq_false c15
                    clear c15
                    by_cases c18 : t131 ≥ 2
                    · rw [if_pos c18] at H
                      have c18b0 : decide (2 ≤ t131) = true := decide_eq_true c18
                      clear c18
                      by_cases c19 : t131 ≥ a0
                      · rw [if_pos c19] at H
                        have c19b0 : decide (a0 ≤ t131) = true := decide_eq_true c19
                        clear c19
                        replace H := Option.bind_eq_some_iff.mp H
                        obtain ⟨t138, A200, H⟩ := H
                        replace H : (some t138) = some r := H
                        have A20 := Aside0.mk A200
                        clear A200
                        obtain rfl := Option.some.inj H
                        go_wp2_with (first | (go_at_call 7; (with_reducible refine (geyserlaw08_awake.calls k3  t138 _ A20.out).mono ?_); rintro e w21 ⟨rfl, hb⟩; have n0_ := Aside0.mk (below_step (by repeat (first | (with_reducible first | exact HB.out | apply below_alloc | apply pw_below_drewN | apply below_drew1) | exact HB.out)) hb); clear HB; have HB := n0_; clear n0_; (try clear hb); (try clear hb2); (try clear hk); (try clear hi)))
                        go_ret
                        exact ⟨by first | rfl | (simp [errW_none, errW_some] <;> rfl) | (simp [*, errW_none, errW_some] <;> rfl), by repeat (first | (with_reducible first | exact HB.out | apply below_alloc | apply pw_below_drewN | apply below_drew1) | exact HB.out)⟩
                      · rw [if_neg c19] at H
                        have c19b0 : decide (a0 ≤ t131) = false := decide_eq_false c19
                        clear c19
                        obtain rfl := Option.some.inj H
                        go_wp2
                        go_ret
                        exact ⟨by first | rfl | (simp [errW_none, errW_some] <;> rfl) | (simp [*, errW_none, errW_some] <;> rfl), by repeat (first | (with_reducible first | exact HB.out | apply below_alloc | apply pw_below_drewN | apply below_drew1) | exact HB.out)⟩
                    · rw [if_neg c18] at H
                      have c18b0 : decide (2 ≤ t131) = false := decide_eq_false c18
                      clear c18
                      obtain rfl := Option.some.inj H
                      go_wp2
                      go_ret
                      exact ⟨by first | rfl | (simp [errW_none, errW_some] <;> rfl) | (simp [*, errW_none, errW_some] <;> rfl), by repeat (first | (with_reducible first | exact HB.out | apply below_alloc | apply pw_below_drewN | apply below_drew1) | exact HB.out)⟩

/-- THE ONE PURE STATEMENT of geyserlaw08_ParamsLeast: yours. -/
def geyserlaw08_ParamsLeast.Pure : Prop := ∀ (a0 : Int), (Lit.int .i64 a0).wf = true → ∃ k, geyserlaw08_ParamsLeast.f k a0 = some true
theorem geyserlaw08_ParamsLeast.walk (P : geyserlaw08_ParamsLeast.Pure) (a0 : Int) (w : World) (w0 : (Lit.int .i64 a0).wf = true) :
    Calls Try.prog 3 #[.int .i64 a0] w fun e w' => e = .returned (.bool true) ∧ Below w.heap.size w w' := by
  obtain ⟨k, h⟩ := P a0 w0
  refine (geyserlaw08_ParamsLeast.calls k a0 true w h).mono ?_
  rintro e w' ⟨rfl, hd⟩
  exact ⟨rfl, hd⟩

end Go.Proofs.Ytnlkeeaoknbmbaa.QParamsLeast
