-- Written by a program of this session out of the translation. Lean checks it.
import Derived.Test.YtbopkmjleiopnaaQDegreeRisesx0
namespace Go.Proofs.Ytbopkmjleiopnaa.QDegreeRises
open Go.RowKit Go.Proofs.Ytbopkmjleiopnaa.Er Go.Proofs.YtbopkmjleiopnaaW.PrintWords Go.Proofs.YtbopkmjleiopnaaW.PrintLast Go.Proofs.YtbopkmjleiopnaaW.PrintMore
attribute [local go_sem] max2_int min2_int max_two min_two max_three min_three max_four min_four   -- for this text's walks alone
set_option linter.unusedVariables false
set_option linter.unusedSimpArgs false

/-! ### geyserlaw07_awake: function 7 -/
def geyserlaw07_awake.f  : Option (Bool) := (Of.f 10241).bind fun bt101 => ((Share.f 1).bind fun bt103 => (if bt101.2.isNone = true then (if bt103.2.isNone = true then (if bt101.1 = 2 then (if bt103.1 = 10241 then ((Upto.f 3).bind fun t107 => (some (t107 == 712794))) else (some false)) else (some false)) else (some false)) else (some false)))
set_option maxHeartbeats 8000000 in
set_option maxRecDepth 100000 in
theorem geyserlaw07_awake.calls  (r : Bool) (w : World) (h : geyserlaw07_awake.f  = some r) :
    Calls Try.prog 7 #[] w fun e w' => e = .returned (.bool r) ∧ Below w.heap.size w w' := by
  have hu23 := Try.underlying23
  have HB := Aside0.mk (Below.refl w.heap.size w)
  have H : ((Of.f 10241).bind fun bt101 => ((Share.f 1).bind fun bt103 => (if bt101.2.isNone = true then (if bt103.2.isNone = true then (if bt101.1 = 2 then (if bt103.1 = 10241 then ((Upto.f 3).bind fun t107 => (some (t107 == 712794))) else (some false)) else (some false)) else (some false)) else (some false)))) = some r := h
  clear h
  replace H := Option.bind_eq_some_iff.mp H
  obtain ⟨⟨t101, t102⟩, A10, H⟩ := H
  replace H : ((Share.f 1).bind fun bt103 => (if t102.isNone = true then (if bt103.2.isNone = true then (if t101 = 2 then (if bt103.1 = 10241 then ((Upto.f 3).bind fun t107 => (some (t107 == 712794))) else (some false)) else (some false)) else (some false)) else (some false))) = some r := H
  have A1 := Aside0.mk A10
  clear A10
  replace H := Option.bind_eq_some_iff.mp H
  obtain ⟨⟨t103, t104⟩, A20, H⟩ := H
  replace H : (if t102.isNone = true then (if t104.isNone = true then (if t101 = 2 then (if t103 = 10241 then ((Upto.f 3).bind fun t107 => (some (t107 == 712794))) else (some false)) else (some false)) else (some false)) else (some false)) = some r := H
  have A2 := Aside0.mk A20
  clear A20
  rcases t102 with _ | q105
  · have H1 : (if t104.isNone = true then (if t101 = 2 then (if t103 = 10241 then ((Upto.f 3).bind fun t107 => (some (t107 == 712794))) else (some false)) else (some false)) else (some false)) = some r := by rw [if_pos (show (none : Option Er).isNone = true by rfl)] at H; exact H
    clear H
    have H := H1
    clear H1
    try simp only [errW_none, errW_some]
    skip
    rcases t104 with _ | q106
    · have H1 : (if t101 = 2 then (if t103 = 10241 then ((Upto.f 3).bind fun t107 => (some (t107 == 712794))) else (some false)) else (some false)) = some r := by rw [if_pos (show (none : Option Er).isNone = true by rfl)] at H; exact H
      clear H
      have H := H1
      clear H1
      try simp only [errW_none, errW_some]
      skip
      by_cases c3 : t101 = 2
      · rw [if_pos c3] at H
        have c3b0 : (t101 == 2) = true := beq_iff_eq.mpr c3
        have c3b1 : (t101 != 2) = false := bne_eq_false_iff_eq.mpr c3
        clear c3
        by_cases c4 : t103 = 10241
        · rw [if_pos c4] at H
          have c4b0 : (t103 == 10241) = true := beq_iff_eq.mpr c4
          have c4b1 : (t103 != 10241) = false := bne_eq_false_iff_eq.mpr c4
          clear c4
          replace H := Option.bind_eq_some_iff.mp H
          obtain ⟨t107, A50, H⟩ := H
          replace H : (some (t107 == 712794)) = some r := H
          have A5 := Aside0.mk A50
          clear A50
          obtain rfl := Option.some.inj H
          go_enter Try.func7, Try.ntmps7
          go_wp2_with (first | ((with_reducible refine gate_callee (f := 6) rfl ?_); refine goesL_ (some 6) rfl rfl Try.func6 (by kernel_rfl) rfl #[.int .i64 10241] rfl (by (try simp only [List.map_toArray, List.map_cons, List.map_nil]); first | done | rfl | (simp only [List.length_drop, List.length_take]; rfl)) ?_; (with_reducible refine (Of.calls 10241 t101 none _ A1.out).mono ?_); rintro e w6 ⟨ez0, rfl, he0, hb⟩; refine ⟨_, rfl, ?_⟩; have n0_ := Aside0.mk (below_step (by repeat (first | (with_reducible first | exact HB.out | apply below_alloc | apply pw_below_drewN | apply below_drew1) | exact HB.out)) hb); clear HB; have HB := n0_; clear n0_; (try clear hb); (try clear hb2); (try clear hk); (try clear hi); obtain rfl := ErR_nil he0; clear he0) | ((with_reducible refine gate_callee (f := 11) rfl ?_); refine goesL_ (some 10) rfl rfl Try.func11 (by kernel_rfl) rfl #[.int .i64 1] rfl (by (try simp only [List.map_toArray, List.map_cons, List.map_nil]); first | done | rfl | (simp only [List.length_drop, List.length_take]; rfl)) ?_; (with_reducible refine (Share.calls 1 t103 none _ A2.out).mono ?_); rintro e w7 ⟨ez0, rfl, he0, hb⟩; refine ⟨_, rfl, ?_⟩; have n0_ := Aside0.mk (below_step (by repeat (first | (with_reducible first | exact HB.out | apply below_alloc | apply pw_below_drewN | apply below_drew1) | exact HB.out)) hb); clear HB; have HB := n0_; clear n0_; (try clear hb); (try clear hb2); (try clear hk); (try clear hi); obtain rfl := ErR_nil he0; clear he0) | (go_at_call 8; (with_reducible refine (Upto.calls 3 t107 _ A5.out).mono ?_); rintro e w8 ⟨rfl, hb⟩; have n0_ := Aside0.mk (below_step (by repeat (first | (with_reducible first | exact HB.out | apply below_alloc | apply pw_below_drewN | apply below_drew1) | exact HB.out)) hb); clear HB; have HB := n0_; clear n0_; (try clear hb); (try clear hb2); (try clear hk); (try clear hi)))
          go_ret
          exact ⟨by first | rfl | (simp [errW_none, errW_some] <;> rfl) | (simp [*, errW_none, errW_some] <;> rfl), by repeat (first | (with_reducible first | exact HB.out | apply below_alloc | apply pw_below_drewN | apply below_drew1) | exact HB.out)⟩
        · rw [if_neg c4] at H
          have c4b0 : (t103 == 10241) = false := beq_eq_false_iff_ne.mpr c4
          have c4b1 : (t103 != 10241) = true := bne_iff_ne.mpr c4
          obtain rfl := Option.some.inj H
          go_enter Try.func7, Try.ntmps7
          go_wp2_with (first | ((with_reducible refine gate_callee (f := 6) rfl ?_); refine goesL_ (some 6) rfl rfl Try.func6 (by kernel_rfl) rfl #[.int .i64 10241] rfl (by (try simp only [List.map_toArray, List.map_cons, List.map_nil]); first | done | rfl | (simp only [List.length_drop, List.length_take]; rfl)) ?_; (with_reducible refine (Of.calls 10241 t101 none _ A1.out).mono ?_); rintro e w9 ⟨ez0, rfl, he0, hb⟩; refine ⟨_, rfl, ?_⟩; have n0_ := Aside0.mk (below_step (by repeat (first | (with_reducible first | exact HB.out | apply below_alloc | apply pw_below_drewN | apply below_drew1) | exact HB.out)) hb); clear HB; have HB := n0_; clear n0_; (try clear hb); (try clear hb2); (try clear hk); (try clear hi); obtain rfl := ErR_nil he0; clear he0) | ((with_reducible refine gate_callee (f := 11) rfl ?_); refine goesL_ (some 10) rfl rfl Try.func11 (by kernel_rfl) rfl #[.int .i64 1] rfl (by (try simp only [List.map_toArray, List.map_cons, List.map_nil]); first | done | rfl | (simp only [List.length_drop, List.length_take]; rfl)) ?_; (with_reducible refine (Share.calls 1 t103 none _ A2.out).mono ?_); rintro e w10 ⟨ez0, rfl, he0, hb⟩; refine ⟨_, rfl, ?_⟩; have n0_ := Aside0.mk (below_step (by repeat (first | (with_reducible first | exact HB.out | apply below_alloc | apply pw_below_drewN | apply below_drew1) | exact HB.out)) hb); clear HB; have HB := n0_; clear n0_; (try clear hb); (try clear hb2); (try clear hk); (try clear hi); obtain rfl := ErR_nil he0; clear he0))
          go_ret
          exact ⟨by first | rfl | (simp [errW_none, errW_some] <;> rfl) | (simp [*, errW_none, errW_some] <;> rfl), by repeat (first | (with_reducible first | exact HB.out | apply below_alloc | apply pw_below_drewN | apply below_drew1) | exact HB.out)⟩
      · rw [if_neg c3] at H
        have c3b0 : (t101 == 2) = false := beq_eq_false_iff_ne.mpr c3
        have c3b1 : (t101 != 2) = true := bne_iff_ne.mpr c3
        obtain rfl := Option.some.inj H
        go_enter Try.func7, Try.ntmps7
        go_wp2_with (first | ((with_reducible refine gate_callee (f := 6) rfl ?_); refine goesL_ (some 6) rfl rfl Try.func6 (by kernel_rfl) rfl #[.int .i64 10241] rfl (by (try simp only [List.map_toArray, List.map_cons, List.map_nil]); first | done | rfl | (simp only [List.length_drop, List.length_take]; rfl)) ?_; (with_reducible refine (Of.calls 10241 t101 none _ A1.out).mono ?_); rintro e w11 ⟨ez0, rfl, he0, hb⟩; refine ⟨_, rfl, ?_⟩; have n0_ := Aside0.mk (below_step (by repeat (first | (with_reducible first | exact HB.out | apply below_alloc | apply pw_below_drewN | apply below_drew1) | exact HB.out)) hb); clear HB; have HB := n0_; clear n0_; (try clear hb); (try clear hb2); (try clear hk); (try clear hi); obtain rfl := ErR_nil he0; clear he0) | ((with_reducible refine gate_callee (f := 11) rfl ?_); refine goesL_ (some 10) rfl rfl Try.func11 (by kernel_rfl) rfl #[.int .i64 1] rfl (by (try simp only [List.map_toArray, List.map_cons, List.map_nil]); first | done | rfl | (simp only [List.length_drop, List.length_take]; rfl)) ?_; (with_reducible refine (Share.calls 1 t103 none _ A2.out).mono ?_); rintro e w12 ⟨ez0, rfl, he0, hb⟩; refine ⟨_, rfl, ?_⟩; have n0_ := Aside0.mk (below_step (by repeat (first | (with_reducible first | exact HB.out | apply below_alloc | apply pw_below_drewN | apply below_drew1) | exact HB.out)) hb); clear HB; have HB := n0_; clear n0_; (try clear hb); (try clear hb2); (try clear hk); (try clear hi); obtain rfl := ErR_nil he0; clear he0))
        go_ret
        exact ⟨by first | rfl | (simp [errW_none, errW_some] <;> rfl) | (simp [*, errW_none, errW_some] <;> rfl), by repeat (first | (with_reducible first | exact HB.out | apply below_alloc | apply pw_below_drewN | apply below_drew1) | exact HB.out)⟩
    · have H1 : (some false) = some r := by rw [if_neg (show ¬ (some q106).isNone = true by simp)] at H; exact H
      clear H
      have H := H1
      clear H1
      try simp only [errW_none, errW_some]
      skip
      obtain rfl := Option.some.inj H
      go_enter Try.func7, Try.ntmps7
      go_wp2_with (first | ((with_reducible refine gate_callee (f := 6) rfl ?_); refine goesL_ (some 6) rfl rfl Try.func6 (by kernel_rfl) rfl #[.int .i64 10241] rfl (by (try simp only [List.map_toArray, List.map_cons, List.map_nil]); first | done | rfl | (simp only [List.length_drop, List.length_take]; rfl)) ?_; (with_reducible refine (Of.calls 10241 t101 none _ A1.out).mono ?_); rintro e w13 ⟨ez0, rfl, he0, hb⟩; refine ⟨_, rfl, ?_⟩; have n0_ := Aside0.mk (below_step (by repeat (first | (with_reducible first | exact HB.out | apply below_alloc | apply pw_below_drewN | apply below_drew1) | exact HB.out)) hb); clear HB; have HB := n0_; clear n0_; (try clear hb); (try clear hb2); (try clear hk); (try clear hi); obtain rfl := ErR_nil he0; clear he0) | ((with_reducible refine gate_callee (f := 11) rfl ?_); refine goesL_ (some 10) rfl rfl Try.func11 (by kernel_rfl) rfl #[.int .i64 1] rfl (by (try simp only [List.map_toArray, List.map_cons, List.map_nil]); first | done | rfl | (simp only [List.length_drop, List.length_take]; rfl)) ?_; (with_reducible refine (Share.calls 1 t103 (some q106) _ A2.out).mono ?_); rintro e w14 ⟨ez0, rfl, he0, hb⟩; refine ⟨_, rfl, ?_⟩; have n0_ := Aside0.mk (below_step (by repeat (first | (with_reducible first | exact HB.out | apply below_alloc | apply pw_below_drewN | apply below_drew1) | exact HB.out)) hb); clear HB; have HB := n0_; clear n0_; (try clear hb); (try clear hb2); (try clear hk); (try clear hi); obtain ⟨ad_q106, rfl⟩ := ErR_ptr he0; have HE_q106 := Aside0.mk he0; clear he0))
      go_ret
      exact ⟨by first | rfl | (simp [errW_none, errW_some] <;> rfl) | (simp [*, errW_none, errW_some] <;> rfl), by repeat (first | (with_reducible first | exact HB.out | apply below_alloc | apply pw_below_drewN | apply below_drew1) | exact HB.out)⟩
  · have H1 : (some false) = some r := by rw [if_neg (show ¬ (some q105).isNone = true by simp)] at H; exact H
    clear H
    have H := H1
    clear H1
    try simp only [errW_none, errW_some]
    skip
    obtain rfl := Option.some.inj H
    go_enter Try.func7, Try.ntmps7
    go_wp2_with (first | ((with_reducible refine gate_callee (f := 6) rfl ?_); refine goesL_ (some 6) rfl rfl Try.func6 (by kernel_rfl) rfl #[.int .i64 10241] rfl (by (try simp only [List.map_toArray, List.map_cons, List.map_nil]); first | done | rfl | (simp only [List.length_drop, List.length_take]; rfl)) ?_; (with_reducible refine (Of.calls 10241 t101 (some q105) _ A1.out).mono ?_); rintro e w15 ⟨ez0, rfl, he0, hb⟩; refine ⟨_, rfl, ?_⟩; have n0_ := Aside0.mk (below_step (by repeat (first | (with_reducible first | exact HB.out | apply below_alloc | apply pw_below_drewN | apply below_drew1) | exact HB.out)) hb); clear HB; have HB := n0_; clear n0_; (try clear hb); (try clear hb2); (try clear hk); (try clear hi); obtain ⟨ad_q105, rfl⟩ := ErR_ptr he0; have HE_q105 := Aside0.mk he0; clear he0) | ((with_reducible refine gate_callee (f := 11) rfl ?_); refine goesL_ (some 10) rfl rfl Try.func11 (by kernel_rfl) rfl #[.int .i64 1] rfl (by (try simp only [List.map_toArray, List.map_cons, List.map_nil]); first | done | rfl | (simp only [List.length_drop, List.length_take]; rfl)) ?_; (with_reducible refine (Share.calls 1 t103 t104 _ A2.out).mono ?_); rintro e w16 ⟨ev_t104, rfl, he0, hb⟩; refine ⟨_, rfl, ?_⟩; (try (have nE_ := Aside0.mk (ErR_below hb (by repeat (first | (with_reducible exact HE_q105.out) | (with_reducible apply ErR_drew) | (with_reducible apply ErR_drewN) | (with_reducible apply ErR_alloc) | (with_reducible refine ErR_set (by repeat (first | (with_reducible refine NF_blk (Aside0.out (by assumption)) (by decide)) | (with_reducible apply NF_set) | (with_reducible apply NF_drew) | (with_reducible apply NF_drewN) | (with_reducible apply NF_alloc))) ?_) | exact HE_q105.out | apply ErR_drew | apply ErR_drewN | apply ErR_alloc))); clear HE_q105; have HE_q105 := nE_; clear nE_)); have n0_ := Aside0.mk (below_step (by repeat (first | (with_reducible first | exact HB.out | apply below_alloc | apply pw_below_drewN | apply below_drew1) | exact HB.out)) hb); clear HB; have HB := n0_; clear n0_; (try clear hb); (try clear hb2); (try clear hk); (try clear hi); have HE_t104 := Aside0.mk he0; clear he0))
    go_ret
    exact ⟨by first | rfl | (simp [errW_none, errW_some] <;> rfl) | (simp [*, errW_none, errW_some] <;> rfl), by repeat (first | (with_reducible first | exact HB.out | apply below_alloc | apply pw_below_drewN | apply below_drew1) | exact HB.out)⟩

/-! ### geyserlaw07_DegreeRises: function 3 -/
def geyserlaw07_DegreeRises.j0 : Nat → Int → Int → Int → Int → Bool → Option (Bool)
  | 0, _, _, _, _, _ => none
  | k + 1, x0, x1, x5, x7, x24 => if x24 = true then ((geyserlaw07_awake.f).bind fun t114 => (some t114)) else (if x0 > x1 then (if x0 < x1 then ((geyserlaw07_awake.f).bind fun t115 => (some t115)) else (if x5 ≥ x7 then ((geyserlaw07_awake.f).bind fun t116 => (some t116)) else (some false))) else (if x5 ≤ x7 then (if x0 < x1 then ((geyserlaw07_awake.f).bind fun t117 => (some t117)) else (if x5 ≥ x7 then ((geyserlaw07_awake.f).bind fun t118 => (some t118)) else (some false))) else (some false)))
def geyserlaw07_DegreeRises.f (k : Nat) (a0 : Int) (a1 : Int) : Option (Bool) := (Of.f a0).bind fun bt108 => ((Of.f a1).bind fun bt110 => (if bt108.2.isNone = true then (if bt110.2.isNone = true then (geyserlaw07_DegreeRises.j0 k a0 a1 bt108.1 bt110.1 false) else (geyserlaw07_DegreeRises.j0 k a0 a1 bt108.1 bt110.1 true)) else (geyserlaw07_DegreeRises.j0 k a0 a1 bt108.1 bt110.1 true)))
theorem geyserlaw07_DegreeRises.mono_l : ∀ k, (∀ y0 y1 y2 y3 y4, LeO (geyserlaw07_DegreeRises.j0 k y0 y1 y2 y3 y4) (geyserlaw07_DegreeRises.j0 (k + 1) y0 y1 y2 y3 y4))
  | 0 => fun _ _ _ _ _ r h => by simp [geyserlaw07_DegreeRises.j0] at h
  | k + 1 => by
    have ih0 := geyserlaw07_DegreeRises.mono_l k
    · intro y0 y1 y2 y3 y4
      unfold geyserlaw07_DegreeRises.j0
      repeat' first
      | (with_reducible exact ih0 _ _ _ _ _)
      | (with_reducible exact LeO.refl _)
      | (with_reducible exact LeO.none _)
      | (with_reducible refine LeO.ite ?_ ?_)
      | (with_reducible refine LeO.bind ?_ (fun _ => ?_))
      | exact ih0 _ _ _ _ _
      | exact LeO.none _
      | refine LeO.ite ?_ ?_
      | refine LeO.bind ?_ (fun _ => ?_)
theorem geyserlaw07_DegreeRises.mono : ∀ a0 a1 k, LeO (geyserlaw07_DegreeRises.f k a0 a1) (geyserlaw07_DegreeRises.f (k + 1) a0 a1) := by
  intro a0 a1 k
  have ih0 := geyserlaw07_DegreeRises.mono_l k
  unfold geyserlaw07_DegreeRises.f
  repeat' first
      | (with_reducible exact ih0 _ _ _ _ _)
      | (with_reducible exact LeO.refl _)
      | (with_reducible exact LeO.none _)
      | (with_reducible refine LeO.ite ?_ ?_)
      | (with_reducible refine LeO.bind ?_ (fun _ => ?_))
      | exact ih0 _ _ _ _ _
      | exact LeO.none _
      | refine LeO.ite ?_ ?_
      | refine LeO.bind ?_ (fun _ => ?_)
set_option maxHeartbeats 8000000 in
set_option maxRecDepth 100000 in
theorem geyserlaw07_DegreeRises.calls (k : Nat) (a0 : Int) (a1 : Int) (r : Bool) (w : World) (h : geyserlaw07_DegreeRises.f k a0 a1 = some r) :
    Calls Try.prog 3 #[.int .i64 a0, .int .i64 a1] w fun e w' => e = .returned (.bool r) ∧ Below w.heap.size w w' := by
  have hu23 := Try.underlying23
  have HB := Aside0.mk (Below.refl w.heap.size w)
  have H : ((Of.f a0).bind fun bt108 => ((Of.f a1).bind fun bt110 => (if bt108.2.isNone = true then (if bt110.2.isNone = true then (geyserlaw07_DegreeRises.j0 k a0 a1 bt108.1 bt110.1 false) else (geyserlaw07_DegreeRises.j0 k a0 a1 bt108.1 bt110.1 true)) else (geyserlaw07_DegreeRises.j0 k a0 a1 bt108.1 bt110.1 true)))) = some r := h
  clear h
  replace H := Option.bind_eq_some_iff.mp H
  obtain ⟨⟨t108, t109⟩, A30, H⟩ := H
  replace H : ((Of.f a1).bind fun bt110 => (if t109.isNone = true then (if bt110.2.isNone = true then (geyserlaw07_DegreeRises.j0 k a0 a1 t108 bt110.1 false) else (geyserlaw07_DegreeRises.j0 k a0 a1 t108 bt110.1 true)) else (geyserlaw07_DegreeRises.j0 k a0 a1 t108 bt110.1 true))) = some r := H
  have A3 := Aside0.mk A30
  clear A30
  replace H := Option.bind_eq_some_iff.mp H
  obtain ⟨⟨t110, t111⟩, A40, H⟩ := H
  replace H : (if t109.isNone = true then (if t111.isNone = true then (geyserlaw07_DegreeRises.j0 k a0 a1 t108 t110 false) else (geyserlaw07_DegreeRises.j0 k a0 a1 t108 t110 true)) else (geyserlaw07_DegreeRises.j0 k a0 a1 t108 t110 true)) = some r := H
  have A4 := Aside0.mk A40
  clear A40
  have HC5 := Aside0.mk H
  clear H
  go_enter Try.func3, Try.ntmps3
  go_upto_region 3 with (first | ((with_reducible refine gate_callee (f := 6) rfl ?_); refine goesL_ (some 11) rfl rfl Try.func6 (by kernel_rfl) rfl #[.int .i64 a0] rfl (by (try simp only [List.map_toArray, List.map_cons, List.map_nil]); first | done | rfl | (simp only [List.length_drop, List.length_take]; rfl)) ?_; (with_reducible refine (Of.calls a0 t108 t109 _ A3.out).mono ?_); rintro e w6 ⟨ev_t109, rfl, he0, hb⟩; refine ⟨_, rfl, ?_⟩; have n0_ := Aside0.mk (below_step (by repeat (first | (with_reducible first | exact HB.out | apply below_alloc | apply pw_below_drewN | apply below_drew1) | exact HB.out)) hb); clear HB; have HB := n0_; clear n0_; (try clear hb); (try clear hb2); (try clear hk); (try clear hi); have HE_t109 := Aside0.mk he0; clear he0) | ((with_reducible refine gate_callee (f := 6) rfl ?_); refine goesL_ (some 16) rfl rfl Try.func6 (by kernel_rfl) rfl #[.int .i64 a1] rfl (by (try simp only [List.map_toArray, List.map_cons, List.map_nil]); first | done | rfl | (simp only [List.length_drop, List.length_take]; rfl)) ?_; (with_reducible refine (Of.calls a1 t110 t111 _ A4.out).mono ?_); rintro e w7 ⟨ev_t111, rfl, he0, hb⟩; refine ⟨_, rfl, ?_⟩; (try (have nE_ := Aside0.mk (ErR_below hb (by repeat (first | (with_reducible exact HE_t109.out) | (with_reducible apply ErR_drew) | (with_reducible apply ErR_drewN) | (with_reducible apply ErR_alloc) | (with_reducible refine ErR_set (by repeat (first | (with_reducible refine NF_blk (Aside0.out (by assumption)) (by decide)) | (with_reducible apply NF_set) | (with_reducible apply NF_drew) | (with_reducible apply NF_drewN) | (with_reducible apply NF_alloc))) ?_) | exact HE_t109.out | apply ErR_drew | apply ErR_drewN | apply ErR_alloc))); clear HE_t109; have HE_t109 := nE_; clear nE_)); have n0_ := Aside0.mk (below_step (by repeat (first | (with_reducible first | exact HB.out | apply below_alloc | apply pw_below_drewN | apply below_drew1) | exact HB.out)) hb); clear HB; have HB := n0_; clear n0_; (try clear hb); (try clear hb2); (try clear hk); (try clear hi); have HE_t111 := Aside0.mk he0; clear he0))
  (try simp only [Act.put, List.setIfInBounds_toArray, List.set_cons_zero, List.set_cons_succ])
  go_cut [24] (fun v24 wc => ∃ (kq : Nat) (x24_4 : Bool), v24 = .bool x24_4 ∧ Aside0 (geyserlaw07_DegreeRises.j0 kq a0 a1 t108 t110 x24_4 = some r) ∧ Aside0 (kq ≤ k) ∧ Aside0 (Below w.heap.size w wc))
  case first =>
    have H := HC5.out
    clear HC5
    rcases t109 with _ | q112
    · have H1 : (if t111.isNone = true then (geyserlaw07_DegreeRises.j0 k a0 a1 t108 t110 false) else (geyserlaw07_DegreeRises.j0 k a0 a1 t108 t110 true)) = some r := by rw [if_pos (show (none : Option Er).isNone = true by rfl)] at H; exact H
      clear H
      have H := H1
      clear H1
      try simp only [errW_none, errW_some]
      (try (obtain rfl := ErR_nil HE_t109.out; clear HE_t109))
      rcases t111 with _ | q113
      · have H1 : (geyserlaw07_DegreeRises.j0 k a0 a1 t108 t110 false) = some r := by rw [if_pos (show (none : Option Er).isNone = true by rfl)] at H; exact H
        clear H
        have H := H1
        clear H1
        try simp only [errW_none, errW_some]
        (try (obtain rfl := ErR_nil HE_t111.out; clear HE_t111))
        have H' := Aside0.mk H
        clear H
        go_wp2
        go_meet
        case rel => exact ⟨_, (false), (by first | rfl | (simp; done) | (simp [*]; done)), H', ⟨by first | omega | exact Nat.le_refl _⟩, ⟨by repeat (first | (with_reducible first | exact HB.out | apply below_alloc | apply pw_below_drewN | apply below_drew1) | exact HB.out)⟩⟩
      · have H1 : (geyserlaw07_DegreeRises.j0 k a0 a1 t108 t110 true) = some r := by rw [if_neg (show ¬ (some q113).isNone = true by simp)] at H; exact H
        clear H
        have H := H1
        clear H1
        try simp only [errW_none, errW_some]
        (try (obtain ⟨ad_q113, rfl⟩ := ErR_ptr HE_t111.out; have HE_q113 := HE_t111; clear HE_t111))
        have H' := Aside0.mk H
        clear H
        go_wp2
        go_meet
        case rel => exact ⟨_, (true), (by first | rfl | (simp; done) | (simp [*]; done)), H', ⟨by first | omega | exact Nat.le_refl _⟩, ⟨by repeat (first | (with_reducible first | exact HB.out | apply below_alloc | apply pw_below_drewN | apply below_drew1) | exact HB.out)⟩⟩
    · have H1 : (geyserlaw07_DegreeRises.j0 k a0 a1 t108 t110 true) = some r := by rw [if_neg (show ¬ (some q112).isNone = true by simp)] at H; exact H
      clear H
      have H := H1
      clear H1
      try simp only [errW_none, errW_some]
      (try (obtain ⟨ad_q112, rfl⟩ := ErR_ptr HE_t109.out; have HE_q112 := HE_t109; clear HE_t109))
      have H' := Aside0.mk H
      clear H
      go_wp2
      go_meet
      case rel => exact ⟨_, (true), (by first | rfl | (simp; done) | (simp [*]; done)), H', ⟨by first | omega | exact Nat.le_refl _⟩, ⟨by repeat (first | (with_reducible first | exact HB.out | apply below_alloc | apply pw_below_drewN | apply below_drew1) | exact HB.out)⟩⟩
  case rest =>
    clear HC5
    try clear q1
    try clear p2
    try clear c3
    try clear c6
    try clear q112
    try clear q113
    obtain ⟨kq, x24_4, rfl, HA, HJ4, HB⟩ := hcut
    cases kq with
    | zero => exact absurd HA.out (by simp [geyserlaw07_DegreeRises.j0])
    | succ kj4 =>
      have H := HA.out
      clear HA
      simp only [geyserlaw07_DegreeRises.j0] at H
      by_cases c8 : x24_4 = true
      · subst c8
        have H1 : ((geyserlaw07_awake.f).bind fun t114 => (some t114)) = some r := by rw [if_pos rfl] at H; exact H
        clear H
        have H := H1
        clear H1
        replace H := Option.bind_eq_some_iff.mp H
        obtain ⟨t114, A90, H⟩ := H
        replace H : (some t114) = some r := H
        have A9 := Aside0.mk A90
        clear A90
        obtain rfl := Option.some.inj H
        go_wp2_with (first | ((with_reducible refine gate_callee (f := 7) rfl ?_); refine goesL_ (some 25) rfl rfl Try.func7 (by kernel_rfl) rfl #[] rfl (by (try simp only [List.map_toArray, List.map_cons, List.map_nil]); first | done | rfl | (simp only [List.length_drop, List.length_take]; rfl)) ?_; (with_reducible refine (geyserlaw07_awake.calls  t114 _ A9.out).mono ?_); rintro e w10 ⟨rfl, hb⟩; refine ⟨_, rfl, ?_⟩; have n0_ := Aside0.mk (below_step (by repeat (first | (with_reducible first | exact HB.out | apply below_alloc | apply pw_below_drewN | apply below_drew1) | exact HB.out)) hb); clear HB; have HB := n0_; clear n0_; (try clear hb); (try clear hb2); (try clear hk); (try clear hi)))
        go_ret
        exact ⟨by first | rfl | (simp [errW_none, errW_some] <;> rfl) | (simp [*, errW_none, errW_some] <;> rfl), by repeat (first | (with_reducible first | exact HB.out | apply below_alloc | apply pw_below_drewN | apply below_drew1) | exact HB.out)⟩
      · replace c8 := Bool.eq_false_iff.mpr c8
        subst c8
        have H1 : (if a0 > a1 then (if a0 < a1 then ((geyserlaw07_awake.f).bind fun t115 => (some t115)) else (if t108 ≥ t110 then ((geyserlaw07_awake.f).bind fun t116 => (some t116)) else (some false))) else (if t108 ≤ t110 then (if a0 < a1 then ((geyserlaw07_awake.f).bind fun t117 => (some t117)) else (if t108 ≥ t110 then ((geyserlaw07_awake.f).bind fun t118 => (some t118)) else (some false))) else (some false))) = some r := by rw [if_neg (show ¬ (false = true) by decide)] at H; exact H
        clear H
        have H := H1
        clear H1
        by_cases c11 : a0 > a1
        · rw [if_pos c11] at H
          have c11b0 : decide (a1 < a0) = true := decide_eq_true c11
          clear c11
          by_cases c12 : a0 < a1
          · rw [if_pos c12] at H
            have c12b0 : decide (a0 < a1) = true := decide_eq_true c12
            clear c12
            replace H := Option.bind_eq_some_iff.mp H
            obtain ⟨t115, A130, H⟩ := H
            replace H : (some t115) = some r := H
            have A13 := Aside0.mk A130
            clear A130
            obtain rfl := Option.some.inj H
            go_wp2_with (first | (go_at_call 7; (with_reducible refine (geyserlaw07_awake.calls  t115 _ A13.out).mono ?_); rintro e w14 ⟨rfl, hb⟩; have n0_ := Aside0.mk (below_step (by repeat (first | (with_reducible first | exact HB.out | apply below_alloc | apply pw_below_drewN | apply below_drew1) | exact HB.out)) hb); clear HB; have HB := n0_; clear n0_; (try clear hb); (try clear hb2); (try clear hk); (try clear hi)))
            go_ret
            exact ⟨by first | rfl | (simp [errW_none, errW_some] <;> rfl) | (simp [*, errW_none, errW_some] <;> rfl), by repeat (first | (with_reducible first | exact HB.out | apply below_alloc | apply pw_below_drewN | apply below_drew1) | exact HB.out)⟩
          · rw [if_neg c12] at H
            have c12b0 : decide (a0 < a1) = false := decide_eq_false c12
            clear c12
            by_cases c15 : t108 ≥ t110
            · rw [if_pos c15] at H
              have c15b0 : decide (t110 ≤ t108) = true := decide_eq_true c15
              clear c15
              replace H := Option.bind_eq_some_iff.mp H
              obtain ⟨t116, A160, H⟩ := H
              replace H : (some t116) = some r := H
              have A16 := Aside0.mk A160
              clear A160
              obtain rfl := Option.some.inj H
              go_wp2_with (first | (go_at_call 7; (with_reducible refine (geyserlaw07_awake.calls  t116 _ A16.out).mono ?_); rintro e w17 ⟨rfl, hb⟩; have n0_ := Aside0.mk (below_step (by repeat (first | (with_reducible first | exact HB.out | apply below_alloc | apply pw_below_drewN | apply below_drew1) | exact HB.out)) hb); clear HB; have HB := n0_; clear n0_; (try clear hb); (try clear hb2); (try clear hk); (try clear hi)))
              go_ret
              exact ⟨by first | rfl | (simp [errW_none, errW_some] <;> rfl) | (simp [*, errW_none, errW_some] <;> rfl), by repeat (first | (with_reducible first | exact HB.out | apply below_alloc | apply pw_below_drewN | apply below_drew1) | exact HB.out)⟩
            · rw [if_neg c15] at H
              have c15b0 : decide (t110 ≤ t108) = false := decide_eq_false c15
              clear c15
              obtain rfl := Option.some.inj H
              go_wp2
              go_ret
              exact ⟨by first | rfl | (simp [errW_none, errW_some] <;> rfl) | (simp [*, errW_none, errW_some] <;> rfl), by repeat (first | (with_reducible first | exact HB.out | apply below_alloc | apply pw_below_drewN | apply below_drew1) | exact HB.out)⟩
        · rw [if_neg c11] at H
          have c11b0 : decide (a1 < a0) = false := decide_eq_false c11
          clear c11
          by_cases c18 : t108 ≤ t110
          · rw [if_pos c18] at H
            have c18b0 : decide (t108 ≤ t110) = true := decide_eq_true c18
            clear c18
            by_cases c19 : a0 < a1
            · rw [if_pos c19] at H
              have c19b0 : decide (a0 < a1) = true := decide_eq_true c19
              clear c19
              replace H := Option.bind_eq_some_iff.mp H
              obtain ⟨t117, A200, H⟩ := H
              replace H : (some t117) = some r := H
              have A20 := Aside0.mk A200
              clear A200
              obtain rfl := Option.some.inj H
              go_wp2_with (first | (go_at_call 7; (with_reducible refine (geyserlaw07_awake.calls  t117 _ A20.out).mono ?_); rintro e w21 ⟨rfl, hb⟩; have n0_ := Aside0.mk (below_step (by repeat (first | (with_reducible first | exact HB.out | apply below_alloc | apply pw_below_drewN | apply below_drew1) | exact HB.out)) hb); clear HB; have HB := n0_; clear n0_; (try clear hb); (try clear hb2); (try clear hk); (try clear hi)))
              go_ret
              exact ⟨by first | rfl | (simp [errW_none, errW_some] <;> rfl) | (simp [*, errW_none, errW_some] <;> rfl), by repeat (first | (with_reducible first | exact HB.out | apply below_alloc | apply pw_below_drewN | apply below_drew1) | exact HB.out)⟩
            · rw [if_neg c19] at H
              have c19b0 : decide (a0 < a1) = false := decide_eq_false c19
              clear c19
              by_cases c22 : t108 ≥ t110
              · rw [if_pos c22] at H
                have c22b0 : decide (t110 ≤ t108) = true := decide_eq_true c22
                clear c22
                replace H := Option.bind_eq_some_iff.mp H
                obtain ⟨t118, A230, H⟩ := H
                replace H : (some t118) = some r := H
                have A23 := Aside0.mk A230
                clear A230
                obtain rfl := Option.some.inj H
                go_wp2_with (first | (go_at_call 7; (with_reducible refine (geyserlaw07_awake.calls  t118 _ A23.out).mono ?_); rintro e w24 ⟨rfl, hb⟩; have n0_ := Aside0.mk (below_step (by repeat (first | (with_reducible first | exact HB.out | apply below_alloc | apply pw_below_drewN | apply below_drew1) | exact HB.out)) hb); clear HB; have HB := n0_; clear n0_; (try clear hb); (try clear hb2); (try clear hk); (try clear hi)))
                go_ret
                exact ⟨by first | rfl | (simp [errW_none, errW_some] <;> rfl) | (simp [*, errW_none, errW_some] <;> rfl), by repeat (first | (with_reducible first | exact HB.out | apply below_alloc | apply pw_below_drewN | apply below_drew1) | exact HB.out)⟩
              · rw [if_neg c22] at H
                have c22b0 : decide (t110 ≤ t108) = false := decide_eq_false c22
                clear c22
                obtain rfl := Option.some.inj H
                go_wp2
                go_ret
                exact ⟨by first | rfl | (simp [errW_none, errW_some] <;> rfl) | (simp [*, errW_none, errW_some] <;> rfl), by repeat (first | (with_reducible first | exact HB.out | apply below_alloc | apply pw_below_drewN | apply below_drew1) | exact HB.out)⟩
          · rw [if_neg c18] at H
            have c18b0 : decide (t108 ≤ t110) = false := decide_eq_false c18
            clear c18
            obtain rfl := Option.some.inj H
            go_wp2
            go_ret
            exact ⟨by first | rfl | (simp [errW_none, errW_some] <;> rfl) | (simp [*, errW_none, errW_some] <;> rfl), by repeat (first | (with_reducible first | exact HB.out | apply below_alloc | apply pw_below_drewN | apply below_drew1) | exact HB.out)⟩

/-- THE ONE PURE STATEMENT of geyserlaw07_DegreeRises: yours. -/
def geyserlaw07_DegreeRises.Pure : Prop := ∀ (a0 : Int) (a1 : Int), (Lit.int .i64 a0).wf = true → (Lit.int .i64 a1).wf = true → ∃ k, geyserlaw07_DegreeRises.f k a0 a1 = some true
theorem geyserlaw07_DegreeRises.walk (P : geyserlaw07_DegreeRises.Pure) (a0 : Int) (a1 : Int) (w : World) (w0 : (Lit.int .i64 a0).wf = true) (w1 : (Lit.int .i64 a1).wf = true) :
    Calls Try.prog 3 #[.int .i64 a0, .int .i64 a1] w fun e w' => e = .returned (.bool true) ∧ Below w.heap.size w w' := by
  obtain ⟨k, h⟩ := P a0 a1 w0 w1
  refine (geyserlaw07_DegreeRises.calls k a0 a1 true w h).mono ?_
  rintro e w' ⟨rfl, hd⟩
  exact ⟨rfl, hd⟩

end Go.Proofs.Ytbopkmjleiopnaa.QDegreeRises
