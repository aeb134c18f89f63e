-- Written by a program of this session out of the translation. Lean checks it.
import Derived.Test.YtbopkmjleiopnaaDoorQDegreeOfsx0
namespace Go.Proofs.YtbopkmjleiopnaaDoor.QDegreeOfs
open Go.RowKit Go.Proofs.YtbopkmjleiopnaaDoor.Er Go.Proofs.YtbopkmjleiopnaaDoor.As Go.Proofs.YtbopkmjleiopnaaDoor.Tells Go.Proofs.YtbopkmjleiopnaaDoorW.PrintWords Go.Proofs.YtbopkmjleiopnaaDoorW.PrintLast Go.Proofs.YtbopkmjleiopnaaDoorW.PrintMore
attribute [local go_sem] max2_int min2_int max_two min_two max_three min_three max_four min_four   -- for this text's walks alone
set_option linter.unusedVariables false
set_option linter.unusedSimpArgs false

/-! ### geyserlaw07_awake: function 7 -/
def geyserlaw07_awake.f  : Option (Bool) := (Of.f 10241).bind fun bt101 => ((Share.f 1).bind fun bt103 => (if bt101.2.isNone = true then (if bt103.2.isNone = true then (if bt101.1 = 2 then (if bt103.1 = 10241 then ((Upto.f 3).bind fun t107 => (some (t107 == 712794))) else (some false)) else (some false)) else (some false)) else (some false)))
set_option maxHeartbeats 8000000 in
set_option maxRecDepth 100000 in
theorem geyserlaw07_awake.calls  (r : Bool) (w : World) (h : geyserlaw07_awake.f  = some r) :
    Calls Tryd.prog 7 #[] w fun e w' => e = .returned (.bool r) ∧ Below w.heap.size w w' := by
  have hu23 := Tryd.underlying23
  have HB := Aside0.mk (Below.refl w.heap.size w)
  have H : ((Of.f 10241).bind fun bt101 => ((Share.f 1).bind fun bt103 => (if bt101.2.isNone = true then (if bt103.2.isNone = true then (if bt101.1 = 2 then (if bt103.1 = 10241 then ((Upto.f 3).bind fun t107 => (some (t107 == 712794))) else (some false)) else (some false)) else (some false)) else (some false)))) = some r := h
  clear h
  replace H := Option.bind_eq_some_iff.mp H
  obtain ⟨⟨t101, t102⟩, A10, H⟩ := H
  replace H : ((Share.f 1).bind fun bt103 => (if t102.isNone = true then (if bt103.2.isNone = true then (if t101 = 2 then (if bt103.1 = 10241 then ((Upto.f 3).bind fun t107 => (some (t107 == 712794))) else (some false)) else (some false)) else (some false)) else (some false))) = some r := H
  have A1 := Aside0.mk A10
  clear A10
  replace H := Option.bind_eq_some_iff.mp H
  obtain ⟨⟨t103, t104⟩, A20, H⟩ := H
  replace H : (if t102.isNone = true then (if t104.isNone = true then (if t101 = 2 then (if t103 = 10241 then ((Upto.f 3).bind fun t107 => (some (t107 == 712794))) else (some false)) else (some false)) else (some false)) else (some false)) = some r := H
  have A2 := Aside0.mk A20
  clear A20
  rcases t102 with _ | q105
  · have H1 : (if t104.isNone = true then (if t101 = 2 then (if t103 = 10241 then ((Upto.f 3).bind fun t107 => (some (t107 == 712794))) else (some false)) else (some false)) else (some false)) = some r := by rw [if_pos (show (none : Option Er).isNone = true by rfl)] at H; exact H
    clear H
    have H := H1
    clear H1
    try simp only [errW_none, errW_some]
    skip
    rcases t104 with _ | q106
    · have H1 : (if t101 = 2 then (if t103 = 10241 then ((Upto.f 3).bind fun t107 => (some (t107 == 712794))) else (some false)) else (some false)) = some r := by rw [if_pos (show (none : Option Er).isNone = true by rfl)] at H; exact H
      clear H
      have H := H1
      clear H1
      try simp only [errW_none, errW_some]
      skip
      by_cases c3 : t101 = 2
      · rw [if_pos c3] at H
        have c3b0 : (t101 == 2) = true := beq_iff_eq.mpr c3
        have c3b1 : (t101 != 2) = false := bne_eq_false_iff_eq.mpr c3
        clear c3
        by_cases c4 : t103 = 10241
        · rw [if_pos c4] at H
          have c4b0 : (t103 == 10241) = true := beq_iff_eq.mpr c4
          have c4b1 : (t103 != 10241) = false := bne_eq_false_iff_eq.mpr c4
          clear c4
          replace H := Option.bind_eq_some_iff.mp H
          obtain ⟨t107, A50, H⟩ := H
          replace H : (some (t107 == 712794)) = some r := H
          have A5 := Aside0.mk A50
          clear A50
          obtain rfl := Option.some.inj H
          go_enter Tryd.func7, Tryd.ntmps7
          go_wp2_with (first | ((with_reducible refine gate_callee (f := 5) rfl ?_); refine goesL_ (some 6) rfl rfl Tryd.func5 (by kernel_rfl) rfl #[.int .i64 10241] rfl (by (try simp only [List.map_toArray, List.map_cons, List.map_nil]); first | done | rfl | (simp only [List.length_drop, List.length_take]; rfl)) ?_; (with_reducible refine (Of.calls 10241 t101 none _ A1.out).mono ?_); rintro e w6 ⟨ez0, rfl, he0, hb⟩; refine ⟨_, rfl, ?_⟩; have n0_ := Aside0.mk (below_step (by repeat (first | (with_reducible first | exact HB.out | apply below_alloc | apply pw_below_drewN | apply below_drew1) | exact HB.out)) hb); clear HB; have HB := n0_; clear n0_; (try clear hb); (try clear hb2); (try clear hk); (try clear hi); obtain rfl := ErR_nil he0; clear he0) | ((with_reducible refine gate_callee (f := 9) rfl ?_); refine goesL_ (some 10) rfl rfl Tryd.func9 (by kernel_rfl) rfl #[.int .i64 1] rfl (by (try simp only [List.map_toArray, List.map_cons, List.map_nil]); first | done | rfl | (simp only [List.length_drop, List.length_take]; rfl)) ?_; (with_reducible refine (Share.calls 1 t103 none _ A2.out).mono ?_); rintro e w7 ⟨ez0, rfl, he0, hb⟩; refine ⟨_, rfl, ?_⟩; have n0_ := Aside0.mk (below_step (by repeat (first | (with_reducible first | exact HB.out | apply below_alloc | apply pw_below_drewN | apply below_drew1) | exact HB.out)) hb); clear HB; have HB := n0_; clear n0_; (try clear hb); (try clear hb2); (try clear hk); (try clear hi); obtain rfl := ErR_nil he0; clear he0) | (go_at_call 11; (with_reducible refine (Upto.calls 3 t107 _ A5.out).mono ?_); rintro e w8 ⟨rfl, hb⟩; have n0_ := Aside0.mk (below_step (by repeat (first | (with_reducible first | exact HB.out | apply below_alloc | apply pw_below_drewN | apply below_drew1) | exact HB.out)) hb); clear HB; have HB := n0_; clear n0_; (try clear hb); (try clear hb2); (try clear hk); (try clear hi)))
          go_ret
          exact ⟨by first | rfl | (simp [errW_none, errW_some] <;> rfl) | (simp [*, errW_none, errW_some] <;> rfl), by repeat (first | (with_reducible first | exact HB.out | apply below_alloc | apply pw_below_drewN | apply below_drew1) | exact HB.out)⟩
        · rw [if_neg c4] at H
          have c4b0 : (t103 == 10241) = false := beq_eq_false_iff_ne.mpr c4
          have c4b1 : (t103 != 10241) = true := bne_iff_ne.mpr c4
          obtain rfl := Option.some.inj H
          go_enter Tryd.func7, Tryd.ntmps7
          go_wp2_with (first | ((with_reducible refine gate_callee (f := 5) rfl ?_); refine goesL_ (some 6) rfl rfl Tryd.func5 (by kernel_rfl) rfl #[.int .i64 10241] rfl (by (try simp only [List.map_toArray, List.map_cons, List.map_nil]); first | done | rfl | (simp only [List.length_drop, List.length_take]; rfl)) ?_; (with_reducible refine (Of.calls 10241 t101 none _ A1.out).mono ?_); rintro e w9 ⟨ez0, rfl, he0, hb⟩; refine ⟨_, rfl, ?_⟩; have n0_ := Aside0.mk (below_step (by repeat (first | (with_reducible first | exact HB.out | apply below_alloc | apply pw_below_drewN | apply below_drew1) | exact HB.out)) hb); clear HB; have HB := n0_; clear n0_; (try clear hb); (try clear hb2); (try clear hk); (try clear hi); obtain rfl := ErR_nil he0; clear he0) | ((with_reducible refine gate_callee (f := 9) rfl ?_); refine goesL_ (some 10) rfl rfl Tryd.func9 (by kernel_rfl) rfl #[.int .i64 1] rfl (by (try simp only [List.map_toArray, List.map_cons, List.map_nil]); first | done | rfl | (simp only [List.length_drop, List.length_take]; rfl)) ?_; (with_reducible refine (Share.calls 1 t103 none _ A2.out).mono ?_); rintro e w10 ⟨ez0, rfl, he0, hb⟩; refine ⟨_, rfl, ?_⟩; have n0_ := Aside0.mk (below_step (by repeat (first | (with_reducible first | exact HB.out | apply below_alloc | apply pw_below_drewN | apply below_drew1) | exact HB.out)) hb); clear HB; have HB := n0_; clear n0_; (try clear hb); (try clear hb2); (try clear hk); (try clear hi); obtain rfl := ErR_nil he0; clear he0))
          go_ret
          exact ⟨by first | rfl | (simp [errW_none, errW_some] <;> rfl) | (simp [*, errW_none, errW_some] <;> rfl), by repeat (first | (with_reducible first | exact HB.out | apply below_alloc | apply pw_below_drewN | apply below_drew1) | exact HB.out)⟩
      · rw [if_neg c3] at H
        have c3b0 : (t101 == 2) = false := beq_eq_false_iff_ne.mpr c3
        have c3b1 : (t101 != 2) = true := bne_iff_ne.mpr c3
        obtain rfl := Option.some.inj H
        go_enter Tryd.func7, Tryd.ntmps7
        go_wp2_with (first | ((with_reducible refine gate_callee (f := 5) rfl ?_); refine goesL_ (some 6) rfl rfl Tryd.func5 (by kernel_rfl) rfl #[.int .i64 10241] rfl (by (try simp only [List.map_toArray, List.map_cons, List.map_nil]); first | done | rfl | (simp only [List.length_drop, List.length_take]; rfl)) ?_; (with_reducible refine (Of.calls 10241 t101 none _ A1.out).mono ?_); rintro e w11 ⟨ez0, rfl, he0, hb⟩; refine ⟨_, rfl, ?_⟩; have n0_ := Aside0.mk (below_step (by repeat (first | (with_reducible first | exact HB.out | apply below_alloc | apply pw_below_drewN | apply below_drew1) | exact HB.out)) hb); clear HB; have HB := n0_; clear n0_; (try clear hb); (try clear hb2); (try clear hk); (try clear hi); obtain rfl := ErR_nil he0; clear he0) | ((with_reducible refine gate_callee (f := 9) rfl ?_); refine goesL_ (some 10) rfl rfl Tryd.func9 (by kernel_rfl) rfl #[.int .i64 1] rfl (by (try simp only [List.map_toArray, List.map_cons, List.map_nil]); first | done | rfl | (simp only [List.length_drop, List.length_take]; rfl)) ?_; (with_reducible refine (Share.calls 1 t103 none _ A2.out).mono ?_); rintro e w12 ⟨ez0, rfl, he0, hb⟩; refine ⟨_, rfl, ?_⟩; have n0_ := Aside0.mk (below_step (by repeat (first | (with_reducible first | exact HB.out | apply below_alloc | apply pw_below_drewN | apply below_drew1) | exact HB.out)) hb); clear HB; have HB := n0_; clear n0_; (try clear hb); (try clear hb2); (try clear hk); (try clear hi); obtain rfl := ErR_nil he0; clear he0))
        go_ret
        exact ⟨by first | rfl | (simp [errW_none, errW_some] <;> rfl) | (simp [*, errW_none, errW_some] <;> rfl), by repeat (first | (with_reducible first | exact HB.out | apply below_alloc | apply pw_below_drewN | apply below_drew1) | exact HB.out)⟩
    · have H1 : (some false) = some r := by rw [if_neg (show ¬ (some q106).isNone = true by simp)] at H; exact H
      clear H
      have H := H1
      clear H1
      try simp only [errW_none, errW_some]
      skip
      obtain rfl := Option.some.inj H
      go_enter Tryd.func7, Tryd.ntmps7
      go_wp2_with (first | ((with_reducible refine gate_callee (f := 5) rfl ?_); refine goesL_ (some 6) rfl rfl Tryd.func5 (by kernel_rfl) rfl #[.int .i64 10241] rfl (by (try simp only [List.map_toArray, List.map_cons, List.map_nil]); first | done | rfl | (simp only [List.length_drop, List.length_take]; rfl)) ?_; (with_reducible refine (Of.calls 10241 t101 none _ A1.out).mono ?_); rintro e w13 ⟨ez0, rfl, he0, hb⟩; refine ⟨_, rfl, ?_⟩; have n0_ := Aside0.mk (below_step (by repeat (first | (with_reducible first | exact HB.out | apply below_alloc | apply pw_below_drewN | apply below_drew1) | exact HB.out)) hb); clear HB; have HB := n0_; clear n0_; (try clear hb); (try clear hb2); (try clear hk); (try clear hi); obtain rfl := ErR_nil he0; clear he0) | ((with_reducible refine gate_callee (f := 9) rfl ?_); refine goesL_ (some 10) rfl rfl Tryd.func9 (by kernel_rfl) rfl #[.int .i64 1] rfl (by (try simp only [List.map_toArray, List.map_cons, List.map_nil]); first | done | rfl | (simp only [List.length_drop, List.length_take]; rfl)) ?_; (with_reducible refine (Share.calls 1 t103 (some q106) _ A2.out).mono ?_); rintro e w14 ⟨ez0, rfl, he0, hb⟩; refine ⟨_, rfl, ?_⟩; have n0_ := Aside0.mk (below_step (by repeat (first | (with_reducible first | exact HB.out | apply below_alloc | apply pw_below_drewN | apply below_drew1) | exact HB.out)) hb); clear HB; have HB := n0_; clear n0_; (try clear hb); (try clear hb2); (try clear hk); (try clear hi); obtain ⟨ad_q106, rfl⟩ := ErR_ptr he0; have HE_q106 := Aside0.mk he0; clear he0))
      go_ret
      exact ⟨by first | rfl | (simp [errW_none, errW_some] <;> rfl) | (simp [*, errW_none, errW_some] <;> rfl), by repeat (first | (with_reducible first | exact HB.out | apply below_alloc | apply pw_below_drewN | apply below_drew1) | exact HB.out)⟩
  · have H1 : (some false) = some r := by rw [if_neg (show ¬ (some q105).isNone = true by simp)] at H; exact H
    clear H
    have H := H1
    clear H1
    try simp only [errW_none, errW_some]
    skip
    obtain rfl := Option.some.inj H
    go_enter Tryd.func7, Tryd.ntmps7
    go_wp2_with (first | ((with_reducible refine gate_callee (f := 5) rfl ?_); refine goesL_ (some 6) rfl rfl Tryd.func5 (by kernel_rfl) rfl #[.int .i64 10241] rfl (by (try simp only [List.map_toArray, List.map_cons, List.map_nil]); first | done | rfl | (simp only [List.length_drop, List.length_take]; rfl)) ?_; (with_reducible refine (Of.calls 10241 t101 (some q105) _ A1.out).mono ?_); rintro e w15 ⟨ez0, rfl, he0, hb⟩; refine ⟨_, rfl, ?_⟩; have n0_ := Aside0.mk (below_step (by repeat (first | (with_reducible first | exact HB.out | apply below_alloc | apply pw_below_drewN | apply below_drew1) | exact HB.out)) hb); clear HB; have HB := n0_; clear n0_; (try clear hb); (try clear hb2); (try clear hk); (try clear hi); obtain ⟨ad_q105, rfl⟩ := ErR_ptr he0; have HE_q105 := Aside0.mk he0; clear he0) | ((with_reducible refine gate_callee (f := 9) rfl ?_); refine goesL_ (some 10) rfl rfl Tryd.func9 (by kernel_rfl) rfl #[.int .i64 1] rfl (by (try simp only [List.map_toArray, List.map_cons, List.map_nil]); first | done | rfl | (simp only [List.length_drop, List.length_take]; rfl)) ?_; (with_reducible refine (Share.calls 1 t103 t104 _ A2.out).mono ?_); rintro e w16 ⟨ev_t104, rfl, he0, hb⟩; refine ⟨_, rfl, ?_⟩; (try (have nE_ := Aside0.mk (ErR_below hb (by repeat (first | (with_reducible exact HE_q105.out) | (with_reducible apply ErR_drew) | (with_reducible apply ErR_drewN) | (with_reducible apply ErR_alloc) | (with_reducible refine ErR_set (by repeat (first | (with_reducible refine NF_blk (Aside0.out (by assumption)) (by decide)) | (with_reducible apply NF_set) | (with_reducible apply NF_drew) | (with_reducible apply NF_drewN) | (with_reducible apply NF_alloc))) ?_) | exact HE_q105.out | apply ErR_drew | apply ErR_drewN | apply ErR_alloc))); clear HE_q105; have HE_q105 := nE_; clear nE_)); have n0_ := Aside0.mk (below_step (by repeat (first | (with_reducible first | exact HB.out | apply below_alloc | apply pw_below_drewN | apply below_drew1) | exact HB.out)) hb); clear HB; have HB := n0_; clear n0_; (try clear hb); (try clear hb2); (try clear hk); (try clear hi); have HE_t104 := Aside0.mk he0; clear he0))
    go_ret
    exact ⟨by first | rfl | (simp [errW_none, errW_some] <;> rfl) | (simp [*, errW_none, errW_some] <;> rfl), by repeat (first | (with_reducible first | exact HB.out | apply below_alloc | apply pw_below_drewN | apply below_drew1) | exact HB.out)⟩

/-! ### geyserref07_Of: function 8 -/
def geyserref07_Of.f (a0 : Int) : Option (Int) := if a0 < 10241 then (some 1) else (if a0 < 491582 then (some 2) else (if a0 < 712794 then (some 3) else (if a0 < 831695 then (some 4) else (if a0 < 948446 then (some 10) else (if a0 < 1032189 then (some 11) else (some 40))))))
set_option maxHeartbeats 8000000 in
set_option maxRecDepth 100000 in
theorem geyserref07_Of.calls (a0 : Int) (r : Int) (w : World) (h : geyserref07_Of.f a0 = some r) :
    Calls Tryd.prog 8 #[.int .i64 a0] w fun e w' => e = .returned (.int .i64 r) ∧ Drawn0 w w' := by
  have H : (if a0 < 10241 then (some 1) else (if a0 < 491582 then (some 2) else (if a0 < 712794 then (some 3) else (if a0 < 831695 then (some 4) else (if a0 < 948446 then (some 10) else (if a0 < 1032189 then (some 11) else (some 40))))))) = some r := h
  clear h
  by_cases c2 : a0 < 10241
  · rw [if_pos c2] at H
    have c2b0 : decide (a0 < 10241) = true := decide_eq_true c2
    clear c2
    obtain rfl := Option.some.inj H
    go_enter Tryd.func8, Tryd.ntmps8
    go_wp2
    go_ret
    exact ⟨by first | rfl | (simp; done) | (simp [*]; done), by repeat (first | exact Drawn0.refl _ | apply Drawn0.step)⟩
  · rw [if_neg c2] at H
    have c2b0 : decide (a0 < 10241) = false := decide_eq_false c2
    clear c2
    by_cases c3 : a0 < 491582
    · rw [if_pos c3] at H
      have c3b0 : decide (a0 < 491582) = true := decide_eq_true c3
      clear c3
      obtain rfl := Option.some.inj H
      go_enter Tryd.func8, Tryd.ntmps8
      go_wp2
      go_ret
      exact ⟨by first | rfl | (simp; done) | (simp [*]; done), by repeat (first | exact Drawn0.refl _ | apply Drawn0.step)⟩
    · rw [if_neg c3] at H
      have c3b0 : decide (a0 < 491582) = false := decide_eq_false c3
      clear c3
      by_cases c4 : a0 < 712794
      · rw [if_pos c4] at H
        have c4b0 : decide (a0 < 712794) = true := decide_eq_true c4
        clear c4
        obtain rfl := Option.some.inj H
        go_enter Tryd.func8, Tryd.ntmps8
        go_wp2
        go_ret
        exact ⟨by first | rfl | (simp; done) | (simp [*]; done), by repeat (first | exact Drawn0.refl _ | apply Drawn0.step)⟩
      · rw [if_neg c4] at H
        have c4b0 : decide (a0 < 712794) = false := decide_eq_false c4
        clear c4
        by_cases c5 : a0 < 831695
        · rw [if_pos c5] at H
          have c5b0 : decide (a0 < 831695) = true := decide_eq_true c5
          clear c5
          obtain rfl := Option.some.inj H
          go_enter Tryd.func8, Tryd.ntmps8
          go_wp2
          go_ret
          exact ⟨by first | rfl | (simp; done) | (simp [*]; done), by repeat (first | exact Drawn0.refl _ | apply Drawn0.step)⟩
        · rw [if_neg c5] at H
          have c5b0 : decide (a0 < 831695) = false := decide_eq_false c5
          clear c5
          by_cases c6 : a0 < 948446
          · rw [if_pos c6] at H
            have c6b0 : decide (a0 < 948446) = true := decide_eq_true c6
            clear c6
            obtain rfl := Option.some.inj H
            go_enter Tryd.func8, Tryd.ntmps8
            go_wp2
            go_ret
            exact ⟨by first | rfl | (simp; done) | (simp [*]; done), by repeat (first | exact Drawn0.refl _ | apply Drawn0.step)⟩
          · rw [if_neg c6] at H
            have c6b0 : decide (a0 < 948446) = false := decide_eq_false c6
            clear c6
            by_cases c7 : a0 < 1032189
            · rw [if_pos c7] at H
              have c7b0 : decide (a0 < 1032189) = true := decide_eq_true c7
              clear c7
              obtain rfl := Option.some.inj H
              go_enter Tryd.func8, Tryd.ntmps8
              go_wp2
              go_ret
              exact ⟨by first | rfl | (simp; done) | (simp [*]; done), by repeat (first | exact Drawn0.refl _ | apply Drawn0.step)⟩
            · rw [if_neg c7] at H
              have c7b0 : decide (a0 < 1032189) = false := decide_eq_false c7
              clear c7
              obtain rfl := Option.some.inj H
              go_enter Tryd.func8, Tryd.ntmps8
              go_wp2
              go_ret
              exact ⟨by first | rfl | (simp; done) | (simp [*]; done), by repeat (first | exact Drawn0.refl _ | apply Drawn0.step)⟩

/-! ### geyserlaw07_DegreeOfs: function 3 -/
def geyserlaw07_DegreeOfs.j0 : Nat → Int → Int → Option Er → Bool → Option (Bool)
  | 0, _, _, _, _ => none
  | k + 1, x0, x3, x4, x15 => if x15 = true then ((tells.f x4 1 (⟨#[100, 101, 103, 114, 101, 101, 46, 79, 102]⟩ : ByteArray)).bind fun t110 => (if t110 = true then (if x3 = 0 then ((geyserlaw07_awake.f).bind fun t111 => (some t111)) else (some false)) else (some false))) else (if x4.isNone = true then ((geyserref07_Of.f x0).bind fun t113 => (if x3 = t113 then ((geyserlaw07_awake.f).bind fun t114 => (some t114)) else (some false))) else (some false))
def geyserlaw07_DegreeOfs.f (k : Nat) (a0 : Int) : Option (Bool) := (Of.f a0).bind fun bt108 => (if a0 < 0 then (geyserlaw07_DegreeOfs.j0 k a0 bt108.1 bt108.2 true) else (geyserlaw07_DegreeOfs.j0 k a0 bt108.1 bt108.2 (decide (a0 ≥ 1048576))))
theorem geyserlaw07_DegreeOfs.mono_l : ∀ k, (∀ y0 y1 y2 y3, LeO (geyserlaw07_DegreeOfs.j0 k y0 y1 y2 y3) (geyserlaw07_DegreeOfs.j0 (k + 1) y0 y1 y2 y3))
  | 0 => fun _ _ _ _ r h => by simp [geyserlaw07_DegreeOfs.j0] at h
  | k + 1 => by
    have ih0 := geyserlaw07_DegreeOfs.mono_l k
    · intro y0 y1 y2 y3
      unfold geyserlaw07_DegreeOfs.j0
      repeat' first
      | (with_reducible exact ih0 _ _ _ _)
      | (with_reducible exact LeO.refl _)
      | (with_reducible exact LeO.none _)
      | (with_reducible refine LeO.ite ?_ ?_)
      | (with_reducible refine LeO.bind ?_ (fun _ => ?_))
      | exact ih0 _ _ _ _
      | exact LeO.none _
      | refine LeO.ite ?_ ?_
      | refine LeO.bind ?_ (fun _ => ?_)
theorem geyserlaw07_DegreeOfs.mono : ∀ a0 k, LeO (geyserlaw07_DegreeOfs.f k a0) (geyserlaw07_DegreeOfs.f (k + 1) a0) := by
  intro a0 k
  have ih0 := geyserlaw07_DegreeOfs.mono_l k
  unfold geyserlaw07_DegreeOfs.f
  repeat' first
      | (with_reducible exact ih0 _ _ _ _)
      | (with_reducible exact LeO.refl _)
      | (with_reducible exact LeO.none _)
      | (with_reducible refine LeO.ite ?_ ?_)
      | (with_reducible refine LeO.bind ?_ (fun _ => ?_))
      | exact ih0 _ _ _ _
      | exact LeO.none _
      | refine LeO.ite ?_ ?_
      | refine LeO.bind ?_ (fun _ => ?_)
set_option maxHeartbeats 8000000 in
set_option maxRecDepth 100000 in
theorem geyserlaw07_DegreeOfs.calls (k : Nat) (a0 : Int) (r : Bool) (w : World) (hG : Glob w) (h : geyserlaw07_DegreeOfs.f k a0 = some r) :
    Calls Tryd.prog 3 #[.int .i64 a0] w fun e w' => e = .returned (.bool r) ∧ Below w.heap.size w w' := by
  have hu23 := Tryd.underlying23
  have HG := Aside0.mk hG
  clear hG
  have HB := Aside0.mk (Below.refl w.heap.size w)
  have H : ((Of.f a0).bind fun bt108 => (if a0 < 0 then (geyserlaw07_DegreeOfs.j0 k a0 bt108.1 bt108.2 true) else (geyserlaw07_DegreeOfs.j0 k a0 bt108.1 bt108.2 (decide (a0 ≥ 1048576))))) = some r := h
  clear h
  replace H := Option.bind_eq_some_iff.mp H
  obtain ⟨⟨t108, t109⟩, A20, H⟩ := H
  replace H : (if a0 < 0 then (geyserlaw07_DegreeOfs.j0 k a0 t108 t109 true) else (geyserlaw07_DegreeOfs.j0 k a0 t108 t109 (decide (a0 ≥ 1048576)))) = some r := H
  have A2 := Aside0.mk A20
  clear A20
  have HC3 := Aside0.mk H
  clear H
  go_enter Tryd.func3, Tryd.ntmps3
  go_upto_region 2 with (first | ((with_reducible refine gate_callee (f := 5) rfl ?_); refine goesL_ (some 7) rfl rfl Tryd.func5 (by kernel_rfl) rfl #[.int .i64 a0] rfl (by (try simp only [List.map_toArray, List.map_cons, List.map_nil]); first | done | rfl | (simp only [List.length_drop, List.length_take]; rfl)) ?_; (with_reducible refine (Of.calls a0 t108 t109 _ A2.out).mono ?_); rintro e w4 ⟨ev_t109, rfl, he0, hb⟩; refine ⟨_, rfl, ?_⟩; have n0_ := Aside0.mk (below_step (by repeat (first | (with_reducible first | exact HB.out | apply below_alloc | apply pw_below_drewN | apply below_drew1) | exact HB.out)) hb); clear HB; have HB := n0_; clear n0_; (try clear hb); (try clear hb2); (try clear hk); (try clear hi); have HE_t109 := Aside0.mk he0; clear he0))
  (try simp only [Act.put, List.setIfInBounds_toArray, List.set_cons_zero, List.set_cons_succ])
  go_cut [15] (fun v15 wc => ∃ (kq : Nat) (x15_2 : Bool), v15 = .bool x15_2 ∧ Aside0 (geyserlaw07_DegreeOfs.j0 kq a0 t108 t109 x15_2 = some r) ∧ Aside0 (kq ≤ k) ∧ Aside0 (ErR wc (ev_t109) t109) ∧ Aside0 (Below w.heap.size w wc))
  case first =>
    have H := HC3.out
    clear HC3
    by_cases c5 : a0 < 0
    · rw [if_pos c5] at H
      have c5b0 : decide (a0 < 0) = true := decide_eq_true c5
      clear c5
      (first | rw [c5b0] | (simp only [i64_w, i32_w]; rw [c5b0]) | skip)
      have H' := Aside0.mk H
      clear H
      go_wp2
      go_meet
      case rel => exact ⟨_, (true), (by first | rfl | (simp; done) | (simp [*]; done)), H', ⟨by first | omega | exact Nat.le_refl _⟩, ⟨by repeat (first | (with_reducible exact HE_t109.out) | (with_reducible apply ErR_drew) | (with_reducible apply ErR_drewN) | (with_reducible apply ErR_alloc) | (with_reducible refine ErR_set (by repeat (first | (with_reducible refine NF_blk (Aside0.out (by assumption)) (by decide)) | (with_reducible apply NF_set) | (with_reducible apply NF_drew) | (with_reducible apply NF_drewN) | (with_reducible apply NF_alloc))) ?_) | exact HE_t109.out | apply ErR_drew | apply ErR_drewN | apply ErR_alloc)⟩, ⟨by repeat (first | (with_reducible first | exact HB.out | apply below_alloc | apply pw_below_drewN | apply below_drew1) | exact HB.out)⟩⟩
    · rw [if_neg c5] at H
      have c5b0 : decide (a0 < 0) = false := decide_eq_false c5
      clear c5
      (first | rw [c5b0] | (simp only [i64_w, i32_w]; rw [c5b0]) | skip)
      have H' := Aside0.mk H
      clear H
      go_wp2
      go_meet
      case rel => exact ⟨_, (decide (a0 ≥ 1048576)), (by first | rfl | (simp; done) | (simp [*]; done)), H', ⟨by first | omega | exact Nat.le_refl _⟩, ⟨by repeat (first | (with_reducible exact HE_t109.out) | (with_reducible apply ErR_drew) | (with_reducible apply ErR_drewN) | (with_reducible apply ErR_alloc) | (with_reducible refine ErR_set (by repeat (first | (with_reducible refine NF_blk (Aside0.out (by assumption)) (by decide)) | (with_reducible apply NF_set) | (with_reducible apply NF_drew) | (with_reducible apply NF_drewN) | (with_reducible apply NF_alloc))) ?_) | exact HE_t109.out | apply ErR_drew | apply ErR_drewN | apply ErR_alloc)⟩, ⟨by repeat (first | (with_reducible first | exact HB.out | apply below_alloc | apply pw_below_drewN | apply below_drew1) | exact HB.out)⟩⟩
  case rest =>
    clear HC3
    try clear p2
    try clear c3
    try clear c5
    try clear c5b0
    obtain ⟨kq, x15_2, rfl, HA, HJ2, HE_t109, HB⟩ := hcut
    cases kq with
    | zero => exact absurd HA.out (by simp [geyserlaw07_DegreeOfs.j0])
    | succ kj2 =>
      have H := HA.out
      clear HA
      simp only [geyserlaw07_DegreeOfs.j0] at H
      by_cases c6 : x15_2 = true
      · subst c6
        have H1 : ((tells.f t109 1 (⟨#[100, 101, 103, 114, 101, 101, 46, 79, 102]⟩ : ByteArray)).bind fun t110 => (if t110 = true then (if t108 = 0 then ((geyserlaw07_awake.f).bind fun t111 => (some t111)) else (some false)) else (some false))) = some r := by rw [if_pos rfl] at H; exact H
        clear H
        have H := H1
        clear H1
        replace H := Option.bind_eq_some_iff.mp H
        obtain ⟨t110, A70, H⟩ := H
        replace H : (if t110 = true then (if t108 = 0 then ((geyserlaw07_awake.f).bind fun t111 => (some t111)) else (some false)) else (some false)) = some r := H
        have A7 := Aside0.mk A70
        clear A70
        by_cases c8 : t110 = true
        · subst c8
          have H1 : (if t108 = 0 then ((geyserlaw07_awake.f).bind fun t111 => (some t111)) else (some false)) = some r := by rw [if_pos rfl] at H; exact H
          clear H
          have H := H1
          clear H1
          by_cases c9 : t108 = 0
          · rw [if_pos c9] at H
            have c9b0 : (t108 == 0) = true := beq_iff_eq.mpr c9
            have c9b1 : (t108 != 0) = false := bne_eq_false_iff_eq.mpr c9
            clear c9
            replace H := Option.bind_eq_some_iff.mp H
            obtain ⟨t111, A100, H⟩ := H
            replace H : (some t111) = some r := H
            have A10 := Aside0.mk A100
            clear A100
            obtain rfl := Option.some.inj H
            go_wp2_with (first | (go_at_call 6; (with_reducible refine (tells.calls _ t109 1 (⟨#[100, 101, 103, 114, 101, 101, 46, 79, 102]⟩ : ByteArray) true _ ?side1 ?side2 A7.out).mono ?_); (case side1 => repeat (first | (with_reducible exact HE_t109.out) | (with_reducible apply ErR_drew) | (with_reducible apply ErR_drewN) | (with_reducible apply ErR_alloc) | (with_reducible refine ErR_set (by repeat (first | (with_reducible refine NF_blk (Aside0.out (by assumption)) (by decide)) | (with_reducible apply NF_set) | (with_reducible apply NF_drew) | (with_reducible apply NF_drewN) | (with_reducible apply NF_alloc))) ?_) | exact HE_t109.out | apply ErR_drew | apply ErR_drewN | apply ErR_alloc)); (case side2 => exact Glob_below HG.out (by repeat (first | (with_reducible first | exact HB.out | apply below_alloc | apply pw_below_drewN | apply below_drew1) | exact HB.out))); rintro e w11 ⟨rfl, hb⟩; (try (have nE_ := Aside0.mk (ErR_below hb (by repeat (first | (with_reducible exact HE_t109.out) | (with_reducible apply ErR_drew) | (with_reducible apply ErR_drewN) | (with_reducible apply ErR_alloc) | (with_reducible refine ErR_set (by repeat (first | (with_reducible refine NF_blk (Aside0.out (by assumption)) (by decide)) | (with_reducible apply NF_set) | (with_reducible apply NF_drew) | (with_reducible apply NF_drewN) | (with_reducible apply NF_alloc))) ?_) | exact HE_t109.out | apply ErR_drew | apply ErR_drewN | apply ErR_alloc))); clear HE_t109; have HE_t109 := nE_; clear nE_)); have n0_ := Aside0.mk (below_step (by repeat (first | (with_reducible first | exact HB.out | apply below_alloc | apply pw_below_drewN | apply below_drew1) | exact HB.out)) hb); clear HB; have HB := n0_; clear n0_; (try clear hb); (try clear hb2); (try clear hk); (try clear hi)) | (go_at_call 7; (with_reducible refine (geyserlaw07_awake.calls  t111 _ A10.out).mono ?_); rintro e w12 ⟨rfl, hb⟩; (try (have nE_ := Aside0.mk (ErR_below hb (by repeat (first | (with_reducible exact HE_t109.out) | (with_reducible apply ErR_drew) | (with_reducible apply ErR_drewN) | (with_reducible apply ErR_alloc) | (with_reducible refine ErR_set (by repeat (first | (with_reducible refine NF_blk (Aside0.out (by assumption)) (by decide)) | (with_reducible apply NF_set) | (with_reducible apply NF_drew) | (with_reducible apply NF_drewN) | (with_reducible apply NF_alloc))) ?_) | exact HE_t109.out | apply ErR_drew | apply ErR_drewN | apply ErR_alloc))); clear HE_t109; have HE_t109 := nE_; clear nE_)); have n0_ := Aside0.mk (below_step (by repeat (first | (with_reducible first | exact HB.out | apply below_alloc | apply pw_below_drewN | apply below_drew1) | exact HB.out)) hb); clear HB; have HB := n0_; clear n0_; (try clear hb); (try clear hb2); (try clear hk); (try clear hi)))
            go_ret
            exact ⟨by first | rfl | (simp [errW_none, errW_some] <;> rfl) | (simp [*, errW_none, errW_some] <;> rfl), by repeat (first | (with_reducible first | exact HB.out | apply below_alloc | apply pw_below_drewN | apply below_drew1) | exact HB.out)⟩
          · rw [if_neg c9] at H
            have c9b0 : (t108 == 0) = false := beq_eq_false_iff_ne.mpr c9
            have c9b1 : (t108 != 0) = true := bne_iff_ne.mpr c9
            obtain rfl := Option.some.inj H
            go_wp2_with (first | (go_at_call 6; (with_reducible refine (tells.calls _ t109 1 (⟨#[100, 101, 103, 114, 101, 101, 46, 79, 102]⟩ : ByteArray) true _ ?side1 ?side2 A7.out).mono ?_); (case side1 => repeat (first | (with_reducible exact HE_t109.out) | (with_reducible apply ErR_drew) | (with_reducible apply ErR_drewN) | (with_reducible apply ErR_alloc) | (with_reducible refine ErR_set (by repeat (first | (with_reducible refine NF_blk (Aside0.out (by assumption)) (by decide)) | (with_reducible apply NF_set) | (with_reducible apply NF_drew) | (with_reducible apply NF_drewN) | (with_reducible apply NF_alloc))) ?_) | exact HE_t109.out | apply ErR_drew | apply ErR_drewN | apply ErR_alloc)); (case side2 => exact Glob_below HG.out (by repeat (first | (with_reducible first | exact HB.out | apply below_alloc | apply pw_below_drewN | apply below_drew1) | exact HB.out))); rintro e w13 ⟨rfl, hb⟩; (try (have nE_ := Aside0.mk (ErR_below hb (by repeat (first | (with_reducible exact HE_t109.out) | (with_reducible apply ErR_drew) | (with_reducible apply ErR_drewN) | (with_reducible apply ErR_alloc) | (with_reducible refine ErR_set (by repeat (first | (with_reducible refine NF_blk (Aside0.out (by assumption)) (by decide)) | (with_reducible apply NF_set) | (with_reducible apply NF_drew) | (with_reducible apply NF_drewN) | (with_reducible apply NF_alloc))) ?_) | exact HE_t109.out | apply ErR_drew | apply ErR_drewN | apply ErR_alloc))); clear HE_t109; have HE_t109 := nE_; clear nE_)); have n0_ := Aside0.mk (below_step (by repeat (first | (with_reducible first | exact HB.out | apply below_alloc | apply pw_below_drewN | apply below_drew1) | exact HB.out)) hb); clear HB; have HB := n0_; clear n0_; (try clear hb); (try clear hb2); (try clear hk); (try clear hi)))
            go_ret
            exact ⟨by first | rfl | (simp [errW_none, errW_some] <;> rfl) | (simp [*, errW_none, errW_some] <;> rfl), by repeat (first | (with_reducible first | exact HB.out | apply below_alloc | apply pw_below_drewN | apply below_drew1) | exact HB.out)⟩
        · replace c8 := Bool.eq_false_iff.mpr c8
          subst c8
          have H1 : (some false) = some r := by rw [if_neg (show ¬ (false = true) by decide)] at H; exact H
          clear H
          have H := H1
          clear H1
          obtain rfl := Option.some.inj H
          go_wp2_with (first | (go_at_call 6; (with_reducible refine (tells.calls _ t109 1 (⟨#[100, 101, 103, 114, 101, 101, 46, 79, 102]⟩ : ByteArray) false _ ?side1 ?side2 A7.out).mono ?_); (case side1 => repeat (first | (with_reducible exact HE_t109.out) | (with_reducible apply ErR_drew) | (with_reducible apply ErR_drewN) | (with_reducible apply ErR_alloc) | (with_reducible refine ErR_set (by repeat (first | (with_reducible refine NF_blk (Aside0.out (by assumption)) (by decide)) | (with_reducible apply NF_set) | (with_reducible apply NF_drew) | (with_reducible apply NF_drewN) | (with_reducible apply NF_alloc))) ?_) | exact HE_t109.out | apply ErR_drew | apply ErR_drewN | apply ErR_alloc)); (case side2 => exact Glob_below HG.out (by repeat (first | (with_reducible first | exact HB.out | apply below_alloc | apply pw_below_drewN | apply below_drew1) | exact HB.out))); rintro e w14 ⟨rfl, hb⟩; (try (have nE_ := Aside0.mk (ErR_below hb (by repeat (first | (with_reducible exact HE_t109.out) | (with_reducible apply ErR_drew) | (with_reducible apply ErR_drewN) | (with_reducible apply ErR_alloc) | (with_reducible refine ErR_set (by repeat (first | (with_reducible refine NF_blk (Aside0.out (by assumption)) (by decide)) | (with_reducible apply NF_set) | (with_reducible apply NF_drew) | (with_reducible apply NF_drewN) | (with_reducible apply NF_alloc))) ?_) | exact HE_t109.out | apply ErR_drew | apply ErR_drewN | apply ErR_alloc))); clear HE_t109; have HE_t109 := nE_; clear nE_)); have n0_ := Aside0.mk (below_step (by repeat (first | (with_reducible first | exact HB.out | apply below_alloc | apply pw_below_drewN | apply below_drew1) | exact HB.out)) hb); clear HB; have HB := n0_; clear n0_; (try clear hb); (try clear hb2); (try clear hk); (try clear hi)))
          go_ret
          exact ⟨by first | rfl | (simp [errW_none, errW_some] <;> rfl) | (simp [*, errW_none, errW_some] <;> rfl), by repeat (first | (with_reducible first | exact HB.out | apply below_alloc | apply pw_below_drewN | apply below_drew1) | exact HB.out)⟩
      · replace c6 := Bool.eq_false_iff.mpr c6
        subst c6
        have H1 : (if t109.isNone = true then ((geyserref07_Of.f a0).bind fun t113 => (if t108 = t113 then ((geyserlaw07_awake.f).bind fun t114 => (some t114)) else (some false))) else (some false)) = some r := by rw [if_neg (show ¬ (false = true) by decide)] at H; exact H
        clear H
        have H := H1
        clear H1
        rcases t109 with _ | q112
        · have H1 : ((geyserref07_Of.f a0).bind fun t113 => (if t108 = t113 then ((geyserlaw07_awake.f).bind fun t114 => (some t114)) else (some false))) = some r := by rw [if_pos (show (none : Option Er).isNone = true by rfl)] at H; exact H
          clear H
          have H := H1
          clear H1
          try simp only [errW_none, errW_some]
          (try (obtain rfl := ErR_nil HE_t109.out; clear HE_t109))
          replace H := Option.bind_eq_some_iff.mp H
          obtain ⟨t113, A150, H⟩ := H
          replace H : (if t108 = t113 then ((geyserlaw07_awake.f).bind fun t114 => (some t114)) else (some false)) = some r := H
          have A15 := Aside0.mk A150
          clear A150
          by_cases c16 : t108 = t113
          · rw [if_pos c16] at H
            have c16b0 : (t108 == t113) = true := beq_iff_eq.mpr c16
            have c16b1 : (t108 != t113) = false := bne_eq_false_iff_eq.mpr c16
            clear c16
            replace H := Option.bind_eq_some_iff.mp H
            obtain ⟨t114, A170, H⟩ := H
            replace H : (some t114) = some r := H
            have A17 := Aside0.mk A170
            clear A170
            obtain rfl := Option.some.inj H
            go_wp2_with (first | (go_at_call 8; (with_reducible refine (geyserref07_Of.calls a0 t113 _ A15.out).mono ?_); rintro e w' ⟨rfl, ⟨nd, rfl⟩⟩) | (go_at_call 7; (with_reducible refine (geyserlaw07_awake.calls  t114 _ A17.out).mono ?_); rintro e w18 ⟨rfl, hb⟩; (try (have nE_ := Aside0.mk (ErR_below hb (by repeat (first | (with_reducible exact HE_t109.out) | (with_reducible apply ErR_drew) | (with_reducible apply ErR_drewN) | (with_reducible apply ErR_alloc) | (with_reducible refine ErR_set (by repeat (first | (with_reducible refine NF_blk (Aside0.out (by assumption)) (by decide)) | (with_reducible apply NF_set) | (with_reducible apply NF_drew) | (with_reducible apply NF_drewN) | (with_reducible apply NF_alloc))) ?_) | exact HE_t109.out | apply ErR_drew | apply ErR_drewN | apply ErR_alloc))); clear HE_t109; have HE_t109 := nE_; clear nE_)); have n0_ := Aside0.mk (below_step (by repeat (first | (with_reducible first | exact HB.out | apply below_alloc | apply pw_below_drewN | apply below_drew1) | exact HB.out)) hb); clear HB; have HB := n0_; clear n0_; (try clear hb); (try clear hb2); (try clear hk); (try clear hi)))
            go_ret
            exact ⟨by first | rfl | (simp [errW_none, errW_some] <;> rfl) | (simp [*, errW_none, errW_some] <;> rfl), by repeat (first | (with_reducible first | exact HB.out | apply below_alloc | apply pw_below_drewN | apply below_drew1) | exact HB.out)⟩
          · rw [if_neg c16] at H
            have c16b0 : (t108 == t113) = false := beq_eq_false_iff_ne.mpr c16
            have c16b1 : (t108 != t113) = true := bne_iff_ne.mpr c16
            obtain rfl := Option.some.inj H
            go_wp2_with (first | (go_at_call 8; (with_reducible refine (geyserref07_Of.calls a0 t113 _ A15.out).mono ?_); rintro e w' ⟨rfl, ⟨nd, rfl⟩⟩))
            go_ret
            exact ⟨by first | rfl | (simp [errW_none, errW_some] <;> rfl) | (simp [*, errW_none, errW_some] <;> rfl), by repeat (first | (with_reducible first | exact HB.out | apply below_alloc | apply pw_below_drewN | apply below_drew1) | exact HB.out)⟩
        · have H1 : (some false) = some r := by rw [if_neg (show ¬ (some q112).isNone = true by simp)] at H; exact H
          clear H
          have H := H1
          clear H1
          try simp only [errW_none, errW_some]
          (try (obtain ⟨ad_q112, rfl⟩ := ErR_ptr HE_t109.out; have HE_q112 := HE_t109; clear HE_t109))
          obtain rfl := Option.some.inj H
          go_wp2
          go_ret
          exact ⟨by first | rfl | (simp [errW_none, errW_some] <;> rfl) | (simp [*, errW_none, errW_some] <;> rfl), by repeat (first | (with_reducible first | exact HB.out | apply below_alloc | apply pw_below_drewN | apply below_drew1) | exact HB.out)⟩

/-- THE ONE PURE STATEMENT of geyserlaw07_DegreeOfs: yours. -/
def geyserlaw07_DegreeOfs.Pure : Prop := ∀ (a0 : Int), (Lit.int .i64 a0).wf = true → ∃ k, geyserlaw07_DegreeOfs.f k a0 = some true
theorem geyserlaw07_DegreeOfs.walk (P : geyserlaw07_DegreeOfs.Pure) (a0 : Int) (w : World) (w0 : (Lit.int .i64 a0).wf = true) (hG : Glob w) :
    Calls Tryd.prog 3 #[.int .i64 a0] w fun e w' => e = .returned (.bool true) ∧ Below w.heap.size w w' := by
  obtain ⟨k, h⟩ := P a0 w0
  refine (geyserlaw07_DegreeOfs.calls k a0 true w hG h).mono ?_
  rintro e w' ⟨rfl, hd⟩
  exact ⟨rfl, hd⟩

end Go.Proofs.YtbopkmjleiopnaaDoor.QDegreeOfs
