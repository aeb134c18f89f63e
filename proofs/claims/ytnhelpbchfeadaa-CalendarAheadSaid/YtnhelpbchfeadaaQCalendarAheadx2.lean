-- Written by a program of this session out of the translation. Lean checks it.
import Derived.Test.YtnhelpbchfeadaaQCalendarAheadx0
import Derived.Test.YtnhelpbchfeadaaQCalendarAheadx1
namespace Go.Proofs.Ytnhelpbchfeadaa.QCalendarAhead
open Go.RowKit Go.Proofs.Ytnhelpbchfeadaa.Er Go.Proofs.YtnhelpbchfeadaaW.PrintWords Go.Proofs.YtnhelpbchfeadaaW.PrintLast Go.Proofs.YtnhelpbchfeadaaW.PrintMore
attribute [local go_sem] max2_int min2_int max_two min_two max_three min_three max_four min_four   -- for this text's walks alone
set_option linter.unusedVariables false
set_option linter.unusedSimpArgs false

/-! ### geyserlaw18_CalendarAhead: function 5 -/
def geyserlaw18_CalendarAhead.l0 : Nat → Int → Int → Int → Int → Option (Bool)
  | 0, _, _, _, _ => none
  | k + 1, x0, x1, x2, x7 => if x7 < x0 then ((calendar_Burst.f x0 x1 (wrap64 ((wrap64 (x2 * x0)) + x7))).bind fun bt132 => (if bt132.2.isNone = true then (if (bt132.1 != (decide (x7 ≥ (wrap64 (x0 - x1))))) = true then (some false) else (geyserlaw18_CalendarAhead.l0 k x0 x1 x2 (wrap64 (x7 + 1)))) else (some false))) else ((calendar_Sync.f k x0 8 (wrap64 ((wrap64 (x2 + 1)) * x0))).bind fun bt135 => (if bt135.2.isNone = true then (if bt135.1 ≥ 0 then ((geyserlaw18_awake.f k).bind fun t138 => (some t138)) else (some false)) else (some false)))
def geyserlaw18_CalendarAhead.f (k : Nat) (a0 : Int) (a1 : Int) (a2 : Int) : Option (Bool) := if (IntKind.u64.wrap (wrap64 ((wrap64 (2 + (wrap64 (Int.tmod (IntKind.u64.wrap (a0)) 100)))) - 1))) = 0 then (none) else (geyserlaw18_CalendarAhead.l0 k (wrap64 (2 + (wrap64 (Int.tmod (IntKind.u64.wrap (a0)) 100)))) (wrap64 (1 + (wrap64 (Int.tmod (IntKind.u64.wrap (a1)) (IntKind.u64.wrap (wrap64 ((wrap64 (2 + (wrap64 (Int.tmod (IntKind.u64.wrap (a0)) 100)))) - 1))))))) (wrap64 (Int.tmod (IntKind.u64.wrap (a2)) 1000000)) 0)
theorem geyserlaw18_CalendarAhead.mono_l : ∀ k, (∀ y0 y1 y2 y3, LeO (geyserlaw18_CalendarAhead.l0 k y0 y1 y2 y3) (geyserlaw18_CalendarAhead.l0 (k + 1) y0 y1 y2 y3))
  | 0 => fun _ _ _ _ r h => by simp [geyserlaw18_CalendarAhead.l0] at h
  | k + 1 => by
    have ih0 := geyserlaw18_CalendarAhead.mono_l k
    · intro y0 y1 y2 y3
      unfold geyserlaw18_CalendarAhead.l0
      repeat' first
      | (with_reducible exact ih0 _ _ _ _)
      | (with_reducible exact calendar_Sync.mono _ _ _ _)
      | (with_reducible exact geyserlaw18_awake.mono _)
      | (with_reducible exact LeO.refl _)
      | (with_reducible exact LeO.none _)
      | (with_reducible refine LeO.ite ?_ ?_)
      | (with_reducible refine LeO.bind ?_ (fun _ => ?_))
      | exact ih0 _ _ _ _
      | exact calendar_Sync.mono _ _ _ _
      | exact geyserlaw18_awake.mono _
      | exact LeO.none _
      | refine LeO.ite ?_ ?_
      | refine LeO.bind ?_ (fun _ => ?_)
theorem geyserlaw18_CalendarAhead.mono : ∀ a0 a1 a2 k, LeO (geyserlaw18_CalendarAhead.f k a0 a1 a2) (geyserlaw18_CalendarAhead.f (k + 1) a0 a1 a2) := by
  intro a0 a1 a2 k
  have ih0 := geyserlaw18_CalendarAhead.mono_l k
  unfold geyserlaw18_CalendarAhead.f
  repeat' first
      | (with_reducible exact ih0 _ _ _ _)
      | (with_reducible exact calendar_Sync.mono _ _ _ _)
      | (with_reducible exact geyserlaw18_awake.mono _)
      | (with_reducible exact LeO.refl _)
      | (with_reducible exact LeO.none _)
      | (with_reducible refine LeO.ite ?_ ?_)
      | (with_reducible refine LeO.bind ?_ (fun _ => ?_))
      | exact ih0 _ _ _ _
      | exact calendar_Sync.mono _ _ _ _
      | exact geyserlaw18_awake.mono _
      | exact LeO.none _
      | refine LeO.ite ?_ ?_
      | refine LeO.bind ?_ (fun _ => ?_)
set_option maxHeartbeats 8000000 in
set_option maxRecDepth 100000 in
theorem geyserlaw18_CalendarAhead.calls (k : Nat) (a0 : Int) (a1 : Int) (a2 : Int) (r : Bool) (w : World) (h : geyserlaw18_CalendarAhead.f k a0 a1 a2 = some r) :
    Calls Try.prog 5 #[.int .i64 a0, .int .i64 a1, .int .i64 a2] w fun e w' => e = .returned (.bool r) ∧ Below w.heap.size w w' := by
  have hu24 := Try.underlying24
  have HB := Aside0.mk (Below.refl w.heap.size w)
  have H : (if (IntKind.u64.wrap (wrap64 ((wrap64 (2 + (wrap64 (Int.tmod (IntKind.u64.wrap (a0)) 100)))) - 1))) = 0 then (none) else (geyserlaw18_CalendarAhead.l0 k (wrap64 (2 + (wrap64 (Int.tmod (IntKind.u64.wrap (a0)) 100)))) (wrap64 (1 + (wrap64 (Int.tmod (IntKind.u64.wrap (a1)) (IntKind.u64.wrap (wrap64 ((wrap64 (2 + (wrap64 (Int.tmod (IntKind.u64.wrap (a0)) 100)))) - 1))))))) (wrap64 (Int.tmod (IntKind.u64.wrap (a2)) 1000000)) 0)) = some r := h
  clear h
  by_cases c4 : (IntKind.u64.wrap (wrap64 ((wrap64 (2 + (wrap64 (Int.tmod (IntKind.u64.wrap (a0)) 100)))) - 1))) = 0
  · rw [if_pos c4] at H
    exact absurd H (by simp)
  · rw [if_neg c4] at H
    have c4b0 : ((IntKind.u64.wrap (wrap64 ((wrap64 (2 + (wrap64 (Int.tmod (IntKind.u64.wrap (a0)) 100)))) - 1))) == 0) = false := beq_eq_false_iff_ne.mpr c4
    have c4b1 : ((IntKind.u64.wrap (wrap64 ((wrap64 (2 + (wrap64 (Int.tmod (IntKind.u64.wrap (a0)) 100)))) - 1))) != 0) = true := bne_iff_ne.mpr c4
    have H' := Aside0.mk H
    clear H
    go_enter Try.func5, Try.ntmps5
    go_wp2
    go_loopg [7] k (fun kq v7 w' => ∃ (x7_1 : Int), v7 = .int .i64 x7_1 ∧ Aside0 (geyserlaw18_CalendarAhead.l0 kq (wrap64 (2 + (wrap64 (Int.tmod (IntKind.u64.wrap (a0)) 100)))) (wrap64 (1 + (wrap64 (Int.tmod (IntKind.u64.wrap (a1)) (IntKind.u64.wrap (wrap64 ((wrap64 (2 + (wrap64 (Int.tmod (IntKind.u64.wrap (a0)) 100)))) - 1))))))) (wrap64 (Int.tmod (IntKind.u64.wrap (a2)) 1000000)) x7_1 = some r) ∧ Aside0 (kq ≤ k) ∧ Aside0 (Below w.heap.size w w'))
    case atStart => exact ⟨(0), (by first | rfl | (simp; done) | (simp [*]; done)), H', ⟨Nat.le_refl _⟩, ⟨by repeat (first | (with_reducible first | exact HB.out | apply below_alloc | apply pw_below_drewN | apply below_drew1) | exact HB.out)⟩⟩
    case round =>
      clear H'
      try clear p2
      try clear c4
      try clear c4b0
      try clear c4b1
      obtain ⟨x7_1, rfl, HA, HK1, HB⟩ := hrel
      cases gk with
      | zero => exact absurd HA.out (by simp [geyserlaw18_CalendarAhead.l0])
      | succ k1 =>
        have H := HA.out
        clear HA
        simp only [geyserlaw18_CalendarAhead.l0] at H
        by_cases c5 : x7_1 < (wrap64 (2 + (wrap64 (Int.tmod (IntKind.u64.wrap (a0)) 100))))
        · rw [if_pos c5] at H
          have c5b0 : decide (x7_1 < (wrap64 (2 + (wrap64 (Int.tmod (IntKind.u64.wrap (a0)) 100))))) = true := decide_eq_true c5
          clear c5
          replace H := Option.bind_eq_some_iff.mp H
          obtain ⟨⟨t132, t133⟩, A60, H⟩ := H
          replace H : (if t133.isNone = true then (if (t132 != (decide (x7_1 ≥ (wrap64 ((wrap64 (2 + (wrap64 (Int.tmod (IntKind.u64.wrap (a0)) 100)))) - (wrap64 (1 + (wrap64 (Int.tmod (IntKind.u64.wrap (a1)) (IntKind.u64.wrap (wrap64 ((wrap64 (2 + (wrap64 (Int.tmod (IntKind.u64.wrap (a0)) 100)))) - 1)))))))))))) = true then (some false) else (geyserlaw18_CalendarAhead.l0 k1 (wrap64 (2 + (wrap64 (Int.tmod (IntKind.u64.wrap (a0)) 100)))) (wrap64 (1 + (wrap64 (Int.tmod (IntKind.u64.wrap (a1)) (IntKind.u64.wrap (wrap64 ((wrap64 (2 + (wrap64 (Int.tmod (IntKind.u64.wrap (a0)) 100)))) - 1))))))) (wrap64 (Int.tmod (IntKind.u64.wrap (a2)) 1000000)) (wrap64 (x7_1 + 1)))) else (some false)) = some r := H
          have A6 := Aside0.mk A60
          clear A60
          rcases t133 with _ | q134
          · have H1 : (if (t132 != (decide (x7_1 ≥ (wrap64 ((wrap64 (2 + (wrap64 (Int.tmod (IntKind.u64.wrap (a0)) 100)))) - (wrap64 (1 + (wrap64 (Int.tmod (IntKind.u64.wrap (a1)) (IntKind.u64.wrap (wrap64 ((wrap64 (2 + (wrap64 (Int.tmod (IntKind.u64.wrap (a0)) 100)))) - 1)))))))))))) = true then (some false) else (geyserlaw18_CalendarAhead.l0 k1 (wrap64 (2 + (wrap64 (Int.tmod (IntKind.u64.wrap (a0)) 100)))) (wrap64 (1 + (wrap64 (Int.tmod (IntKind.u64.wrap (a1)) (IntKind.u64.wrap (wrap64 ((wrap64 (2 + (wrap64 (Int.tmod (IntKind.u64.wrap (a0)) 100)))) - 1))))))) (wrap64 (Int.tmod (IntKind.u64.wrap (a2)) 1000000)) (wrap64 (x7_1 + 1)))) = some r := by rw [if_pos (show (none : Option Er).isNone = true by rfl)] at H; exact H
            clear H
            have H := H1
            clear H1
            try simp only [errW_none, errW_some]
            by_cases c7 : (t132 != (decide (x7_1 ≥ (wrap64 ((wrap64 (2 + (wrap64 (Int.tmod (IntKind.u64.wrap (a0)) 100)))) - (wrap64 (1 + (wrap64 (Int.tmod (IntKind.u64.wrap (a1)) (IntKind.u64.wrap (wrap64 ((wrap64 (2 + (wrap64 (Int.tmod (IntKind.u64.wrap (a0)) 100)))) - 1)))))))))))) = true
            · rw [if_pos c7] at H
              have c7b0 : (t132 != (decide (x7_1 ≥ (wrap64 ((wrap64 (2 + (wrap64 (Int.tmod (IntKind.u64.wrap (a0)) 100)))) - (wrap64 (1 + (wrap64 (Int.tmod (IntKind.u64.wrap (a1)) (IntKind.u64.wrap (wrap64 ((wrap64 (2 + (wrap64 (Int.tmod (IntKind.u64.wrap (a0)) 100)))) - 1)))))))))))) = true := c7
              (try (have c7b1 : decide (t132 = (decide (x7_1 ≥ (wrap64 ((wrap64 (2 + (wrap64 (Int.tmod (IntKind.u64.wrap (a0)) 100)))) - (wrap64 (1 + (wrap64 (Int.tmod (IntKind.u64.wrap (a1)) (IntKind.u64.wrap (wrap64 ((wrap64 (2 + (wrap64 (Int.tmod (IntKind.u64.wrap (a0)) 100)))) - 1)))))))))))) = false := by simpa using c7))
              (try (have c7b2 : (t132 == (decide (x7_1 ≥ (wrap64 ((wrap64 (2 + (wrap64 (Int.tmod (IntKind.u64.wrap (a0)) 100)))) - (wrap64 (1 + (wrap64 (Int.tmod (IntKind.u64.wrap (a1)) (IntKind.u64.wrap (wrap64 ((wrap64 (2 + (wrap64 (Int.tmod (IntKind.u64.wrap (a0)) 100)))) - 1)))))))))))) = false := by simpa using c7))
              (try (have c7b3 : ¬ (t132 = (decide (x7_1 ≥ (wrap64 ((wrap64 (2 + (wrap64 (Int.tmod (IntKind.u64.wrap (a0)) 100)))) - (wrap64 (1 + (wrap64 (Int.tmod (IntKind.u64.wrap (a1)) (IntKind.u64.wrap (wrap64 ((wrap64 (2 + (wrap64 (Int.tmod (IntKind.u64.wrap (a0)) 100)))) - 1)))))))))))) := by simpa using c7))
              clear c7
              obtain rfl := Option.some.inj H
              go_wp2_with (first | ((with_reducible refine gate_callee (f := 9) rfl ?_); refine goesL_ (some 42) rfl rfl Try.func9 (by kernel_rfl) rfl #[.int .i64 (wrap64 (2 + (wrap64 (Int.tmod (IntKind.u64.wrap (a0)) 100)))), .int .i64 (wrap64 (1 + (wrap64 (Int.tmod (IntKind.u64.wrap (a1)) (IntKind.u64.wrap (wrap64 ((wrap64 (2 + (wrap64 (Int.tmod (IntKind.u64.wrap (a0)) 100)))) - 1))))))), .int .i64 (wrap64 ((wrap64 ((wrap64 (Int.tmod (IntKind.u64.wrap (a2)) 1000000)) * (wrap64 (2 + (wrap64 (Int.tmod (IntKind.u64.wrap (a0)) 100)))))) + x7_1))] rfl (by (try simp only [List.map_toArray, List.map_cons, List.map_nil]); first | done | rfl | (simp only [List.length_drop, List.length_take]; rfl)) ?_; (with_reducible refine (calendar_Burst.calls (wrap64 (2 + (wrap64 (Int.tmod (IntKind.u64.wrap (a0)) 100)))) (wrap64 (1 + (wrap64 (Int.tmod (IntKind.u64.wrap (a1)) (IntKind.u64.wrap (wrap64 ((wrap64 (2 + (wrap64 (Int.tmod (IntKind.u64.wrap (a0)) 100)))) - 1))))))) (wrap64 ((wrap64 ((wrap64 (Int.tmod (IntKind.u64.wrap (a2)) 1000000)) * (wrap64 (2 + (wrap64 (Int.tmod (IntKind.u64.wrap (a0)) 100)))))) + x7_1)) t132 none _ A6.out).mono ?_); rintro e w8 ⟨ez0, rfl, he0, hb⟩; refine ⟨_, rfl, ?_⟩; have n0_ := Aside0.mk (below_step (by repeat (first | (with_reducible first | exact HB.out | apply below_alloc | apply pw_below_drewN | apply below_drew1) | exact HB.out)) hb); clear HB; have HB := n0_; clear n0_; (try clear hb); (try clear hb2); (try clear hk); (try clear hi); obtain rfl := ErR_nil he0; clear he0))
              go_ret
              exact ⟨by first | rfl | (simp [errW_none, errW_some] <;> rfl) | (simp [*, errW_none, errW_some] <;> rfl), by repeat (first | (with_reducible first | exact HB.out | apply below_alloc | apply pw_below_drewN | apply below_drew1) | exact HB.out)⟩
            · rw [if_neg c7] at H
              have c7b0 : (t132 != (decide (x7_1 ≥ (wrap64 ((wrap64 (2 + (wrap64 (Int.tmod (IntKind.u64.wrap (a0)) 100)))) - (wrap64 (1 + (wrap64 (Int.tmod (IntKind.u64.wrap (a1)) (IntKind.u64.wrap (wrap64 ((wrap64 (2 + (wrap64 (Int.tmod (IntKind.u64.wrap (a0)) 100)))) - 1)))))))))))) = false := by simpa using c7
              (try (have c7b1 : decide (t132 = (decide (x7_1 ≥ (wrap64 ((wrap64 (2 + (wrap64 (Int.tmod (IntKind.u64.wrap (a0)) 100)))) - (wrap64 (1 + (wrap64 (Int.tmod (IntKind.u64.wrap (a1)) (IntKind.u64.wrap (wrap64 ((wrap64 (2 + (wrap64 (Int.tmod (IntKind.u64.wrap (a0)) 100)))) - 1)))))))))))) = true := by simpa using c7))
              (try (have c7b2 : (t132 == (decide (x7_1 ≥ (wrap64 ((wrap64 (2 + (wrap64 (Int.tmod (IntKind.u64.wrap (a0)) 100)))) - (wrap64 (1 + (wrap64 (Int.tmod (IntKind.u64.wrap (a1)) (IntKind.u64.wrap (wrap64 ((wrap64 (2 + (wrap64 (Int.tmod (IntKind.u64.wrap (a0)) 100)))) - 1)))))))))))) = true := by simpa using c7))
              clear c7
              have H' := Aside0.mk H
              clear H
              go_wp2_with (first | ((with_reducible refine gate_callee (f := 9) rfl ?_); refine goesL_ (some 42) rfl rfl Try.func9 (by kernel_rfl) rfl #[.int .i64 (wrap64 (2 + (wrap64 (Int.tmod (IntKind.u64.wrap (a0)) 100)))), .int .i64 (wrap64 (1 + (wrap64 (Int.tmod (IntKind.u64.wrap (a1)) (IntKind.u64.wrap (wrap64 ((wrap64 (2 + (wrap64 (Int.tmod (IntKind.u64.wrap (a0)) 100)))) - 1))))))), .int .i64 (wrap64 ((wrap64 ((wrap64 (Int.tmod (IntKind.u64.wrap (a2)) 1000000)) * (wrap64 (2 + (wrap64 (Int.tmod (IntKind.u64.wrap (a0)) 100)))))) + x7_1))] rfl (by (try simp only [List.map_toArray, List.map_cons, List.map_nil]); first | done | rfl | (simp only [List.length_drop, List.length_take]; rfl)) ?_; (with_reducible refine (calendar_Burst.calls (wrap64 (2 + (wrap64 (Int.tmod (IntKind.u64.wrap (a0)) 100)))) (wrap64 (1 + (wrap64 (Int.tmod (IntKind.u64.wrap (a1)) (IntKind.u64.wrap (wrap64 ((wrap64 (2 + (wrap64 (Int.tmod (IntKind.u64.wrap (a0)) 100)))) - 1))))))) (wrap64 ((wrap64 ((wrap64 (Int.tmod (IntKind.u64.wrap (a2)) 1000000)) * (wrap64 (2 + (wrap64 (Int.tmod (IntKind.u64.wrap (a0)) 100)))))) + x7_1)) t132 none _ A6.out).mono ?_); rintro e w9 ⟨ez0, rfl, he0, hb⟩; refine ⟨_, rfl, ?_⟩; have n0_ := Aside0.mk (below_step (by repeat (first | (with_reducible first | exact HB.out | apply below_alloc | apply pw_below_drewN | apply below_drew1) | exact HB.out)) hb); clear HB; have HB := n0_; clear n0_; (try clear hb); (try clear hb2); (try clear hk); (try clear hi); obtain rfl := ErR_nil he0; clear he0))
              go_roundg k1
              case measure => have := HK1.out; omega
              case rel => exact ⟨(wrap64 (x7_1 + 1)), (by first | rfl | (simp; done) | (simp [*]; done)), H', ⟨by have := HK1.out; omega⟩, ⟨by repeat (first | (with_reducible first | exact HB.out | apply below_alloc | apply pw_below_drewN | apply below_drew1) | exact HB.out)⟩⟩
          · have H1 : (some false) = some r := by rw [if_neg (show ¬ (some q134).isNone = true by simp)] at H; exact H
            clear H
            have H := H1
            clear H1
            try simp only [errW_none, errW_some]
            obtain rfl := Option.some.inj H
            go_wp2_with (first | ((with_reducible refine gate_callee (f := 9) rfl ?_); refine goesL_ (some 42) rfl rfl Try.func9 (by kernel_rfl) rfl #[.int .i64 (wrap64 (2 + (wrap64 (Int.tmod (IntKind.u64.wrap (a0)) 100)))), .int .i64 (wrap64 (1 + (wrap64 (Int.tmod (IntKind.u64.wrap (a1)) (IntKind.u64.wrap (wrap64 ((wrap64 (2 + (wrap64 (Int.tmod (IntKind.u64.wrap (a0)) 100)))) - 1))))))), .int .i64 (wrap64 ((wrap64 ((wrap64 (Int.tmod (IntKind.u64.wrap (a2)) 1000000)) * (wrap64 (2 + (wrap64 (Int.tmod (IntKind.u64.wrap (a0)) 100)))))) + x7_1))] rfl (by (try simp only [List.map_toArray, List.map_cons, List.map_nil]); first | done | rfl | (simp only [List.length_drop, List.length_take]; rfl)) ?_; (with_reducible refine (calendar_Burst.calls (wrap64 (2 + (wrap64 (Int.tmod (IntKind.u64.wrap (a0)) 100)))) (wrap64 (1 + (wrap64 (Int.tmod (IntKind.u64.wrap (a1)) (IntKind.u64.wrap (wrap64 ((wrap64 (2 + (wrap64 (Int.tmod (IntKind.u64.wrap (a0)) 100)))) - 1))))))) (wrap64 ((wrap64 ((wrap64 (Int.tmod (IntKind.u64.wrap (a2)) 1000000)) * (wrap64 (2 + (wrap64 (Int.tmod (IntKind.u64.wrap (a0)) 100)))))) + x7_1)) t132 (some q134) _ A6.out).mono ?_); rintro e w10 ⟨ez0, rfl, he0, hb⟩; refine ⟨_, rfl, ?_⟩; have n0_ := Aside0.mk (below_step (by repeat (first | (with_reducible first | exact HB.out | apply below_alloc | apply pw_below_drewN | apply below_drew1) | exact HB.out)) hb); clear HB; have HB := n0_; clear n0_; (try clear hb); (try clear hb2); (try clear hk); (try clear hi); obtain ⟨ad_q134, rfl⟩ := ErR_ptr he0; have HE_q134 := Aside0.mk he0; clear he0))
            go_ret
            exact ⟨by first | rfl | (simp [errW_none, errW_some] <;> rfl) | (simp [*, errW_none, errW_some] <;> rfl), by repeat (first | (with_reducible first | exact HB.out | apply below_alloc | apply pw_below_drewN | apply below_drew1) | exact HB.out)⟩
        · rw [if_neg c5] at H
          have c5b0 : decide (x7_1 < (wrap64 (2 + (wrap64 (Int.tmod (IntKind.u64.wrap (a0)) 100))))) = false := decide_eq_false c5
          clear c5
          replace H := Option.bind_eq_some_iff.mp H
          obtain ⟨⟨t135, t136⟩, A110, H⟩ := H
          replace H : (if t136.isNone = true then (if t135 ≥ 0 then ((geyserlaw18_awake.f k1).bind fun t138 => (some t138)) else (some false)) else (some false)) = some r := H
          have A11 := Aside0.mk A110
          clear A110
          rcases t136 with _ | q137
          · have H1 : (if t135 ≥ 0 then ((geyserlaw18_awake.f k1).bind fun t138 => (some t138)) else (some false)) = some r := by rw [if_pos (show (none : Option Er).isNone = true by rfl)] at H; exact H
            clear H
            have H := H1
            clear H1
            try simp only [errW_none, errW_some]
            by_cases c12 : t135 ≥ 0
            · rw [if_pos c12] at H
              have c12b0 : decide (0 ≤ t135) = true := decide_eq_true c12
              clear c12
              replace H := Option.bind_eq_some_iff.mp H
              obtain ⟨t138, A130, H⟩ := H
              replace H : (some t138) = some r := H
              have A13 := Aside0.mk A130
              clear A130
              obtain rfl := Option.some.inj H
              go_wp2_with (first | ((with_reducible refine gate_callee (f := 8) rfl ?_); refine goesL_ (some 62) rfl rfl Try.func8 (by kernel_rfl) rfl #[.int .i64 (wrap64 (2 + (wrap64 (Int.tmod (IntKind.u64.wrap (a0)) 100)))), .int .i64 8, .int .i64 (wrap64 ((wrap64 ((wrap64 (Int.tmod (IntKind.u64.wrap (a2)) 1000000)) + 1)) * (wrap64 (2 + (wrap64 (Int.tmod (IntKind.u64.wrap (a0)) 100))))))] rfl (by (try simp only [List.map_toArray, List.map_cons, List.map_nil]); first | done | rfl | (simp only [List.length_drop, List.length_take]; rfl)) ?_; (with_reducible refine (calendar_Sync.calls k1 (wrap64 (2 + (wrap64 (Int.tmod (IntKind.u64.wrap (a0)) 100)))) 8 (wrap64 ((wrap64 ((wrap64 (Int.tmod (IntKind.u64.wrap (a2)) 1000000)) + 1)) * (wrap64 (2 + (wrap64 (Int.tmod (IntKind.u64.wrap (a0)) 100)))))) t135 none _ A11.out).mono ?_); rintro e w14 ⟨ez0, rfl, he0, hb⟩; refine ⟨_, rfl, ?_⟩; have n0_ := Aside0.mk (below_step (by repeat (first | (with_reducible first | exact HB.out | apply below_alloc | apply pw_below_drewN | apply below_drew1) | exact HB.out)) hb); clear HB; have HB := n0_; clear n0_; (try clear hb); (try clear hb2); (try clear hk); (try clear hi); obtain rfl := ErR_nil he0; clear he0) | (go_at_call 7; (with_reducible refine (geyserlaw18_awake.calls k1  t138 _ A13.out).mono ?_); rintro e w15 ⟨rfl, hb⟩; have n0_ := Aside0.mk (below_step (by repeat (first | (with_reducible first | exact HB.out | apply below_alloc | apply pw_below_drewN | apply below_drew1) | exact HB.out)) hb); clear HB; have HB := n0_; clear n0_; (try clear hb); (try clear hb2); (try clear hk); (try clear hi)))
              go_ret
              exact ⟨by first | rfl | (simp [errW_none, errW_some] <;> rfl) | (simp [*, errW_none, errW_some] <;> rfl), by repeat (first | (with_reducible first | exact HB.out | apply below_alloc | apply pw_below_drewN | apply below_drew1) | exact HB.out)⟩
            · rw [if_neg c12] at H
              have c12b0 : decide (0 ≤ t135) = false := decide_eq_false c12
              clear c12
              obtain rfl := Option.some.inj H
              go_wp2_with (first | ((with_reducible refine gate_callee (f := 8) rfl ?_); refine goesL_ (some 62) rfl rfl Try.func8 (by kernel_rfl) rfl #[.int .i64 (wrap64 (2 + (wrap64 (Int.tmod (IntKind.u64.wrap (a0)) 100)))), .int .i64 8, .int .i64 (wrap64 ((wrap64 ((wrap64 (Int.tmod (IntKind.u64.wrap (a2)) 1000000)) + 1)) * (wrap64 (2 + (wrap64 (Int.tmod (IntKind.u64.wrap (a0)) 100))))))] rfl (by (try simp only [List.map_toArray, List.map_cons, List.map_nil]); first | done | rfl | (simp only [List.length_drop, List.length_take]; rfl)) ?_; (with_reducible refine (calendar_Sync.calls k1 (wrap64 (2 + (wrap64 (Int.tmod (IntKind.u64.wrap (a0)) 100)))) 8 (wrap64 ((wrap64 ((wrap64 (Int.tmod (IntKind.u64.wrap (a2)) 1000000)) + 1)) * (wrap64 (2 + (wrap64 (Int.tmod (IntKind.u64.wrap (a0)) 100)))))) t135 none _ A11.out).mono ?_); rintro e w16 ⟨ez0, rfl, he0, hb⟩; refine ⟨_, rfl, ?_⟩; have n0_ := Aside0.mk (below_step (by repeat (first | (with_reducible first | exact HB.out | apply below_alloc | apply pw_below_drewN | apply below_drew1) | exact HB.out)) hb); clear HB; have HB := n0_; clear n0_; (try clear hb); (try clear hb2); (try clear hk); (try clear hi); obtain rfl := ErR_nil he0; clear he0))
              go_ret
              exact ⟨by first | rfl | (simp [errW_none, errW_some] <;> rfl) | (simp [*, errW_none, errW_some] <;> rfl), by repeat (first | (with_reducible first | exact HB.out | apply below_alloc | apply pw_below_drewN | apply below_drew1) | exact HB.out)⟩
          · have H1 : (some false) = some r := by rw [if_neg (show ¬ (some q137).isNone = true by simp)] at H; exact H
            clear H
            have H := H1
            clear H1
            try simp only [errW_none, errW_some]
            obtain rfl := Option.some.inj H
            go_wp2_with (first | ((with_reducible refine gate_callee (f := 8) rfl ?_); refine goesL_ (some 62) rfl rfl Try.func8 (by kernel_rfl) rfl #[.int .i64 (wrap64 (2 + (wrap64 (Int.tmod (IntKind.u64.wrap (a0)) 100)))), .int .i64 8, .int .i64 (wrap64 ((wrap64 ((wrap64 (Int.tmod (IntKind.u64.wrap (a2)) 1000000)) + 1)) * (wrap64 (2 + (wrap64 (Int.tmod (IntKind.u64.wrap (a0)) 100))))))] rfl (by (try simp only [List.map_toArray, List.map_cons, List.map_nil]); first | done | rfl | (simp only [List.length_drop, List.length_take]; rfl)) ?_; (with_reducible refine (calendar_Sync.calls k1 (wrap64 (2 + (wrap64 (Int.tmod (IntKind.u64.wrap (a0)) 100)))) 8 (wrap64 ((wrap64 ((wrap64 (Int.tmod (IntKind.u64.wrap (a2)) 1000000)) + 1)) * (wrap64 (2 + (wrap64 (Int.tmod (IntKind.u64.wrap (a0)) 100)))))) t135 (some q137) _ A11.out).mono ?_); rintro e w17 ⟨ez0, rfl, he0, hb⟩; refine ⟨_, rfl, ?_⟩; have n0_ := Aside0.mk (below_step (by repeat (first | (with_reducible first | exact HB.out | apply below_alloc | apply pw_below_drewN | apply below_drew1) | exact HB.out)) hb); clear HB; have HB := n0_; clear n0_; (try clear hb); (try clear hb2); (try clear hk); (try clear hi); obtain ⟨ad_q137, rfl⟩ := ErR_ptr he0; have HE_q137 := Aside0.mk he0; clear he0))
            go_ret
            exact ⟨by first | rfl | (simp [errW_none, errW_some] <;> rfl) | (simp [*, errW_none, errW_some] <;> rfl), by repeat (first | (with_reducible first | exact HB.out | apply below_alloc | apply pw_below_drewN | apply below_drew1) | exact HB.out)⟩

/-- THE ONE PURE STATEMENT of geyserlaw18_CalendarAhead: yours. -/
def geyserlaw18_CalendarAhead.Pure : Prop := ∀ (a0 : Int) (a1 : Int) (a2 : Int), (Lit.int .i64 a0).wf = true → (Lit.int .i64 a1).wf = true → (Lit.int .i64 a2).wf = true → ∃ k, geyserlaw18_CalendarAhead.f k a0 a1 a2 = some true
theorem geyserlaw18_CalendarAhead.walk (P : geyserlaw18_CalendarAhead.Pure) (a0 : Int) (a1 : Int) (a2 : Int) (w : World) (w0 : (Lit.int .i64 a0).wf = true) (w1 : (Lit.int .i64 a1).wf = true) (w2 : (Lit.int .i64 a2).wf = true) :
    Calls Try.prog 5 #[.int .i64 a0, .int .i64 a1, .int .i64 a2] w fun e w' => e = .returned (.bool true) ∧ Below w.heap.size w w' := by
  obtain ⟨k, h⟩ := P a0 a1 a2 w0 w1 w2
  refine (geyserlaw18_CalendarAhead.calls k a0 a1 a2 true w h).mono ?_
  rintro e w' ⟨rfl, hd⟩
  exact ⟨rfl, hd⟩

end Go.Proofs.Ytnhelpbchfeadaa.QCalendarAhead
