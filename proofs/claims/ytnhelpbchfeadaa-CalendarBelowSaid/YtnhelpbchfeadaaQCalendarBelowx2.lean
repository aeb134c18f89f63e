-- Written by a program of this session out of the translation. Lean checks it.
import Derived.Test.YtnhelpbchfeadaaQCalendarBelowx0
import Derived.Test.YtnhelpbchfeadaaQCalendarBelowx1
namespace Go.Proofs.Ytnhelpbchfeadaa.QCalendarBelow
open Go.RowKit Go.Proofs.Ytnhelpbchfeadaa.Er Go.Proofs.YtnhelpbchfeadaaW.PrintWords Go.Proofs.YtnhelpbchfeadaaW.PrintLast Go.Proofs.YtnhelpbchfeadaaW.PrintMore
attribute [local go_sem] max2_int min2_int max_two min_two max_three min_three max_four min_four   -- for this text's walks alone
set_option linter.unusedVariables false
set_option linter.unusedSimpArgs false

/-! ### geyserlaw18_CalendarBelow: function 4 -/
mutual
def geyserlaw18_CalendarBelow.l0 : Nat → Int → Int → Int → Int → Int → Option (Bool)
  | 0, _, _, _, _, _ => none
  | k + 1, x0, x1, x2, x7, x8 => if x8 < x1 then (geyserlaw18_CalendarBelow.l0 k x0 x1 x2 (wrap64 (2 * x7)) (wrap64 (x8 + 1))) else (geyserlaw18_CalendarBelow.l1 k x0 x1 x2 x7 1)
def geyserlaw18_CalendarBelow.l1 : Nat → Int → Int → Int → Int → Int → Option (Bool)
  | 0, _, _, _, _, _ => none
  | k + 1, x0, x1, x2, x7, x9 => if x9 ≤ (wrap64 (x1 + 1)) then ((calendar_Sync.f k x0 x9 (wrap64 (x7 * x2))).bind fun bt130 => (if bt130.2.isNone = true then (if bt130.1 = (wrap64 (x9 - 1)) then (geyserlaw18_CalendarBelow.l1 k x0 x1 x2 x7 (wrap64 (x9 + 1))) else (some false)) else (some false))) else ((geyserlaw18_awake.f k).bind fun t133 => (some t133))
end
def geyserlaw18_CalendarBelow.f (k : Nat) (a0 : Int) (a1 : Int) (a2 : Int) : Option (Bool) := geyserlaw18_CalendarBelow.l0 k (wrap64 (2 + (wrap64 (Int.tmod (IntKind.u64.wrap (a0)) 4095)))) (wrap64 (Int.tmod (IntKind.u64.wrap (a1)) 8)) (wrap64 (1 + (wrap64 (Int.tmod (IntKind.u64.wrap (a2)) 1000000)))) (wrap64 (2 + (wrap64 (Int.tmod (IntKind.u64.wrap (a0)) 4095)))) 0
theorem geyserlaw18_CalendarBelow.mono_l : ∀ k, (∀ y0 y1 y2 y3 y4, LeO (geyserlaw18_CalendarBelow.l0 k y0 y1 y2 y3 y4) (geyserlaw18_CalendarBelow.l0 (k + 1) y0 y1 y2 y3 y4)) ∧ (∀ y0 y1 y2 y3 y4, LeO (geyserlaw18_CalendarBelow.l1 k y0 y1 y2 y3 y4) (geyserlaw18_CalendarBelow.l1 (k + 1) y0 y1 y2 y3 y4))
  | 0 => ⟨fun _ _ _ _ _ r h => by simp [geyserlaw18_CalendarBelow.l0] at h, fun _ _ _ _ _ r h => by simp [geyserlaw18_CalendarBelow.l1] at h⟩
  | k + 1 => by
    obtain ⟨ih0, ih1⟩ := geyserlaw18_CalendarBelow.mono_l k
    refine ⟨?_, ?_⟩
    · intro y0 y1 y2 y3 y4
      unfold geyserlaw18_CalendarBelow.l0
      repeat' first
      | (with_reducible exact ih0 _ _ _ _ _)
      | (with_reducible exact ih1 _ _ _ _ _)
      | (with_reducible exact calendar_Sync.mono _ _ _ _)
      | (with_reducible exact geyserlaw18_awake.mono _)
      | (with_reducible exact LeO.refl _)
      | (with_reducible exact LeO.none _)
      | (with_reducible refine LeO.ite ?_ ?_)
      | (with_reducible refine LeO.bind ?_ (fun _ => ?_))
      | exact ih0 _ _ _ _ _
      | exact ih1 _ _ _ _ _
      | exact calendar_Sync.mono _ _ _ _
      | exact geyserlaw18_awake.mono _
      | exact LeO.none _
      | refine LeO.ite ?_ ?_
      | refine LeO.bind ?_ (fun _ => ?_)
    · intro y0 y1 y2 y3 y4
      unfold geyserlaw18_CalendarBelow.l1
      repeat' first
      | (with_reducible exact ih0 _ _ _ _ _)
      | (with_reducible exact ih1 _ _ _ _ _)
      | (with_reducible exact calendar_Sync.mono _ _ _ _)
      | (with_reducible exact geyserlaw18_awake.mono _)
      | (with_reducible exact LeO.refl _)
      | (with_reducible exact LeO.none _)
      | (with_reducible refine LeO.ite ?_ ?_)
      | (with_reducible refine LeO.bind ?_ (fun _ => ?_))
      | exact ih0 _ _ _ _ _
      | exact ih1 _ _ _ _ _
      | exact calendar_Sync.mono _ _ _ _
      | exact geyserlaw18_awake.mono _
      | exact LeO.none _
      | refine LeO.ite ?_ ?_
      | refine LeO.bind ?_ (fun _ => ?_)
theorem geyserlaw18_CalendarBelow.mono : ∀ a0 a1 a2 k, LeO (geyserlaw18_CalendarBelow.f k a0 a1 a2) (geyserlaw18_CalendarBelow.f (k + 1) a0 a1 a2) := by
  intro a0 a1 a2 k
  obtain ⟨ih0, ih1⟩ := geyserlaw18_CalendarBelow.mono_l k
  unfold geyserlaw18_CalendarBelow.f
  repeat' first
      | (with_reducible exact ih0 _ _ _ _ _)
      | (with_reducible exact ih1 _ _ _ _ _)
      | (with_reducible exact calendar_Sync.mono _ _ _ _)
      | (with_reducible exact geyserlaw18_awake.mono _)
      | (with_reducible exact LeO.refl _)
      | (with_reducible exact LeO.none _)
      | (with_reducible refine LeO.ite ?_ ?_)
      | (with_reducible refine LeO.bind ?_ (fun _ => ?_))
      | exact ih0 _ _ _ _ _
      | exact ih1 _ _ _ _ _
      | exact calendar_Sync.mono _ _ _ _
      | exact geyserlaw18_awake.mono _
      | exact LeO.none _
      | refine LeO.ite ?_ ?_
      | refine LeO.bind ?_ (fun _ => ?_)
set_option maxHeartbeats 8000000 in
set_option maxRecDepth 100000 in
theorem geyserlaw18_CalendarBelow.calls (k : Nat) (a0 : Int) (a1 : Int) (a2 : Int) (r : Bool) (w : World) (h : geyserlaw18_CalendarBelow.f k a0 a1 a2 = some r) :
    Calls Try.prog 4 #[.int .i64 a0, .int .i64 a1, .int .i64 a2] w fun e w' => e = .returned (.bool r) ∧ Below w.heap.size w w' := by
  have hu24 := Try.underlying24
  have HB := Aside0.mk (Below.refl w.heap.size w)
  have H : (geyserlaw18_CalendarBelow.l0 k (wrap64 (2 + (wrap64 (Int.tmod (IntKind.u64.wrap (a0)) 4095)))) (wrap64 (Int.tmod (IntKind.u64.wrap (a1)) 8)) (wrap64 (1 + (wrap64 (Int.tmod (IntKind.u64.wrap (a2)) 1000000)))) (wrap64 (2 + (wrap64 (Int.tmod (IntKind.u64.wrap (a0)) 4095)))) 0) = some r := h
  clear h
  have H' := Aside0.mk H
  clear H
  go_enter Try.func4, Try.ntmps4
  go_wp2
  go_loopg [7, 8] k (fun kq v7 v8 w' => ∃ (x7_1 : Int) (x8_1 : Int), v7 = .int .i64 x7_1 ∧ v8 = .int .i64 x8_1 ∧ Aside0 (geyserlaw18_CalendarBelow.l0 kq (wrap64 (2 + (wrap64 (Int.tmod (IntKind.u64.wrap (a0)) 4095)))) (wrap64 (Int.tmod (IntKind.u64.wrap (a1)) 8)) (wrap64 (1 + (wrap64 (Int.tmod (IntKind.u64.wrap (a2)) 1000000)))) x7_1 x8_1 = some r) ∧ Aside0 (kq ≤ k) ∧ Aside0 (Below w.heap.size w w'))
  case atStart => exact ⟨(wrap64 (2 + (wrap64 (Int.tmod (IntKind.u64.wrap (a0)) 4095)))), (0), (by first | rfl | (simp; done) | (simp [*]; done)), (by first | rfl | (simp; done) | (simp [*]; done)), H', ⟨Nat.le_refl _⟩, ⟨by repeat (first | (with_reducible first | exact HB.out | apply below_alloc | apply pw_below_drewN | apply below_drew1) | exact HB.out)⟩⟩
  case round =>
    clear H'
    try clear p2
    obtain ⟨x7_1, x8_1, rfl, rfl, HA, HK1, HB⟩ := hrel
    cases gk with
    | zero => exact absurd HA.out (by simp [geyserlaw18_CalendarBelow.l0])
    | succ k1 =>
      have H := HA.out
      clear HA
      simp only [geyserlaw18_CalendarBelow.l0] at H
      by_cases c4 : x8_1 < (wrap64 (Int.tmod (IntKind.u64.wrap (a1)) 8))
      · rw [if_pos c4] at H
        have c4b0 : decide (x8_1 < (wrap64 (Int.tmod (IntKind.u64.wrap (a1)) 8))) = true := decide_eq_true c4
        clear c4
        have H' := Aside0.mk H
        clear H
        go_wp2
        go_roundg k1
        case measure => have := HK1.out; omega
        case rel => exact ⟨(wrap64 (2 * x7_1)), (wrap64 (x8_1 + 1)), (by first | rfl | (simp; done) | (simp [*]; done)), (by first | rfl | (simp; done) | (simp [*]; done)), H', ⟨by have := HK1.out; omega⟩, ⟨by repeat (first | (with_reducible first | exact HB.out | apply below_alloc | apply pw_below_drewN | apply below_drew1) | exact HB.out)⟩⟩
      · rw [if_neg c4] at H
        have c4b0 : decide (x8_1 < (wrap64 (Int.tmod (IntKind.u64.wrap (a1)) 8))) = false := decide_eq_false c4
        clear c4
        have H' := Aside0.mk H
        clear H
        go_wp2
        go_loopg [9] k1 (fun kq v9 w' => ∃ (x9_2 : Int), v9 = .int .i64 x9_2 ∧ Aside0 (geyserlaw18_CalendarBelow.l1 kq (wrap64 (2 + (wrap64 (Int.tmod (IntKind.u64.wrap (a0)) 4095)))) (wrap64 (Int.tmod (IntKind.u64.wrap (a1)) 8)) (wrap64 (1 + (wrap64 (Int.tmod (IntKind.u64.wrap (a2)) 1000000)))) x7_1 x9_2 = some r) ∧ Aside0 (kq ≤ k1) ∧ Aside0 (Below w.heap.size w w'))
        case atStart => exact ⟨(1), (by first | rfl | (simp; done) | (simp [*]; done)), H', ⟨Nat.le_refl _⟩, ⟨by repeat (first | (with_reducible first | exact HB.out | apply below_alloc | apply pw_below_drewN | apply below_drew1) | exact HB.out)⟩⟩
        case round =>
          clear H'
          try clear p2
          try clear c4
          try clear c4b0
          try clear p2
          obtain ⟨x9_2, rfl, HA, HK2, HB⟩ := hrel
          cases gk with
          | zero => exact absurd HA.out (by simp [geyserlaw18_CalendarBelow.l1])
          | succ k2 =>
            have H := HA.out
            clear HA
            simp only [geyserlaw18_CalendarBelow.l1] at H
            by_cases c5 : x9_2 ≤ (wrap64 ((wrap64 (Int.tmod (IntKind.u64.wrap (a1)) 8)) + 1))
            · rw [if_pos c5] at H
              have c5b0 : decide (x9_2 ≤ (wrap64 ((wrap64 (Int.tmod (IntKind.u64.wrap (a1)) 8)) + 1))) = true := decide_eq_true c5
              clear c5
              replace H := Option.bind_eq_some_iff.mp H
              obtain ⟨⟨t130, t131⟩, A60, H⟩ := H
              replace H : (if t131.isNone = true then (if t130 = (wrap64 (x9_2 - 1)) then (geyserlaw18_CalendarBelow.l1 k2 (wrap64 (2 + (wrap64 (Int.tmod (IntKind.u64.wrap (a0)) 4095)))) (wrap64 (Int.tmod (IntKind.u64.wrap (a1)) 8)) (wrap64 (1 + (wrap64 (Int.tmod (IntKind.u64.wrap (a2)) 1000000)))) x7_1 (wrap64 (x9_2 + 1))) else (some false)) else (some false)) = some r := H
              have A6 := Aside0.mk A60
              clear A60
              rcases t131 with _ | q132
              · have H1 : (if t130 = (wrap64 (x9_2 - 1)) then (geyserlaw18_CalendarBelow.l1 k2 (wrap64 (2 + (wrap64 (Int.tmod (IntKind.u64.wrap (a0)) 4095)))) (wrap64 (Int.tmod (IntKind.u64.wrap (a1)) 8)) (wrap64 (1 + (wrap64 (Int.tmod (IntKind.u64.wrap (a2)) 1000000)))) x7_1 (wrap64 (x9_2 + 1))) else (some false)) = some r := by rw [if_pos (show (none : Option Er).isNone = true by rfl)] at H; exact H
                clear H
                have H := H1
                clear H1
                try simp only [errW_none, errW_some]
                by_cases c7 : t130 = (wrap64 (x9_2 - 1))
                · rw [if_pos c7] at H
                  have c7b0 : (t130 == (wrap64 (x9_2 - 1))) = true := beq_iff_eq.mpr c7
                  have c7b1 : (t130 != (wrap64 (x9_2 - 1))) = false := bne_eq_false_iff_eq.mpr c7
                  clear c7
                  have H' := Aside0.mk H
                  clear H
                  go_wp2_with (first | ((with_reducible refine gate_callee (f := 8) rfl ?_); refine goesL_ (some 46) rfl rfl Try.func8 (by kernel_rfl) rfl #[.int .i64 (wrap64 (2 + (wrap64 (Int.tmod (IntKind.u64.wrap (a0)) 4095)))), .int .i64 x9_2, .int .i64 (wrap64 (x7_1 * (wrap64 (1 + (wrap64 (Int.tmod (IntKind.u64.wrap (a2)) 1000000))))))] rfl (by (try simp only [List.map_toArray, List.map_cons, List.map_nil]); first | done | rfl | (simp only [List.length_drop, List.length_take]; rfl)) ?_; (with_reducible refine (calendar_Sync.calls k2 (wrap64 (2 + (wrap64 (Int.tmod (IntKind.u64.wrap (a0)) 4095)))) x9_2 (wrap64 (x7_1 * (wrap64 (1 + (wrap64 (Int.tmod (IntKind.u64.wrap (a2)) 1000000)))))) t130 none _ A6.out).mono ?_); rintro e w8 ⟨ez0, rfl, he0, hb⟩; refine ⟨_, rfl, ?_⟩; have n0_ := Aside0.mk (below_step (by repeat (first | (with_reducible first | exact HB.out | apply below_alloc | apply pw_below_drewN | apply below_drew1) | exact HB.out)) hb); clear HB; have HB := n0_; clear n0_; (try clear hb); (try clear hb2); (try clear hk); (try clear hi); obtain rfl := ErR_nil he0; clear he0))
                  go_roundg k2
                  case measure => have := HK1.out; have := HK2.out; omega
                  case rel => exact ⟨(wrap64 (x9_2 + 1)), (by first | rfl | (simp; done) | (simp [*]; done)), H', ⟨by have := HK1.out; have := HK2.out; omega⟩, ⟨by repeat (first | (with_reducible first | exact HB.out | apply below_alloc | apply pw_below_drewN | apply below_drew1) | exact HB.out)⟩⟩
                · rw [if_neg c7] at H
                  have c7b0 : (t130 == (wrap64 (x9_2 - 1))) = false := beq_eq_false_iff_ne.mpr c7
                  have c7b1 : (t130 != (wrap64 (x9_2 - 1))) = true := bne_iff_ne.mpr c7
                  obtain rfl := Option.some.inj H
                  go_wp2_with (first | ((with_reducible refine gate_callee (f := 8) rfl ?_); refine goesL_ (some 46) rfl rfl Try.func8 (by kernel_rfl) rfl #[.int .i64 (wrap64 (2 + (wrap64 (Int.tmod (IntKind.u64.wrap (a0)) 4095)))), .int .i64 x9_2, .int .i64 (wrap64 (x7_1 * (wrap64 (1 + (wrap64 (Int.tmod (IntKind.u64.wrap (a2)) 1000000))))))] rfl (by (try simp only [List.map_toArray, List.map_cons, List.map_nil]); first | done | rfl | (simp only [List.length_drop, List.length_take]; rfl)) ?_; (with_reducible refine (calendar_Sync.calls k2 (wrap64 (2 + (wrap64 (Int.tmod (IntKind.u64.wrap (a0)) 4095)))) x9_2 (wrap64 (x7_1 * (wrap64 (1 + (wrap64 (Int.tmod (IntKind.u64.wrap (a2)) 1000000)))))) t130 none _ A6.out).mono ?_); rintro e w9 ⟨ez0, rfl, he0, hb⟩; refine ⟨_, rfl, ?_⟩; have n0_ := Aside0.mk (below_step (by repeat (first | (with_reducible first | exact HB.out | apply below_alloc | apply pw_below_drewN | apply below_drew1) | exact HB.out)) hb); clear HB; have HB := n0_; clear n0_; (try clear hb); (try clear hb2); (try clear hk); (try clear hi); obtain rfl := ErR_nil he0; clear he0))
                  go_ret
                  exact ⟨by first | rfl | (simp [errW_none, errW_some] <;> rfl) | (simp [*, errW_none, errW_some] <;> rfl), by repeat (first | (with_reducible first | exact HB.out | apply below_alloc | apply pw_below_drewN | apply below_drew1) | exact HB.out)⟩
              · have H1 : (some false) = some r := by rw [if_neg (show ¬ (some q132).isNone = true by simp)] at H; exact H
                clear H
                have H := H1
                clear H1
                try simp only [errW_none, errW_some]
                obtain rfl := Option.some.inj H
                go_wp2_with (first | ((with_reducible refine gate_callee (f := 8) rfl ?_); refine goesL_ (some 46) rfl rfl Try.func8 (by kernel_rfl) rfl #[.int .i64 (wrap64 (2 + (wrap64 (Int.tmod (IntKind.u64.wrap (a0)) 4095)))), .int .i64 x9_2, .int .i64 (wrap64 (x7_1 * (wrap64 (1 + (wrap64 (Int.tmod (IntKind.u64.wrap (a2)) 1000000))))))] rfl (by (try simp only [List.map_toArray, List.map_cons, List.map_nil]); first | done | rfl | (simp only [List.length_drop, List.length_take]; rfl)) ?_; (with_reducible refine (calendar_Sync.calls k2 (wrap64 (2 + (wrap64 (Int.tmod (IntKind.u64.wrap (a0)) 4095)))) x9_2 (wrap64 (x7_1 * (wrap64 (1 + (wrap64 (Int.tmod (IntKind.u64.wrap (a2)) 1000000)))))) t130 (some q132) _ A6.out).mono ?_); rintro e w10 ⟨ez0, rfl, he0, hb⟩; refine ⟨_, rfl, ?_⟩; have n0_ := Aside0.mk (below_step (by repeat (first | (with_reducible first | exact HB.out | apply below_alloc | apply pw_below_drewN | apply below_drew1) | exact HB.out)) hb); clear HB; have HB := n0_; clear n0_; (try clear hb); (try clear hb2); (try clear hk); (try clear hi); obtain ⟨ad_q132, rfl⟩ := ErR_ptr he0; have HE_q132 := Aside0.mk he0; clear he0))
                go_ret
                exact ⟨by first | rfl | (simp [errW_none, errW_some] <;> rfl) | (simp [*, errW_none, errW_some] <;> rfl), by repeat (first | (with_reducible first | exact HB.out | apply below_alloc | apply pw_below_drewN | apply below_drew1) | exact HB.out)⟩
            · rw [if_neg c5] at H
              have c5b0 : decide (x9_2 ≤ (wrap64 ((wrap64 (Int.tmod (IntKind.u64.wrap (a1)) 8)) + 1))) = false := decide_eq_false c5
              clear c5
              replace H := Option.bind_eq_some_iff.mp H
              obtain ⟨t133, A110, H⟩ := H
              replace H : (some t133) = some r := H
              have A11 := Aside0.mk A110
              clear A110
              obtain rfl := Option.some.inj H
              go_wp2_with (first | ((with_reducible refine gate_callee (f := 7) rfl ?_); refine goesL_ (some 57) rfl rfl Try.func7 (by kernel_rfl) rfl #[] rfl (by (try simp only [List.map_toArray, List.map_cons, List.map_nil]); first | done | rfl | (simp only [List.length_drop, List.length_take]; rfl)) ?_; (with_reducible refine (geyserlaw18_awake.calls k2  t133 _ A11.out).mono ?_); rintro e w12 ⟨rfl, hb⟩; refine ⟨_, rfl, ?_⟩; have n0_ := Aside0.mk (below_step (by repeat (first | (with_reducible first | exact HB.out | apply below_alloc | apply pw_below_drewN | apply below_drew1) | exact HB.out)) hb); clear HB; have HB := n0_; clear n0_; (try clear hb); (try clear hb2); (try clear hk); (try clear hi)))
              go_ret
              exact ⟨by first | rfl | (simp [errW_none, errW_some] <;> rfl) | (simp [*, errW_none, errW_some] <;> rfl), by repeat (first | (with_reducible first | exact HB.out | apply below_alloc | apply pw_below_drewN | apply below_drew1) | exact HB.out)⟩

/-- THE ONE PURE STATEMENT of geyserlaw18_CalendarBelow: yours. -/
def geyserlaw18_CalendarBelow.Pure : Prop := ∀ (a0 : Int) (a1 : Int) (a2 : Int), (Lit.int .i64 a0).wf = true → (Lit.int .i64 a1).wf = true → (Lit.int .i64 a2).wf = true → ∃ k, geyserlaw18_CalendarBelow.f k a0 a1 a2 = some true
theorem geyserlaw18_CalendarBelow.walk (P : geyserlaw18_CalendarBelow.Pure) (a0 : Int) (a1 : Int) (a2 : Int) (w : World) (w0 : (Lit.int .i64 a0).wf = true) (w1 : (Lit.int .i64 a1).wf = true) (w2 : (Lit.int .i64 a2).wf = true) :
    Calls Try.prog 4 #[.int .i64 a0, .int .i64 a1, .int .i64 a2] w fun e w' => e = .returned (.bool true) ∧ Below w.heap.size w w' := by
  obtain ⟨k, h⟩ := P a0 a1 a2 w0 w1 w2
  refine (geyserlaw18_CalendarBelow.calls k a0 a1 a2 true w h).mono ?_
  rintro e w' ⟨rfl, hd⟩
  exact ⟨rfl, hd⟩

end Go.Proofs.Ytnhelpbchfeadaa.QCalendarBelow
