-- Written by a program of this session out of the translation. Lean checks it.
import Derived.Test.YtnhelpbchfeadaaDoorQCalendarNextsx0
import Derived.Test.YtnhelpbchfeadaaDoorQCalendarNextsx1
namespace Go.Proofs.YtnhelpbchfeadaaDoor.QCalendarNexts
open Go.RowKit Go.Proofs.YtnhelpbchfeadaaDoor.Er Go.Proofs.YtnhelpbchfeadaaDoor.As Go.Proofs.YtnhelpbchfeadaaDoor.Tells Go.Proofs.YtnhelpbchfeadaaDoorW.PrintWords Go.Proofs.YtnhelpbchfeadaaDoorW.PrintLast Go.Proofs.YtnhelpbchfeadaaDoorW.PrintMore
attribute [local go_sem] max2_int min2_int max_two min_two max_three min_three max_four min_four   -- for this text's walks alone
set_option linter.unusedVariables false
set_option linter.unusedSimpArgs false

/-! ### geyserref18_Sync: function 11 -/
def geyserref18_Sync.l0 : Nat → Int → Int → Int → Int → Int → Option (Int)
  | 0, _, _, _, _, _ => none
  | k + 1, x1, x2, x7, x8, x9 => if x9 < x1 then (if x2 > 0 then (if x8 = 0 then (none) else (if (Int.tmod x2 x8) = 0 then (geyserref18_Sync.l0 k x1 x2 x9 (wrap64 (2 * x8)) (wrap64 (x9 + 1))) else (geyserref18_Sync.l0 k x1 x2 x7 (wrap64 (2 * x8)) (wrap64 (x9 + 1))))) else (geyserref18_Sync.l0 k x1 x2 x7 (wrap64 (2 * x8)) (wrap64 (x9 + 1)))) else (some x7)
def geyserref18_Sync.f (k : Nat) (a0 : Int) (a1 : Int) (a2 : Int) : Option (Int) := geyserref18_Sync.l0 k a1 a2 (-1) a0 0
theorem geyserref18_Sync.mono_l : ∀ k, (∀ y0 y1 y2 y3 y4, LeO (geyserref18_Sync.l0 k y0 y1 y2 y3 y4) (geyserref18_Sync.l0 (k + 1) y0 y1 y2 y3 y4))
  | 0 => fun _ _ _ _ _ r h => by simp [geyserref18_Sync.l0] at h
  | k + 1 => by
    have ih0 := geyserref18_Sync.mono_l k
    · intro y0 y1 y2 y3 y4
      unfold geyserref18_Sync.l0
      repeat' first
      | (with_reducible exact ih0 _ _ _ _ _)
      | (with_reducible exact LeO.refl _)
      | (with_reducible exact LeO.none _)
      | (with_reducible refine LeO.ite ?_ ?_)
      | (with_reducible refine LeO.bind ?_ (fun _ => ?_))
      | exact ih0 _ _ _ _ _
      | exact LeO.none _
      | refine LeO.ite ?_ ?_
      | refine LeO.bind ?_ (fun _ => ?_)
theorem geyserref18_Sync.mono : ∀ a0 a1 a2 k, LeO (geyserref18_Sync.f k a0 a1 a2) (geyserref18_Sync.f (k + 1) a0 a1 a2) := by
  intro a0 a1 a2 k
  have ih0 := geyserref18_Sync.mono_l k
  unfold geyserref18_Sync.f
  repeat' first
      | (with_reducible exact ih0 _ _ _ _ _)
      | (with_reducible exact LeO.refl _)
      | (with_reducible exact LeO.none _)
      | (with_reducible refine LeO.ite ?_ ?_)
      | (with_reducible refine LeO.bind ?_ (fun _ => ?_))
      | exact ih0 _ _ _ _ _
      | exact LeO.none _
      | refine LeO.ite ?_ ?_
      | refine LeO.bind ?_ (fun _ => ?_)
set_option maxHeartbeats 8000000 in
set_option maxRecDepth 100000 in
theorem geyserref18_Sync.calls (k : Nat) (a0 : Int) (a1 : Int) (a2 : Int) (r : Int) (w : World) (h : geyserref18_Sync.f k a0 a1 a2 = some r) :
    Calls Tryd.prog 11 #[.int .i64 a0, .int .i64 a1, .int .i64 a2] w fun e w' => e = .returned (.int .i64 r) ∧ Drawn0 w w' := by
  have H : (geyserref18_Sync.l0 k a1 a2 (-1) a0 0) = some r := h
  clear h
  have H' := Aside0.mk H
  clear H
  go_enter Tryd.func11, Tryd.ntmps11
  go_wp2
  go_loopg [7, 8, 9] k (fun kq v7 v8 v9 w' => ∃ (x7_1 : Int) (x8_1 : Int) (x9_1 : Int), v7 = .int .i64 x7_1 ∧ v8 = .int .i64 x8_1 ∧ v9 = .int .i64 x9_1 ∧ Aside0 (geyserref18_Sync.l0 kq a1 a2 x7_1 x8_1 x9_1 = some r) ∧ Aside0 (kq ≤ k) ∧ Drawn0 w w')
  case atStart => exact ⟨((-1)), (a0), (0), (by first | rfl | (simp; done) | (simp [*]; done)), (by first | rfl | (simp; done) | (simp [*]; done)), (by first | rfl | (simp; done) | (simp [*]; done)), H', ⟨Nat.le_refl _⟩, by repeat (first | exact Drawn0.refl _ | apply Drawn0.step)⟩
  case round =>
    clear H'
    try clear c1
    try clear p2
    obtain ⟨x7_1, x8_1, x9_1, rfl, rfl, rfl, HA, HK1, ⟨m1, rfl⟩⟩ := hrel
    cases gk with
    | zero => exact absurd HA.out (by simp [geyserref18_Sync.l0])
    | succ k1 =>
      have H := HA.out
      clear HA
      simp only [geyserref18_Sync.l0] at H
      by_cases c4 : x9_1 < a1
      · rw [if_pos c4] at H
        have c4b0 : decide (x9_1 < a1) = true := decide_eq_true c4
        clear c4
        by_cases c5 : a2 > 0
        · rw [if_pos c5] at H
          have c5b0 : decide (0 < a2) = true := decide_eq_true c5
          clear c5
          by_cases c6 : x8_1 = 0
          · rw [if_pos c6] at H
            exact absurd H (by simp)
          · rw [if_neg c6] at H
            have c6b0 : (x8_1 == 0) = false := beq_eq_false_iff_ne.mpr c6
            have c6b1 : (x8_1 != 0) = true := bne_iff_ne.mpr c6
            by_cases c7 : (Int.tmod a2 x8_1) = 0
            · rw [if_pos c7] at H
              have c7b0 : ((Int.tmod a2 x8_1) == 0) = true := beq_iff_eq.mpr c7
              have c7b1 : ((Int.tmod a2 x8_1) != 0) = false := bne_eq_false_iff_eq.mpr c7
              clear c7
              have H' := Aside0.mk H
              clear H
              go_wp2
              go_roundg k1
              case measure => have := HK1.out; omega
              case rel => exact ⟨(x9_1), (wrap64 (2 * x8_1)), (wrap64 (x9_1 + 1)), (by first | rfl | (simp; done) | (simp [*]; done)), (by first | rfl | (simp; done) | (simp [*]; done)), (by first | rfl | (simp; done) | (simp [*]; done)), H', ⟨by have := HK1.out; omega⟩, by repeat (first | exact Drawn0.refl _ | apply Drawn0.step)⟩
            · rw [if_neg c7] at H
              have c7b0 : ((Int.tmod a2 x8_1) == 0) = false := beq_eq_false_iff_ne.mpr c7
              have c7b1 : ((Int.tmod a2 x8_1) != 0) = true := bne_iff_ne.mpr c7
              have H' := Aside0.mk H
              clear H
              go_wp2
              go_roundg k1
              case measure => have := HK1.out; omega
              case rel => exact ⟨(x7_1), (wrap64 (2 * x8_1)), (wrap64 (x9_1 + 1)), (by first | rfl | (simp; done) | (simp [*]; done)), (by first | rfl | (simp; done) | (simp [*]; done)), (by first | rfl | (simp; done) | (simp [*]; done)), H', ⟨by have := HK1.out; omega⟩, by repeat (first | exact Drawn0.refl _ | apply Drawn0.step)⟩
        · rw [if_neg c5] at H
          have c5b0 : decide (0 < a2) = false := decide_eq_false c5
          clear c5
          have H' := Aside0.mk H
          clear H
          go_wp2
          go_roundg k1
          case measure => have := HK1.out; omega
          case rel => exact ⟨(x7_1), (wrap64 (2 * x8_1)), (wrap64 (x9_1 + 1)), (by first | rfl | (simp; done) | (simp [*]; done)), (by first | rfl | (simp; done) | (simp [*]; done)), (by first | rfl | (simp; done) | (simp [*]; done)), H', ⟨by have := HK1.out; omega⟩, by repeat (first | exact Drawn0.refl _ | apply Drawn0.step)⟩
      · rw [if_neg c4] at H
        have c4b0 : decide (x9_1 < a1) = false := decide_eq_false c4
        clear c4
        obtain rfl := Option.some.inj H
        go_wp2
        go_ret
        exact ⟨by first | rfl | (simp; done) | (simp [*]; done), by repeat (first | exact Drawn0.refl _ | apply Drawn0.step)⟩

/-! ### calendar_Next: function 20 -/
def calendar_Next.f (a0 : Int) (a1 : Int) (a2 : Int) : Option (Int × Option Er) := (calendar_bad.f a0 a2).bind fun t130 => (if t130 = true then ((fault_New.f (⟨#[99, 97, 108, 101, 110, 100, 97, 114, 46, 78, 101, 120, 116]⟩ : ByteArray) 1).bind fun t131 => (some (0, t131))) else (if a1 < 0 then ((fault_New.f (⟨#[99, 97, 108, 101, 110, 100, 97, 114, 46, 78, 101, 120, 116]⟩ : ByteArray) 1).bind fun t132 => (some (0, t132))) else (if a1 ≥ 8 then ((fault_New.f (⟨#[99, 97, 108, 101, 110, 100, 97, 114, 46, 78, 101, 120, 116]⟩ : ByteArray) 1).bind fun t133 => (some (0, t133))) else (if 0 ≤ a1 then (if (shl .i64 a0 a1) = 0 then (none) else (some (wrap64 ((wrap64 ((wrap64 (Int.tdiv a2 (shl .i64 a0 a1))) + 1)) * (shl .i64 a0 a1)), none))) else (none)))))
set_option maxHeartbeats 8000000 in
set_option maxRecDepth 100000 in
theorem calendar_Next.calls (a0 : Int) (a1 : Int) (a2 : Int) (r1 : Int) (r2 : Option Er) (w : World) (h : calendar_Next.f a0 a1 a2 = some (r1, r2)) :
    Calls Tryd.prog 20 #[.int .i64 a0, .int .i64 a1, .int .i64 a2] w fun e w' => ∃ e1_ : Value, e = .returned (.tuple #[.int .i64 r1, e1_]) ∧ ErR w' e1_ r2 ∧ Below w.heap.size w w' := by
  have HB := Aside0.mk (Below.refl w.heap.size w)
  have H : ((calendar_bad.f a0 a2).bind fun t130 => (if t130 = true then ((fault_New.f (⟨#[99, 97, 108, 101, 110, 100, 97, 114, 46, 78, 101, 120, 116]⟩ : ByteArray) 1).bind fun t131 => (some (0, t131))) else (if a1 < 0 then ((fault_New.f (⟨#[99, 97, 108, 101, 110, 100, 97, 114, 46, 78, 101, 120, 116]⟩ : ByteArray) 1).bind fun t132 => (some (0, t132))) else (if a1 ≥ 8 then ((fault_New.f (⟨#[99, 97, 108, 101, 110, 100, 97, 114, 46, 78, 101, 120, 116]⟩ : ByteArray) 1).bind fun t133 => (some (0, t133))) else (if 0 ≤ a1 then (if (shl .i64 a0 a1) = 0 then (none) else (some (wrap64 ((wrap64 ((wrap64 (Int.tdiv a2 (shl .i64 a0 a1))) + 1)) * (shl .i64 a0 a1)), none))) else (none)))))) = some (r1, r2) := h
  clear h
  replace H := Option.bind_eq_some_iff.mp H
  obtain ⟨t130, A40, H⟩ := H
  replace H : (if t130 = true then ((fault_New.f (⟨#[99, 97, 108, 101, 110, 100, 97, 114, 46, 78, 101, 120, 116]⟩ : ByteArray) 1).bind fun t131 => (some (0, t131))) else (if a1 < 0 then ((fault_New.f (⟨#[99, 97, 108, 101, 110, 100, 97, 114, 46, 78, 101, 120, 116]⟩ : ByteArray) 1).bind fun t132 => (some (0, t132))) else (if a1 ≥ 8 then ((fault_New.f (⟨#[99, 97, 108, 101, 110, 100, 97, 114, 46, 78, 101, 120, 116]⟩ : ByteArray) 1).bind fun t133 => (some (0, t133))) else (if 0 ≤ a1 then (if (shl .i64 a0 a1) = 0 then (none) else (some (wrap64 ((wrap64 ((wrap64 (Int.tdiv a2 (shl .i64 a0 a1))) + 1)) * (shl .i64 a0 a1)), none))) else (none))))) = some (r1, r2) := H
  have A4 := Aside0.mk A40
  clear A40
  by_cases c5 : t130 = true
  · subst c5
    have H1 : ((fault_New.f (⟨#[99, 97, 108, 101, 110, 100, 97, 114, 46, 78, 101, 120, 116]⟩ : ByteArray) 1).bind fun t131 => (some (0, t131))) = some (r1, r2) := by rw [if_pos rfl] at H; exact H
    clear H
    have H := H1
    clear H1
    replace H := Option.bind_eq_some_iff.mp H
    obtain ⟨t131, A60, H⟩ := H
    replace H : (some (0, t131)) = some (r1, r2) := H
    have A6 := Aside0.mk A60
    clear A60
    simp only [Option.some.injEq, Prod.mk.injEq] at H
    obtain ⟨rfl, rfl⟩ := H
    go_enter Tryd.func20, Tryd.ntmps20
    go_wp2_with (first | ((with_reducible refine gate_callee (f := 22) rfl ?_); refine goesL_ (some 11) rfl rfl Tryd.func22 (by kernel_rfl) rfl #[.int .i64 a0, .int .i64 a2] rfl (by (try simp only [List.map_toArray, List.map_cons, List.map_nil]); first | done | rfl | (simp only [List.length_drop, List.length_take]; rfl)) ?_; (with_reducible refine (calendar_bad.calls a0 a2 true _ A4.out).mono ?_); rintro e w' ⟨rfl, ⟨nd, rfl⟩⟩; refine ⟨_, rfl, ?_⟩) | ((with_reducible refine gate_callee (f := 23) rfl ?_); refine goesL_ (some 20) rfl rfl Tryd.func23 (by kernel_rfl) rfl #[.string (⟨#[99, 97, 108, 101, 110, 100, 97, 114, 46, 78, 101, 120, 116]⟩ : ByteArray), .int .i64 1] rfl (by (try simp only [List.map_toArray, List.map_cons, List.map_nil]); first | done | rfl | (simp only [List.length_drop, List.length_take]; rfl)) ?_; (with_reducible refine (fault_New.calls (⟨#[99, 97, 108, 101, 110, 100, 97, 114, 46, 78, 101, 120, 116]⟩ : ByteArray) 1 t131 _ A6.out).mono ?_); rintro e w7 ⟨ev_t131, rfl, he0, hb⟩; refine ⟨_, rfl, ?_⟩; have n0_ := Aside0.mk (below_step (by repeat (first | (with_reducible first | exact HB.out | apply below_alloc | apply pw_below_drewN | apply below_drew1) | exact HB.out)) hb); clear HB; have HB := n0_; clear n0_; (try clear hb); (try clear hb2); (try clear hk); (try clear hi); have HE_t131 := Aside0.mk he0; clear he0))
    go_ret2
    exact ⟨_, by first | rfl | (simp [errW_none, errW_some] <;> rfl) | (simp [*, errW_none, errW_some] <;> rfl), (by repeat (first | exact HE_t131.out | exact HE_t131.out | apply ErR_drew | apply ErR_drewN | apply ErR_alloc)), by repeat (first | (with_reducible first | exact HB.out | apply below_alloc | apply pw_below_drewN | apply below_drew1) | exact HB.out)⟩
  · replace c5 := Bool.eq_false_iff.mpr c5
    subst c5
    have H1 : (if a1 < 0 then ((fault_New.f (⟨#[99, 97, 108, 101, 110, 100, 97, 114, 46, 78, 101, 120, 116]⟩ : ByteArray) 1).bind fun t132 => (some (0, t132))) else (if a1 ≥ 8 then ((fault_New.f (⟨#[99, 97, 108, 101, 110, 100, 97, 114, 46, 78, 101, 120, 116]⟩ : ByteArray) 1).bind fun t133 => (some (0, t133))) else (if 0 ≤ a1 then (if (shl .i64 a0 a1) = 0 then (none) else (some (wrap64 ((wrap64 ((wrap64 (Int.tdiv a2 (shl .i64 a0 a1))) + 1)) * (shl .i64 a0 a1)), none))) else (none)))) = some (r1, r2) := by rw [if_neg (show ¬ (false = true) by decide)] at H; exact H
    clear H
    have H := H1
    clear H1
    by_cases c8 : a1 < 0
    · rw [if_pos c8] at H
      have c8b0 : decide (a1 < 0) = true := decide_eq_true c8
      clear c8
      replace H := Option.bind_eq_some_iff.mp H
      obtain ⟨t132, A90, H⟩ := H
      replace H : (some (0, t132)) = some (r1, r2) := H
      have A9 := Aside0.mk A90
      clear A90
      simp only [Option.some.injEq, Prod.mk.injEq] at H
      obtain ⟨rfl, rfl⟩ := H
      go_enter Tryd.func20, Tryd.ntmps20
      go_wp2_with (first | ((with_reducible refine gate_callee (f := 22) rfl ?_); refine goesL_ (some 11) rfl rfl Tryd.func22 (by kernel_rfl) rfl #[.int .i64 a0, .int .i64 a2] rfl (by (try simp only [List.map_toArray, List.map_cons, List.map_nil]); first | done | rfl | (simp only [List.length_drop, List.length_take]; rfl)) ?_; (with_reducible refine (calendar_bad.calls a0 a2 false _ A4.out).mono ?_); rintro e w' ⟨rfl, ⟨nd, rfl⟩⟩; refine ⟨_, rfl, ?_⟩) | ((with_reducible refine gate_callee (f := 23) rfl ?_); refine goesL_ (some 20) rfl rfl Tryd.func23 (by kernel_rfl) rfl #[.string (⟨#[99, 97, 108, 101, 110, 100, 97, 114, 46, 78, 101, 120, 116]⟩ : ByteArray), .int .i64 1] rfl (by (try simp only [List.map_toArray, List.map_cons, List.map_nil]); first | done | rfl | (simp only [List.length_drop, List.length_take]; rfl)) ?_; (with_reducible refine (fault_New.calls (⟨#[99, 97, 108, 101, 110, 100, 97, 114, 46, 78, 101, 120, 116]⟩ : ByteArray) 1 t132 _ A9.out).mono ?_); rintro e w10 ⟨ev_t132, rfl, he0, hb⟩; refine ⟨_, rfl, ?_⟩; have n0_ := Aside0.mk (below_step (by repeat (first | (with_reducible first | exact HB.out | apply below_alloc | apply pw_below_drewN | apply below_drew1) | exact HB.out)) hb); clear HB; have HB := n0_; clear n0_; (try clear hb); (try clear hb2); (try clear hk); (try clear hi); have HE_t132 := Aside0.mk he0; clear he0))
      go_ret2
      exact ⟨_, by first | rfl | (simp [errW_none, errW_some] <;> rfl) | (simp [*, errW_none, errW_some] <;> rfl), (by repeat (first | exact HE_t132.out | exact HE_t132.out | apply ErR_drew | apply ErR_drewN | apply ErR_alloc)), by repeat (first | (with_reducible first | exact HB.out | apply below_alloc | apply pw_below_drewN | apply below_drew1) | exact HB.out)⟩
    · rw [if_neg c8] at H
      have c8b0 : decide (a1 < 0) = false := decide_eq_false c8
      clear c8
      by_cases c11 : a1 ≥ 8
      · rw [if_pos c11] at H
        have c11b0 : decide (8 ≤ a1) = true := decide_eq_true c11
        clear c11
        replace H := Option.bind_eq_some_iff.mp H
        obtain ⟨t133, A120, H⟩ := H
        replace H : (some (0, t133)) = some (r1, r2) := H
        have A12 := Aside0.mk A120
        clear A120
        simp only [Option.some.injEq, Prod.mk.injEq] at H
        obtain ⟨rfl, rfl⟩ := H
        go_enter Tryd.func20, Tryd.ntmps20
        go_wp2_with (first | ((with_reducible refine gate_callee (f := 22) rfl ?_); refine goesL_ (some 11) rfl rfl Tryd.func22 (by kernel_rfl) rfl #[.int .i64 a0, .int .i64 a2] rfl (by (try simp only [List.map_toArray, List.map_cons, List.map_nil]); first | done | rfl | (simp only [List.length_drop, List.length_take]; rfl)) ?_; (with_reducible refine (calendar_bad.calls a0 a2 false _ A4.out).mono ?_); rintro e w' ⟨rfl, ⟨nd, rfl⟩⟩; refine ⟨_, rfl, ?_⟩) | ((with_reducible refine gate_callee (f := 23) rfl ?_); refine goesL_ (some 20) rfl rfl Tryd.func23 (by kernel_rfl) rfl #[.string (⟨#[99, 97, 108, 101, 110, 100, 97, 114, 46, 78, 101, 120, 116]⟩ : ByteArray), .int .i64 1] rfl (by (try simp only [List.map_toArray, List.map_cons, List.map_nil]); first | done | rfl | (simp only [List.length_drop, List.length_take]; rfl)) ?_; (with_reducible refine (fault_New.calls (⟨#[99, 97, 108, 101, 110, 100, 97, 114, 46, 78, 101, 120, 116]⟩ : ByteArray) 1 t133 _ A12.out).mono ?_); rintro e w13 ⟨ev_t133, rfl, he0, hb⟩; refine ⟨_, rfl, ?_⟩; have n0_ := Aside0.mk (below_step (by repeat (first | (with_reducible first | exact HB.out | apply below_alloc | apply pw_below_drewN | apply below_drew1) | exact HB.out)) hb); clear HB; have HB := n0_; clear n0_; (try clear hb); (try clear hb2); (try clear hk); (try clear hi); have HE_t133 := Aside0.mk he0; clear he0))
        go_ret2
        exact ⟨_, by first | rfl | (simp [errW_none, errW_some] <;> rfl) | (simp [*, errW_none, errW_some] <;> rfl), (by repeat (first | exact HE_t133.out | exact HE_t133.out | apply ErR_drew | apply ErR_drewN | apply ErR_alloc)), by repeat (first | (with_reducible first | exact HB.out | apply below_alloc | apply pw_below_drewN | apply below_drew1) | exact HB.out)⟩
      · rw [if_neg c11] at H
        have c11b0 : decide (8 ≤ a1) = false := decide_eq_false c11
        clear c11
        by_cases c14 : 0 ≤ a1
        · rw [if_pos c14] at H
          have c14b0 := eq_true c14
          have c14b1 : decide (0 ≤ a1) = true := decide_eq_true c14
          clear c14
          obtain ⟨ji15, hji15⟩ : ∃ j_ : Int, (shl .i64 a0 a1) = j_ := ⟨_, rfl⟩
          replace H : (if (ji15) = 0 then (none) else (some (wrap64 ((wrap64 ((wrap64 (Int.tdiv a2 (ji15))) + 1)) * (ji15)), none))) = some (r1, r2) := by first | (rw [hji15] at H; exact H) | (simp only [hji15] at H ⊢; exact H)
          (try rw [hji15] at A4)
          have hji15_ : (IntKind.i64.wrap (a0 * 2 ^ min a1.toNat 64)) = ji15 := hji15
          have hji15z : a1 ≤ 64 → (IntKind.i64.wrap (a0 * 2 ^ a1.toNat)) = ji15 := shl_small hji15
          have hji15y : (wrap64 (a0 * 2 ^ min a1.toNat 64)) = ji15 := (i64_w _).symm.trans hji15_
          have hji15x : a1 ≤ 64 → (wrap64 (a0 * 2 ^ a1.toNat)) = ji15 := fun h_ => (i64_w _).symm.trans (hji15z h_)
          by_cases c16 : (ji15) = 0
          · rw [if_pos c16] at H
            exact absurd H (by simp)
          · rw [if_neg c16] at H
            have c16b0 : ((ji15) == 0) = false := beq_eq_false_iff_ne.mpr c16
            have c16b1 : ((ji15) != 0) = true := bne_iff_ne.mpr c16
            simp only [Option.some.injEq, Prod.mk.injEq] at H
            obtain ⟨rfl, rfl⟩ := H
            go_enter Tryd.func20, Tryd.ntmps20
            go_wp2_with (first | ((with_reducible refine gate_callee (f := 22) rfl ?_); refine goesL_ (some 11) rfl rfl Tryd.func22 (by kernel_rfl) rfl #[.int .i64 a0, .int .i64 a2] rfl (by (try simp only [List.map_toArray, List.map_cons, List.map_nil]); first | done | rfl | (simp only [List.length_drop, List.length_take]; rfl)) ?_; (with_reducible refine (calendar_bad.calls a0 a2 false _ A4.out).mono ?_); rintro e w' ⟨rfl, ⟨nd, rfl⟩⟩; refine ⟨_, rfl, ?_⟩))
            go_ret2
            exact ⟨_, by first | rfl | (simp [errW_none, errW_some] <;> rfl) | (simp only [← hji15]; first | rfl | (simp [errW_none, errW_some] <;> rfl)) | (simp [*, errW_none, errW_some] <;> rfl), (by exact ErR_none _), by repeat (first | (with_reducible first | exact HB.out | apply below_alloc | apply pw_below_drewN | apply below_drew1) | exact HB.out)⟩
        · rw [if_neg c14] at H
          exact absurd H (by simp)

/-! ### geyserref18_Next: function 21 -/
def geyserref18_Next.l0 : Nat → Int → Int → Int → Int → Option (Int)
  | 0, _, _, _, _ => none
  | k + 1, x1, x2, x7, x8 => if x8 < x1 then (geyserref18_Next.l0 k x1 x2 (wrap64 (2 * x7)) (wrap64 (x8 + 1))) else (if x7 = 0 then (none) else (some (wrap64 ((wrap64 (x2 + x7)) - (Int.tmod x2 x7)))))
def geyserref18_Next.f (k : Nat) (a0 : Int) (a1 : Int) (a2 : Int) : Option (Int) := geyserref18_Next.l0 k a1 a2 a0 0
theorem geyserref18_Next.mono_l : ∀ k, (∀ y0 y1 y2 y3, LeO (geyserref18_Next.l0 k y0 y1 y2 y3) (geyserref18_Next.l0 (k + 1) y0 y1 y2 y3))
  | 0 => fun _ _ _ _ r h => by simp [geyserref18_Next.l0] at h
  | k + 1 => by
    have ih0 := geyserref18_Next.mono_l k
    · intro y0 y1 y2 y3
      unfold geyserref18_Next.l0
      repeat' first
      | (with_reducible exact ih0 _ _ _ _)
      | (with_reducible exact LeO.refl _)
      | (with_reducible exact LeO.none _)
      | (with_reducible refine LeO.ite ?_ ?_)
      | (with_reducible refine LeO.bind ?_ (fun _ => ?_))
      | exact ih0 _ _ _ _
      | exact LeO.none _
      | refine LeO.ite ?_ ?_
      | refine LeO.bind ?_ (fun _ => ?_)
theorem geyserref18_Next.mono : ∀ a0 a1 a2 k, LeO (geyserref18_Next.f k a0 a1 a2) (geyserref18_Next.f (k + 1) a0 a1 a2) := by
  intro a0 a1 a2 k
  have ih0 := geyserref18_Next.mono_l k
  unfold geyserref18_Next.f
  repeat' first
      | (with_reducible exact ih0 _ _ _ _)
      | (with_reducible exact LeO.refl _)
      | (with_reducible exact LeO.none _)
      | (with_reducible refine LeO.ite ?_ ?_)
      | (with_reducible refine LeO.bind ?_ (fun _ => ?_))
      | exact ih0 _ _ _ _
      | exact LeO.none _
      | refine LeO.ite ?_ ?_
      | refine LeO.bind ?_ (fun _ => ?_)
set_option maxHeartbeats 8000000 in
set_option maxRecDepth 100000 in
theorem geyserref18_Next.calls (k : Nat) (a0 : Int) (a1 : Int) (a2 : Int) (r : Int) (w : World) (h : geyserref18_Next.f k a0 a1 a2 = some r) :
    Calls Tryd.prog 21 #[.int .i64 a0, .int .i64 a1, .int .i64 a2] w fun e w' => e = .returned (.int .i64 r) ∧ Drawn0 w w' := by
  have H : (geyserref18_Next.l0 k a1 a2 a0 0) = some r := h
  clear h
  have H' := Aside0.mk H
  clear H
  go_enter Tryd.func21, Tryd.ntmps21
  go_wp2
  go_loopg [7, 8] k (fun kq v7 v8 w' => ∃ (x7_1 : Int) (x8_1 : Int), v7 = .int .i64 x7_1 ∧ v8 = .int .i64 x8_1 ∧ Aside0 (geyserref18_Next.l0 kq a1 a2 x7_1 x8_1 = some r) ∧ Aside0 (kq ≤ k) ∧ Drawn0 w w')
  case atStart => exact ⟨(a0), (0), (by first | rfl | (simp; done) | (simp [*]; done)), (by first | rfl | (simp; done) | (simp [*]; done)), H', ⟨Nat.le_refl _⟩, by repeat (first | exact Drawn0.refl _ | apply Drawn0.step)⟩
  case round =>
    clear H'
    try clear c2
    try clear p2
    obtain ⟨x7_1, x8_1, rfl, rfl, HA, HK1, ⟨m1, rfl⟩⟩ := hrel
    cases gk with
    | zero => exact absurd HA.out (by simp [geyserref18_Next.l0])
    | succ k1 =>
      have H := HA.out
      clear HA
      simp only [geyserref18_Next.l0] at H
      by_cases c4 : x8_1 < a1
      · rw [if_pos c4] at H
        have c4b0 : decide (x8_1 < a1) = true := decide_eq_true c4
        clear c4
        have H' := Aside0.mk H
        clear H
        go_wp2
        go_roundg k1
        case measure => have := HK1.out; omega
        case rel => exact ⟨(wrap64 (2 * x7_1)), (wrap64 (x8_1 + 1)), (by first | rfl | (simp; done) | (simp [*]; done)), (by first | rfl | (simp; done) | (simp [*]; done)), H', ⟨by have := HK1.out; omega⟩, by repeat (first | exact Drawn0.refl _ | apply Drawn0.step)⟩
      · rw [if_neg c4] at H
        have c4b0 : decide (x8_1 < a1) = false := decide_eq_false c4
        clear c4
        by_cases c5 : x7_1 = 0
        · rw [if_pos c5] at H
          exact absurd H (by simp)
        · rw [if_neg c5] at H
          have c5b0 : (x7_1 == 0) = false := beq_eq_false_iff_ne.mpr c5
          have c5b1 : (x7_1 != 0) = true := bne_iff_ne.mpr c5
          obtain rfl := Option.some.inj H
          go_wp2
          go_ret
          exact ⟨by first | rfl | (simp; done) | (simp [*]; done), by repeat (first | exact Drawn0.refl _ | apply Drawn0.step)⟩

/-! ### geyserlaw18_CalendarNexts: function 6 -/
def geyserlaw18_CalendarNexts.j0 : Nat → Int → Int → Int → Int → Option Er → Bool → Option (Bool)
  | 0, _, _, _, _, _, _ => none
  | k + 1, x0, x1, x2, x7, x8, x27 => if x27 = true then ((tells.f x8 1 (⟨#[99, 97, 108, 101, 110, 100, 97, 114, 46, 78, 101, 120, 116]⟩ : ByteArray)).bind fun t137 => (if t137 = true then (if x7 = 0 then ((geyserlaw18_awake.f k).bind fun t138 => (some t138)) else (some false)) else (some false))) else (if x8.isNone = true then ((geyserref18_Next.f k x0 x1 x2).bind fun t140 => (if x7 = t140 then (if x7 > x2 then ((geyserref18_Sync.f k x0 (wrap64 (x1 + 1)) x7).bind fun t141 => (if t141 = x1 then ((geyserlaw18_awake.f k).bind fun t142 => (some t142)) else (some false))) else (some false)) else (some false))) else (some false))
def geyserlaw18_CalendarNexts.f (k : Nat) (a0 : Int) (a1 : Int) (a2 : Int) : Option (Bool) := (calendar_Next.f a0 a1 a2).bind fun bt134 => ((geyserref18_Check.f a0 1 a2).bind fun t136 => (if t136 = 0 then (if a1 < 0 then (geyserlaw18_CalendarNexts.j0 k a0 a1 a2 bt134.1 bt134.2 true) else (geyserlaw18_CalendarNexts.j0 k a0 a1 a2 bt134.1 bt134.2 (decide (a1 > 7)))) else (geyserlaw18_CalendarNexts.j0 k a0 a1 a2 bt134.1 bt134.2 true)))
theorem geyserlaw18_CalendarNexts.mono_l : ∀ k, (∀ y0 y1 y2 y3 y4 y5, LeO (geyserlaw18_CalendarNexts.j0 k y0 y1 y2 y3 y4 y5) (geyserlaw18_CalendarNexts.j0 (k + 1) y0 y1 y2 y3 y4 y5))
  | 0 => fun _ _ _ _ _ _ r h => by simp [geyserlaw18_CalendarNexts.j0] at h
  | k + 1 => by
    have ih0 := geyserlaw18_CalendarNexts.mono_l k
    · intro y0 y1 y2 y3 y4 y5
      unfold geyserlaw18_CalendarNexts.j0
      repeat' first
      | (with_reducible exact ih0 _ _ _ _ _ _)
      | (with_reducible exact geyserlaw18_awake.mono _)
      | (with_reducible exact geyserref18_Next.mono _ _ _ _)
      | (with_reducible exact geyserref18_Sync.mono _ _ _ _)
      | (with_reducible exact LeO.refl _)
      | (with_reducible exact LeO.none _)
      | (with_reducible refine LeO.ite ?_ ?_)
      | (with_reducible refine LeO.bind ?_ (fun _ => ?_))
      | exact ih0 _ _ _ _ _ _
      | exact geyserlaw18_awake.mono _
      | exact geyserref18_Next.mono _ _ _ _
      | exact geyserref18_Sync.mono _ _ _ _
      | exact LeO.none _
      | refine LeO.ite ?_ ?_
      | refine LeO.bind ?_ (fun _ => ?_)
theorem geyserlaw18_CalendarNexts.mono : ∀ a0 a1 a2 k, LeO (geyserlaw18_CalendarNexts.f k a0 a1 a2) (geyserlaw18_CalendarNexts.f (k + 1) a0 a1 a2) := by
  intro a0 a1 a2 k
  have ih0 := geyserlaw18_CalendarNexts.mono_l k
  unfold geyserlaw18_CalendarNexts.f
  repeat' first
      | (with_reducible exact ih0 _ _ _ _ _ _)
      | (with_reducible exact geyserlaw18_awake.mono _)
      | (with_reducible exact geyserref18_Next.mono _ _ _ _)
      | (with_reducible exact geyserref18_Sync.mono _ _ _ _)
      | (with_reducible exact LeO.refl _)
      | (with_reducible exact LeO.none _)
      | (with_reducible refine LeO.ite ?_ ?_)
      | (with_reducible refine LeO.bind ?_ (fun _ => ?_))
      | exact ih0 _ _ _ _ _ _
      | exact geyserlaw18_awake.mono _
      | exact geyserref18_Next.mono _ _ _ _
      | exact geyserref18_Sync.mono _ _ _ _
      | exact LeO.none _
      | refine LeO.ite ?_ ?_
      | refine LeO.bind ?_ (fun _ => ?_)
set_option maxHeartbeats 8000000 in
set_option maxRecDepth 100000 in
theorem geyserlaw18_CalendarNexts.calls (k : Nat) (a0 : Int) (a1 : Int) (a2 : Int) (r : Bool) (w : World) (hG : Glob w) (h : geyserlaw18_CalendarNexts.f k a0 a1 a2 = some r) :
    Calls Tryd.prog 6 #[.int .i64 a0, .int .i64 a1, .int .i64 a2] w fun e w' => e = .returned (.bool r) ∧ Below w.heap.size w w' := by
  have hu23 := Tryd.underlying23
  have HG := Aside0.mk hG
  clear hG
  have HB := Aside0.mk (Below.refl w.heap.size w)
  have H : ((calendar_Next.f a0 a1 a2).bind fun bt134 => ((geyserref18_Check.f a0 1 a2).bind fun t136 => (if t136 = 0 then (if a1 < 0 then (geyserlaw18_CalendarNexts.j0 k a0 a1 a2 bt134.1 bt134.2 true) else (geyserlaw18_CalendarNexts.j0 k a0 a1 a2 bt134.1 bt134.2 (decide (a1 > 7)))) else (geyserlaw18_CalendarNexts.j0 k a0 a1 a2 bt134.1 bt134.2 true)))) = some r := h
  clear h
  replace H := Option.bind_eq_some_iff.mp H
  obtain ⟨⟨t134, t135⟩, A40, H⟩ := H
  replace H : ((geyserref18_Check.f a0 1 a2).bind fun t136 => (if t136 = 0 then (if a1 < 0 then (geyserlaw18_CalendarNexts.j0 k a0 a1 a2 t134 t135 true) else (geyserlaw18_CalendarNexts.j0 k a0 a1 a2 t134 t135 (decide (a1 > 7)))) else (geyserlaw18_CalendarNexts.j0 k a0 a1 a2 t134 t135 true))) = some r := H
  have A4 := Aside0.mk A40
  clear A40
  have HC5 := Aside0.mk H
  clear H
  go_enter Tryd.func6, Tryd.ntmps6
  go_upto_region 2 with (first | ((with_reducible refine gate_callee (f := 20) rfl ?_); refine goesL_ (some 13) rfl rfl Tryd.func20 (by kernel_rfl) rfl #[.int .i64 a0, .int .i64 a1, .int .i64 a2] rfl (by (try simp only [List.map_toArray, List.map_cons, List.map_nil]); first | done | rfl | (simp only [List.length_drop, List.length_take]; rfl)) ?_; (with_reducible refine (calendar_Next.calls a0 a1 a2 t134 t135 _ A4.out).mono ?_); rintro e w6 ⟨ev_t135, rfl, he0, hb⟩; refine ⟨_, rfl, ?_⟩; have n0_ := Aside0.mk (below_step (by repeat (first | (with_reducible first | exact HB.out | apply below_alloc | apply pw_below_drewN | apply below_drew1) | exact HB.out)) hb); clear HB; have HB := n0_; clear n0_; (try clear hb); (try clear hb2); (try clear hk); (try clear hi); have HE_t135 := Aside0.mk he0; clear he0))
  (try simp only [Act.put, List.setIfInBounds_toArray, List.set_cons_zero, List.set_cons_succ])
  go_cut [27] (fun v27 wc => ∃ (kq : Nat) (x27_4 : Bool), v27 = .bool x27_4 ∧ Aside0 (geyserlaw18_CalendarNexts.j0 kq a0 a1 a2 t134 t135 x27_4 = some r) ∧ Aside0 (kq ≤ k) ∧ Aside0 (ErR wc (ev_t135) t135) ∧ Aside0 (Below w.heap.size w wc))
  case first =>
    have H := HC5.out
    clear HC5
    replace H := Option.bind_eq_some_iff.mp H
    obtain ⟨t136, A70, H⟩ := H
    replace H : (if t136 = 0 then (if a1 < 0 then (geyserlaw18_CalendarNexts.j0 k a0 a1 a2 t134 t135 true) else (geyserlaw18_CalendarNexts.j0 k a0 a1 a2 t134 t135 (decide (a1 > 7)))) else (geyserlaw18_CalendarNexts.j0 k a0 a1 a2 t134 t135 true)) = some r := H
    have A7 := Aside0.mk A70
    clear A70
    by_cases c8 : t136 = 0
    · rw [if_pos c8] at H
      have c8b0 : (t136 == 0) = true := beq_iff_eq.mpr c8
      have c8b1 : (t136 != 0) = false := bne_eq_false_iff_eq.mpr c8
      clear c8
      (first | rw [c8b0] | (simp only [i64_w, i32_w]; rw [c8b0]) | skip)
      by_cases c9 : a1 < 0
      · rw [if_pos c9] at H
        have c9b0 : decide (a1 < 0) = true := decide_eq_true c9
        clear c9
        have H' := Aside0.mk H
        clear H
        go_wp2_with (first | ((with_reducible refine gate_callee (f := 8) rfl ?_); refine goesL_ (some 18) rfl rfl Tryd.func8 (by kernel_rfl) rfl #[.int .i64 a0, .int .i64 1, .int .i64 a2] rfl (by (try simp only [List.map_toArray, List.map_cons, List.map_nil]); first | done | rfl | (simp only [List.length_drop, List.length_take]; rfl)) ?_; (with_reducible refine (geyserref18_Check.calls a0 1 a2 t136 _ A7.out).mono ?_); rintro e w' ⟨rfl, ⟨nd, rfl⟩⟩; refine ⟨_, rfl, ?_⟩))
        go_meet
        case rel => exact ⟨_, (true), (by first | rfl | (simp; done) | (simp [*]; done)), H', ⟨by first | omega | exact Nat.le_refl _⟩, ⟨by repeat (first | exact HE_t135.out | exact HE_t135.out | apply ErR_drew | apply ErR_drewN | apply ErR_alloc)⟩, ⟨by repeat (first | (with_reducible first | exact HB.out | apply below_alloc | apply pw_below_drewN | apply below_drew1) | exact HB.out)⟩⟩
      · rw [if_neg c9] at H
        have c9b0 : decide (a1 < 0) = false := decide_eq_false c9
        clear c9
        have H' := Aside0.mk H
        clear H
        go_wp2_with (first | ((with_reducible refine gate_callee (f := 8) rfl ?_); refine goesL_ (some 18) rfl rfl Tryd.func8 (by kernel_rfl) rfl #[.int .i64 a0, .int .i64 1, .int .i64 a2] rfl (by (try simp only [List.map_toArray, List.map_cons, List.map_nil]); first | done | rfl | (simp only [List.length_drop, List.length_take]; rfl)) ?_; (with_reducible refine (geyserref18_Check.calls a0 1 a2 t136 _ A7.out).mono ?_); rintro e w' ⟨rfl, ⟨nd, rfl⟩⟩; refine ⟨_, rfl, ?_⟩))
        go_meet
        case rel => exact ⟨_, (decide (a1 > 7)), (by first | rfl | (simp; done) | (simp [*]; done)), H', ⟨by first | omega | exact Nat.le_refl _⟩, ⟨by repeat (first | exact HE_t135.out | exact HE_t135.out | apply ErR_drew | apply ErR_drewN | apply ErR_alloc)⟩, ⟨by repeat (first | (with_reducible first | exact HB.out | apply below_alloc | apply pw_below_drewN | apply below_drew1) | exact HB.out)⟩⟩
    · rw [if_neg c8] at H
      have c8b0 : (t136 == 0) = false := beq_eq_false_iff_ne.mpr c8
      have c8b1 : (t136 != 0) = true := bne_iff_ne.mpr c8
      (first | rw [c8b0] | (simp only [i64_w, i32_w]; rw [c8b0]) | skip)
      have H' := Aside0.mk H
      clear H
      go_wp2_with (first | ((with_reducible refine gate_callee (f := 8) rfl ?_); refine goesL_ (some 18) rfl rfl Tryd.func8 (by kernel_rfl) rfl #[.int .i64 a0, .int .i64 1, .int .i64 a2] rfl (by (try simp only [List.map_toArray, List.map_cons, List.map_nil]); first | done | rfl | (simp only [List.length_drop, List.length_take]; rfl)) ?_; (with_reducible refine (geyserref18_Check.calls a0 1 a2 t136 _ A7.out).mono ?_); rintro e w' ⟨rfl, ⟨nd, rfl⟩⟩; refine ⟨_, rfl, ?_⟩))
      go_meet
      case rel => exact ⟨_, (true), (by first | rfl | (simp; done) | (simp [*]; done)), H', ⟨by first | omega | exact Nat.le_refl _⟩, ⟨by repeat (first | exact HE_t135.out | exact HE_t135.out | apply ErR_drew | apply ErR_drewN | apply ErR_alloc)⟩, ⟨by repeat (first | (with_reducible first | exact HB.out | apply below_alloc | apply pw_below_drewN | apply below_drew1) | exact HB.out)⟩⟩
  case rest =>
    clear HC5
    try clear c2
    try clear p2
    try clear c6
    try clear c8
    try clear c8b0
    try clear c8b1
    try clear c9
    try clear c9b0
    obtain ⟨kq, x27_4, rfl, HA, HJ4, HE_t135, HB⟩ := hcut
    cases kq with
    | zero => exact absurd HA.out (by simp [geyserlaw18_CalendarNexts.j0])
    | succ kj4 =>
      have H := HA.out
      clear HA
      simp only [geyserlaw18_CalendarNexts.j0] at H
      by_cases c10 : x27_4 = true
      · subst c10
        have H1 : ((tells.f t135 1 (⟨#[99, 97, 108, 101, 110, 100, 97, 114, 46, 78, 101, 120, 116]⟩ : ByteArray)).bind fun t137 => (if t137 = true then (if t134 = 0 then ((geyserlaw18_awake.f kj4).bind fun t138 => (some t138)) else (some false)) else (some false))) = some r := by rw [if_pos rfl] at H; exact H
        clear H
        have H := H1
        clear H1
        replace H := Option.bind_eq_some_iff.mp H
        obtain ⟨t137, A110, H⟩ := H
        replace H : (if t137 = true then (if t134 = 0 then ((geyserlaw18_awake.f kj4).bind fun t138 => (some t138)) else (some false)) else (some false)) = some r := H
        have A11 := Aside0.mk A110
        clear A110
        by_cases c12 : t137 = true
        · subst c12
          have H1 : (if t134 = 0 then ((geyserlaw18_awake.f kj4).bind fun t138 => (some t138)) else (some false)) = some r := by rw [if_pos rfl] at H; exact H
          clear H
          have H := H1
          clear H1
          by_cases c13 : t134 = 0
          · rw [if_pos c13] at H
            have c13b0 : (t134 == 0) = true := beq_iff_eq.mpr c13
            have c13b1 : (t134 != 0) = false := bne_eq_false_iff_eq.mpr c13
            clear c13
            replace H := Option.bind_eq_some_iff.mp H
            obtain ⟨t138, A140, H⟩ := H
            replace H : (some t138) = some r := H
            have A14 := Aside0.mk A140
            clear A140
            obtain rfl := Option.some.inj H
            go_wp2_with (first | (go_at_call 9; (with_reducible refine (tells.calls _ t135 1 (⟨#[99, 97, 108, 101, 110, 100, 97, 114, 46, 78, 101, 120, 116]⟩ : ByteArray) true _ ?side1 ?side2 A11.out).mono ?_); (case side1 => repeat (first | exact HE_t135.out | exact HE_t135.out | apply ErR_drew | apply ErR_drewN | apply ErR_alloc)); (case side2 => exact Glob_below HG.out (by repeat (first | (with_reducible first | exact HB.out | apply below_alloc | apply pw_below_drewN | apply below_drew1) | exact HB.out))); rintro e w15 ⟨rfl, hb⟩; (try (have nE_ := Aside0.mk (ErR_below hb (by repeat (first | exact HE_t135.out | apply ErR_drew | apply ErR_drewN | apply ErR_alloc))); clear HE_t135; have HE_t135 := nE_; clear nE_)); have n0_ := Aside0.mk (below_step (by repeat (first | (with_reducible first | exact HB.out | apply below_alloc | apply pw_below_drewN | apply below_drew1) | exact HB.out)) hb); clear HB; have HB := n0_; clear n0_; (try clear hb); (try clear hb2); (try clear hk); (try clear hi)) | (go_at_call 10; (with_reducible refine (geyserlaw18_awake.calls kj4  t138 _ A14.out).mono ?_); rintro e w16 ⟨rfl, hb⟩; (try (have nE_ := Aside0.mk (ErR_below hb (by repeat (first | exact HE_t135.out | apply ErR_drew | apply ErR_drewN | apply ErR_alloc))); clear HE_t135; have HE_t135 := nE_; clear nE_)); have n0_ := Aside0.mk (below_step (by repeat (first | (with_reducible first | exact HB.out | apply below_alloc | apply pw_below_drewN | apply below_drew1) | exact HB.out)) hb); clear HB; have HB := n0_; clear n0_; (try clear hb); (try clear hb2); (try clear hk); (try clear hi)))
            go_ret
            exact ⟨by first | rfl | (simp [errW_none, errW_some] <;> rfl) | (simp [*, errW_none, errW_some] <;> rfl), by repeat (first | (with_reducible first | exact HB.out | apply below_alloc | apply pw_below_drewN | apply below_drew1) | exact HB.out)⟩
          · rw [if_neg c13] at H
            have c13b0 : (t134 == 0) = false := beq_eq_false_iff_ne.mpr c13
            have c13b1 : (t134 != 0) = true := bne_iff_ne.mpr c13
            obtain rfl := Option.some.inj H
            go_wp2_with (first | (go_at_call 9; (with_reducible refine (tells.calls _ t135 1 (⟨#[99, 97, 108, 101, 110, 100, 97, 114, 46, 78, 101, 120, 116]⟩ : ByteArray) true _ ?side1 ?side2 A11.out).mono ?_); (case side1 => repeat (first | exact HE_t135.out | exact HE_t135.out | apply ErR_drew | apply ErR_drewN | apply ErR_alloc)); (case side2 => exact Glob_below HG.out (by repeat (first | (with_reducible first | exact HB.out | apply below_alloc | apply pw_below_drewN | apply below_drew1) | exact HB.out))); rintro e w17 ⟨rfl, hb⟩; (try (have nE_ := Aside0.mk (ErR_below hb (by repeat (first | exact HE_t135.out | apply ErR_drew | apply ErR_drewN | apply ErR_alloc))); clear HE_t135; have HE_t135 := nE_; clear nE_)); have n0_ := Aside0.mk (below_step (by repeat (first | (with_reducible first | exact HB.out | apply below_alloc | apply pw_below_drewN | apply below_drew1) | exact HB.out)) hb); clear HB; have HB := n0_; clear n0_; (try clear hb); (try clear hb2); (try clear hk); (try clear hi)))
            go_ret
            exact ⟨by first | rfl | (simp [errW_none, errW_some] <;> rfl) | (simp [*, errW_none, errW_some] <;> rfl), by repeat (first | (with_reducible first | exact HB.out | apply below_alloc | apply pw_below_drewN | apply below_drew1) | exact HB.out)⟩
        · replace c12 := Bool.eq_false_iff.mpr c12
          subst c12
          have H1 : (some false) = some r := by rw [if_neg (show ¬ (false = true) by decide)] at H; exact H
          clear H
          have H := H1
          clear H1
          obtain rfl := Option.some.inj H
          go_wp2_with (first | (go_at_call 9; (with_reducible refine (tells.calls _ t135 1 (⟨#[99, 97, 108, 101, 110, 100, 97, 114, 46, 78, 101, 120, 116]⟩ : ByteArray) false _ ?side1 ?side2 A11.out).mono ?_); (case side1 => repeat (first | exact HE_t135.out | exact HE_t135.out | apply ErR_drew | apply ErR_drewN | apply ErR_alloc)); (case side2 => exact Glob_below HG.out (by repeat (first | (with_reducible first | exact HB.out | apply below_alloc | apply pw_below_drewN | apply below_drew1) | exact HB.out))); rintro e w18 ⟨rfl, hb⟩; (try (have nE_ := Aside0.mk (ErR_below hb (by repeat (first | exact HE_t135.out | apply ErR_drew | apply ErR_drewN | apply ErR_alloc))); clear HE_t135; have HE_t135 := nE_; clear nE_)); have n0_ := Aside0.mk (below_step (by repeat (first | (with_reducible first | exact HB.out | apply below_alloc | apply pw_below_drewN | apply below_drew1) | exact HB.out)) hb); clear HB; have HB := n0_; clear n0_; (try clear hb); (try clear hb2); (try clear hk); (try clear hi)))
          go_ret
          exact ⟨by first | rfl | (simp [errW_none, errW_some] <;> rfl) | (simp [*, errW_none, errW_some] <;> rfl), by repeat (first | (with_reducible first | exact HB.out | apply below_alloc | apply pw_below_drewN | apply below_drew1) | exact HB.out)⟩
      · replace c10 := Bool.eq_false_iff.mpr c10
        subst c10
        have H1 : (if t135.isNone = true then ((geyserref18_Next.f kj4 a0 a1 a2).bind fun t140 => (if t134 = t140 then (if t134 > a2 then ((geyserref18_Sync.f kj4 a0 (wrap64 (a1 + 1)) t134).bind fun t141 => (if t141 = a1 then ((geyserlaw18_awake.f kj4).bind fun t142 => (some t142)) else (some false))) else (some false)) else (some false))) else (some false)) = some r := by rw [if_neg (show ¬ (false = true) by decide)] at H; exact H
        clear H
        have H := H1
        clear H1
        rcases t135 with _ | q139
        · have H1 : ((geyserref18_Next.f kj4 a0 a1 a2).bind fun t140 => (if t134 = t140 then (if t134 > a2 then ((geyserref18_Sync.f kj4 a0 (wrap64 (a1 + 1)) t134).bind fun t141 => (if t141 = a1 then ((geyserlaw18_awake.f kj4).bind fun t142 => (some t142)) else (some false))) else (some false)) else (some false))) = some r := by rw [if_pos (show (none : Option Er).isNone = true by rfl)] at H; exact H
          clear H
          have H := H1
          clear H1
          try simp only [errW_none, errW_some]
          (try (obtain rfl := ErR_nil HE_t135.out; clear HE_t135))
          replace H := Option.bind_eq_some_iff.mp H
          obtain ⟨t140, A190, H⟩ := H
          replace H : (if t134 = t140 then (if t134 > a2 then ((geyserref18_Sync.f kj4 a0 (wrap64 (a1 + 1)) t134).bind fun t141 => (if t141 = a1 then ((geyserlaw18_awake.f kj4).bind fun t142 => (some t142)) else (some false))) else (some false)) else (some false)) = some r := H
          have A19 := Aside0.mk A190
          clear A190
          by_cases c20 : t134 = t140
          · rw [if_pos c20] at H
            have c20b0 : (t134 == t140) = true := beq_iff_eq.mpr c20
            have c20b1 : (t134 != t140) = false := bne_eq_false_iff_eq.mpr c20
            clear c20
            by_cases c21 : t134 > a2
            · rw [if_pos c21] at H
              have c21b0 : decide (a2 < t134) = true := decide_eq_true c21
              clear c21
              replace H := Option.bind_eq_some_iff.mp H
              obtain ⟨t141, A220, H⟩ := H
              replace H : (if t141 = a1 then ((geyserlaw18_awake.f kj4).bind fun t142 => (some t142)) else (some false)) = some r := H
              have A22 := Aside0.mk A220
              clear A220
              by_cases c23 : t141 = a1
              · rw [if_pos c23] at H
                have c23b0 : (t141 == a1) = true := beq_iff_eq.mpr c23
                have c23b1 : (t141 != a1) = false := bne_eq_false_iff_eq.mpr c23
                clear c23
                replace H := Option.bind_eq_some_iff.mp H
                obtain ⟨t142, A240, H⟩ := H
                replace H : (some t142) = some r := H
                have A24 := Aside0.mk A240
                clear A240
                obtain rfl := Option.some.inj H
                go_wp2_with (first | (go_at_call 21; (with_reducible refine (geyserref18_Next.calls kj4 a0 a1 a2 t140 _ A19.out).mono ?_); rintro e w' ⟨rfl, ⟨nd, rfl⟩⟩) | (go_at_call 11; (with_reducible refine (geyserref18_Sync.calls kj4 a0 (wrap64 (a1 + 1)) t134 t141 _ A22.out).mono ?_); rintro e w' ⟨rfl, ⟨nd, rfl⟩⟩) | (go_at_call 10; (with_reducible refine (geyserlaw18_awake.calls kj4  t142 _ A24.out).mono ?_); rintro e w25 ⟨rfl, hb⟩; (try (have nE_ := Aside0.mk (ErR_below hb (by repeat (first | exact HE_t135.out | apply ErR_drew | apply ErR_drewN | apply ErR_alloc))); clear HE_t135; have HE_t135 := nE_; clear nE_)); have n0_ := Aside0.mk (below_step (by repeat (first | (with_reducible first | exact HB.out | apply below_alloc | apply pw_below_drewN | apply below_drew1) | exact HB.out)) hb); clear HB; have HB := n0_; clear n0_; (try clear hb); (try clear hb2); (try clear hk); (try clear hi)))
                go_ret
                exact ⟨by first | rfl | (simp [errW_none, errW_some] <;> rfl) | (simp [*, errW_none, errW_some] <;> rfl), by repeat (first | (with_reducible first | exact HB.out | apply below_alloc | apply pw_below_drewN | apply below_drew1) | exact HB.out)⟩
              · rw [if_neg c23] at H
                have c23b0 : (t141 == a1) = false := beq_eq_false_iff_ne.mpr c23
                have c23b1 : (t141 != a1) = true := bne_iff_ne.mpr c23
                obtain rfl := Option.some.inj H
                go_wp2_with (first | (go_at_call 21; (with_reducible refine (geyserref18_Next.calls kj4 a0 a1 a2 t140 _ A19.out).mono ?_); rintro e w' ⟨rfl, ⟨nd, rfl⟩⟩) | (go_at_call 11; (with_reducible refine (geyserref18_Sync.calls kj4 a0 (wrap64 (a1 + 1)) t134 t141 _ A22.out).mono ?_); rintro e w' ⟨rfl, ⟨nd, rfl⟩⟩))
                go_ret
                exact ⟨by first | rfl | (simp [errW_none, errW_some] <;> rfl) | (simp [*, errW_none, errW_some] <;> rfl), by repeat (first | (with_reducible first | exact HB.out | apply below_alloc | apply pw_below_drewN | apply below_drew1) | exact HB.out)⟩
            · rw [if_neg c21] at H
              have c21b0 : decide (a2 < t134) = false := decide_eq_false c21
              clear c21
              obtain rfl := Option.some.inj H
              go_wp2_with (first | (go_at_call 21; (with_reducible refine (geyserref18_Next.calls kj4 a0 a1 a2 t140 _ A19.out).mono ?_); rintro e w' ⟨rfl, ⟨nd, rfl⟩⟩))
              go_ret
              exact ⟨by first | rfl | (simp [errW_none, errW_some] <;> rfl) | (simp [*, errW_none, errW_some] <;> rfl), by repeat (first | (with_reducible first | exact HB.out | apply below_alloc | apply pw_below_drewN | apply below_drew1) | exact HB.out)⟩
          · rw [if_neg c20] at H
            have c20b0 : (t134 == t140) = false := beq_eq_false_iff_ne.mpr c20
            have c20b1 : (t134 != t140) = true := bne_iff_ne.mpr c20
            obtain rfl := Option.some.inj H
            go_wp2_with (first | (go_at_call 21; (with_reducible refine (geyserref18_Next.calls kj4 a0 a1 a2 t140 _ A19.out).mono ?_); rintro e w' ⟨rfl, ⟨nd, rfl⟩⟩))
            go_ret
            exact ⟨by first | rfl | (simp [errW_none, errW_some] <;> rfl) | (simp [*, errW_none, errW_some] <;> rfl), by repeat (first | (with_reducible first | exact HB.out | apply below_alloc | apply pw_below_drewN | apply below_drew1) | exact HB.out)⟩
        · have H1 : (some false) = some r := by rw [if_neg (show ¬ (some q139).isNone = true by simp)] at H; exact H
          clear H
          have H := H1
          clear H1
          try simp only [errW_none, errW_some]
          (try (obtain ⟨ad_q139, rfl⟩ := ErR_ptr HE_t135.out; have HE_q139 := HE_t135; clear HE_t135))
          obtain rfl := Option.some.inj H
          go_wp2
          go_ret
          exact ⟨by first | rfl | (simp [errW_none, errW_some] <;> rfl) | (simp [*, errW_none, errW_some] <;> rfl), by repeat (first | (with_reducible first | exact HB.out | apply below_alloc | apply pw_below_drewN | apply below_drew1) | exact HB.out)⟩

/-- THE ONE PURE STATEMENT of geyserlaw18_CalendarNexts: yours. -/
def geyserlaw18_CalendarNexts.Pure : Prop := ∀ (a0 : Int) (a1 : Int) (a2 : Int), (Lit.int .i64 a0).wf = true → (Lit.int .i64 a1).wf = true → (Lit.int .i64 a2).wf = true → ∃ k, geyserlaw18_CalendarNexts.f k a0 a1 a2 = some true
theorem geyserlaw18_CalendarNexts.walk (P : geyserlaw18_CalendarNexts.Pure) (a0 : Int) (a1 : Int) (a2 : Int) (w : World) (w0 : (Lit.int .i64 a0).wf = true) (w1 : (Lit.int .i64 a1).wf = true) (w2 : (Lit.int .i64 a2).wf = true) (hG : Glob w) :
    Calls Tryd.prog 6 #[.int .i64 a0, .int .i64 a1, .int .i64 a2] w fun e w' => e = .returned (.bool true) ∧ Below w.heap.size w w' := by
  obtain ⟨k, h⟩ := P a0 a1 a2 w0 w1 w2
  refine (geyserlaw18_CalendarNexts.calls k a0 a1 a2 true w hG h).mono ?_
  rintro e w' ⟨rfl, hd⟩
  exact ⟨rfl, hd⟩

end Go.Proofs.YtnhelpbchfeadaaDoor.QCalendarNexts
