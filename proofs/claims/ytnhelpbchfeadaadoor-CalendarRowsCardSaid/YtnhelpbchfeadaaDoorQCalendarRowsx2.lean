-- Written by a program of this session out of the translation. Lean checks it.
import Derived.Test.YtnhelpbchfeadaaDoorQCalendarRowsx0
import Derived.Test.YtnhelpbchfeadaaDoorQCalendarRowsx1
namespace Go.Proofs.YtnhelpbchfeadaaDoor.QCalendarRows
open Go.RowKit Go.Proofs.YtnhelpbchfeadaaDoor.Er Go.Proofs.YtnhelpbchfeadaaDoor.As Go.Proofs.YtnhelpbchfeadaaDoor.Tells Go.Proofs.YtnhelpbchfeadaaDoorW.PrintWords Go.Proofs.YtnhelpbchfeadaaDoorW.PrintLast Go.Proofs.YtnhelpbchfeadaaDoorW.PrintMore
attribute [local go_sem] max2_int min2_int max_two min_two max_three min_three max_four min_four   -- for this text's walks alone
set_option linter.unusedVariables false
set_option linter.unusedSimpArgs false

/-! ### geyserref18_Steps: function 14 -/
def geyserref18_Steps.l0 : Nat → Int → Int → Int → Int → Int → Option (Int)
  | 0, _, _, _, _, _ => none
  | k + 1, x0, x1, x2, x7, x8 => if x0 = 0 then (none) else (if x8 < (Int.tmod x2 x0) then ((geyserref18_Burst.f x0 x1 x8).bind fun t130 => (if t130 = true then (geyserref18_Steps.l0 k x0 x1 x2 (wrap64 ((wrap64 (x7 + 1)) + 1)) (wrap64 (x8 + 1))) else (geyserref18_Steps.l0 k x0 x1 x2 (wrap64 (x7 + 1)) (wrap64 (x8 + 1))))) else (some x7))
def geyserref18_Steps.f (k : Nat) (a0 : Int) (a1 : Int) (a2 : Int) : Option (Int) := if a0 = 0 then (none) else (geyserref18_Steps.l0 k a0 a1 a2 (wrap64 ((wrap64 (Int.tdiv a2 a0)) * (wrap64 (a0 + a1)))) 0)
theorem geyserref18_Steps.mono_l : ∀ k, (∀ y0 y1 y2 y3 y4, LeO (geyserref18_Steps.l0 k y0 y1 y2 y3 y4) (geyserref18_Steps.l0 (k + 1) y0 y1 y2 y3 y4))
  | 0 => fun _ _ _ _ _ r h => by simp [geyserref18_Steps.l0] at h
  | k + 1 => by
    have ih0 := geyserref18_Steps.mono_l k
    · intro y0 y1 y2 y3 y4
      unfold geyserref18_Steps.l0
      repeat' first
      | (with_reducible exact ih0 _ _ _ _ _)
      | (with_reducible exact LeO.refl _)
      | (with_reducible exact LeO.none _)
      | (with_reducible refine LeO.ite ?_ ?_)
      | (with_reducible refine LeO.bind ?_ (fun _ => ?_))
      | exact ih0 _ _ _ _ _
      | exact LeO.none _
      | refine LeO.ite ?_ ?_
      | refine LeO.bind ?_ (fun _ => ?_)
theorem geyserref18_Steps.mono : ∀ a0 a1 a2 k, LeO (geyserref18_Steps.f k a0 a1 a2) (geyserref18_Steps.f (k + 1) a0 a1 a2) := by
  intro a0 a1 a2 k
  have ih0 := geyserref18_Steps.mono_l k
  unfold geyserref18_Steps.f
  repeat' first
      | (with_reducible exact ih0 _ _ _ _ _)
      | (with_reducible exact LeO.refl _)
      | (with_reducible exact LeO.none _)
      | (with_reducible refine LeO.ite ?_ ?_)
      | (with_reducible refine LeO.bind ?_ (fun _ => ?_))
      | exact ih0 _ _ _ _ _
      | exact LeO.none _
      | refine LeO.ite ?_ ?_
      | refine LeO.bind ?_ (fun _ => ?_)
set_option maxHeartbeats 8000000 in
set_option maxRecDepth 100000 in
theorem geyserref18_Steps.calls (k : Nat) (a0 : Int) (a1 : Int) (a2 : Int) (r : Int) (w : World) (h : geyserref18_Steps.f k a0 a1 a2 = some r) :
    Calls Tryd.prog 14 #[.int .i64 a0, .int .i64 a1, .int .i64 a2] w fun e w' => e = .returned (.int .i64 r) ∧ Drawn0 w w' := by
  have H : (if a0 = 0 then (none) else (geyserref18_Steps.l0 k a0 a1 a2 (wrap64 ((wrap64 (Int.tdiv a2 a0)) * (wrap64 (a0 + a1)))) 0)) = some r := h
  clear h
  by_cases c4 : a0 = 0
  · rw [if_pos c4] at H
    exact absurd H (by simp)
  · rw [if_neg c4] at H
    have c4b0 : (a0 == 0) = false := beq_eq_false_iff_ne.mpr c4
    have c4b1 : (a0 != 0) = true := bne_iff_ne.mpr c4
    have H' := Aside0.mk H
    clear H
    go_enter Tryd.func14, Tryd.ntmps14
    go_wp2
    go_loopg [7, 8] k (fun kq v7 v8 w' => ∃ (x7_1 : Int) (x8_1 : Int), v7 = .int .i64 x7_1 ∧ v8 = .int .i64 x8_1 ∧ Aside0 (geyserref18_Steps.l0 kq a0 a1 a2 x7_1 x8_1 = some r) ∧ Aside0 (kq ≤ k) ∧ Drawn0 w w')
    case atStart => exact ⟨(wrap64 ((wrap64 (Int.tdiv a2 a0)) * (wrap64 (a0 + a1)))), (0), (by first | rfl | (simp; done) | (simp [*]; done)), (by first | rfl | (simp; done) | (simp [*]; done)), H', ⟨Nat.le_refl _⟩, by repeat (first | exact Drawn0.refl _ | apply Drawn0.step)⟩
    case round =>
      clear H'
      try clear c1
      try clear p2
      try clear c4
      try clear c4b0
      try clear c4b1
      obtain ⟨x7_1, x8_1, rfl, rfl, HA, HK1, ⟨m1, rfl⟩⟩ := hrel
      cases gk with
      | zero => exact absurd HA.out (by simp [geyserref18_Steps.l0])
      | succ k1 =>
        have H := HA.out
        clear HA
        simp only [geyserref18_Steps.l0] at H
        by_cases c5 : a0 = 0
        · rw [if_pos c5] at H
          exact absurd H (by simp)
        · rw [if_neg c5] at H
          have c5b0 : (a0 == 0) = false := beq_eq_false_iff_ne.mpr c5
          have c5b1 : (a0 != 0) = true := bne_iff_ne.mpr c5
          by_cases c6 : x8_1 < (Int.tmod a2 a0)
          · rw [if_pos c6] at H
            have c6b0 : decide (x8_1 < (Int.tmod a2 a0)) = true := decide_eq_true c6
            clear c6
            replace H := Option.bind_eq_some_iff.mp H
            obtain ⟨t130, A70, H⟩ := H
            replace H : (if t130 = true then (geyserref18_Steps.l0 k1 a0 a1 a2 (wrap64 ((wrap64 (x7_1 + 1)) + 1)) (wrap64 (x8_1 + 1))) else (geyserref18_Steps.l0 k1 a0 a1 a2 (wrap64 (x7_1 + 1)) (wrap64 (x8_1 + 1)))) = some r := H
            have A7 := Aside0.mk A70
            clear A70
            by_cases c8 : t130 = true
            · subst c8
              have H1 : (geyserref18_Steps.l0 k1 a0 a1 a2 (wrap64 ((wrap64 (x7_1 + 1)) + 1)) (wrap64 (x8_1 + 1))) = some r := by rw [if_pos rfl] at H; exact H
              clear H
              have H := H1
              clear H1
              have H' := Aside0.mk H
              clear H
              go_wp2_with (first | ((with_reducible refine gate_callee (f := 19) rfl ?_); refine goesL_ (some 28) rfl rfl Tryd.func19 (by kernel_rfl) rfl #[.int .i64 a0, .int .i64 a1, .int .i64 x8_1] rfl (by (try simp only [List.map_toArray, List.map_cons, List.map_nil]); first | done | rfl | (simp only [List.length_drop, List.length_take]; rfl)) ?_; (with_reducible refine (geyserref18_Burst.calls a0 a1 x8_1 true _ A7.out).mono ?_); rintro e w' ⟨rfl, ⟨nd, rfl⟩⟩; refine ⟨_, rfl, ?_⟩))
              go_roundg k1
              case measure => have := HK1.out; omega
              case rel => exact ⟨(wrap64 ((wrap64 (x7_1 + 1)) + 1)), (wrap64 (x8_1 + 1)), (by first | rfl | (simp; done) | (simp [*]; done)), (by first | rfl | (simp; done) | (simp [*]; done)), H', ⟨by have := HK1.out; omega⟩, by repeat (first | exact Drawn0.refl _ | apply Drawn0.step)⟩
            · replace c8 := Bool.eq_false_iff.mpr c8
              subst c8
              have H1 : (geyserref18_Steps.l0 k1 a0 a1 a2 (wrap64 (x7_1 + 1)) (wrap64 (x8_1 + 1))) = some r := by rw [if_neg (show ¬ (false = true) by decide)] at H; exact H
              clear H
              have H := H1
              clear H1
              have H' := Aside0.mk H
              clear H
              go_wp2_with (first | ((with_reducible refine gate_callee (f := 19) rfl ?_); refine goesL_ (some 28) rfl rfl Tryd.func19 (by kernel_rfl) rfl #[.int .i64 a0, .int .i64 a1, .int .i64 x8_1] rfl (by (try simp only [List.map_toArray, List.map_cons, List.map_nil]); first | done | rfl | (simp only [List.length_drop, List.length_take]; rfl)) ?_; (with_reducible refine (geyserref18_Burst.calls a0 a1 x8_1 false _ A7.out).mono ?_); rintro e w' ⟨rfl, ⟨nd, rfl⟩⟩; refine ⟨_, rfl, ?_⟩))
              go_roundg k1
              case measure => have := HK1.out; omega
              case rel => exact ⟨(wrap64 (x7_1 + 1)), (wrap64 (x8_1 + 1)), (by first | rfl | (simp; done) | (simp [*]; done)), (by first | rfl | (simp; done) | (simp [*]; done)), H', ⟨by have := HK1.out; omega⟩, by repeat (first | exact Drawn0.refl _ | apply Drawn0.step)⟩
          · rw [if_neg c6] at H
            have c6b0 : decide (x8_1 < (Int.tmod a2 a0)) = false := decide_eq_false c6
            clear c6
            obtain rfl := Option.some.inj H
            go_wp2
            go_ret
            exact ⟨by first | rfl | (simp; done) | (simp [*]; done), by repeat (first | exact Drawn0.refl _ | apply Drawn0.step)⟩

/-! ### geyserref18_Row: function 16 -/
def geyserref18_Row.f (k : Nat) (a0 : Int) (a1 : Int) (a2 : Int) : Option (List Int) := (geyserref18_Steps.f k a0 a1 a2).bind fun t131 => ((some (([(Int.tmod t131 4294967296) % 4294967296] : List Int) : List Int)).bind fun y132 => ((geyserref18_Burst.f a0 a1 a2).bind fun t135 => (if t135 = true then (if y132.length < 35184372088832 then (some (y132 ++ [(Int.tmod (wrap64 (t131 + 1)) 4294967296) % 4294967296])) else (none)) else (some y132))))
theorem geyserref18_Row.mono : ∀ a0 a1 a2 k, LeO (geyserref18_Row.f k a0 a1 a2) (geyserref18_Row.f (k + 1) a0 a1 a2) := by
  intro a0 a1 a2 k
  unfold geyserref18_Row.f
  repeat' first
      | (with_reducible exact geyserref18_Steps.mono _ _ _ _)
      | (with_reducible exact LeO.refl _)
      | (with_reducible exact LeO.none _)
      | (with_reducible refine LeO.ite ?_ ?_)
      | (with_reducible refine LeO.bind ?_ (fun _ => ?_))
      | exact geyserref18_Steps.mono _ _ _ _
      | exact LeO.none _
      | refine LeO.ite ?_ ?_
      | refine LeO.bind ?_ (fun _ => ?_)
set_option maxHeartbeats 8000000 in
set_option maxRecDepth 100000 in
theorem geyserref18_Row.calls (k : Nat) (a0 : Int) (a1 : Int) (a2 : Int) (r : List Int) (w : World) (h : geyserref18_Row.f k a0 a1 a2 = some r) :
    Calls Tryd.prog 16 #[.int .i64 a0, .int .i64 a1, .int .i64 a2] w fun e w' => ∃ v0_ : Value, e = .returned (v0_) ∧ Kd.R (Kd.int .u32) 47 w' w.heap.size (fun _ => True) v0_ r ∧ Below w.heap.size w w' := by
  have HB := Aside0.mk (Below.refl w.heap.size w)
  have H : ((geyserref18_Steps.f k a0 a1 a2).bind fun t131 => ((some (([(Int.tmod t131 4294967296) % 4294967296] : List Int) : List Int)).bind fun y132 => ((geyserref18_Burst.f a0 a1 a2).bind fun t135 => (if t135 = true then (if y132.length < 35184372088832 then (some (y132 ++ [(Int.tmod (wrap64 (t131 + 1)) 4294967296) % 4294967296])) else (none)) else (some y132))))) = some r := h
  clear h
  replace H := Option.bind_eq_some_iff.mp H
  obtain ⟨t131, A40, H⟩ := H
  replace H : ((some (([(Int.tmod t131 4294967296) % 4294967296] : List Int) : List Int)).bind fun y132 => ((geyserref18_Burst.f a0 a1 a2).bind fun t135 => (if t135 = true then (if y132.length < 35184372088832 then (some (y132 ++ [(Int.tmod (wrap64 (t131 + 1)) 4294967296) % 4294967296])) else (none)) else (some y132)))) = some r := H
  have A4 := Aside0.mk A40
  clear A40
  obtain ⟨y132, hy132⟩ : ∃ y_ : List Int, y_ = (([(Int.tmod t131 4294967296) % 4294967296] : List Int)) := ⟨_, rfl⟩
  replace H : ((geyserref18_Burst.f a0 a1 a2).bind fun t135 => (if t135 = true then (if y132.length < 35184372088832 then (some (y132 ++ [(Int.tmod (wrap64 (t131 + 1)) 4294967296) % 4294967296])) else (none)) else (some y132))) = some r := by first | (rw [hy132]; with_reducible exact H) | (have H2_ := (Option.bind_some _ _).symm.trans H; rw [hy132]; with_reducible exact H2_) | (have H2_ := (Option.bind_some _ _).symm.trans H; with_reducible exact H2_) | with_reducible exact H | (rw [hy132]; exact H) | exact H
  have Ny132 := Aside0.mk hy132
  clear hy132
  replace H := Option.bind_eq_some_iff.mp H
  obtain ⟨t135, A50, H⟩ := H
  replace H : (if t135 = true then (if y132.length < 35184372088832 then (some (y132 ++ [(Int.tmod (wrap64 (t131 + 1)) 4294967296) % 4294967296])) else (none)) else (some y132)) = some r := H
  have A5 := Aside0.mk A50
  clear A50
  by_cases c6 : t135 = true
  · subst c6
    have H1 : (if y132.length < 35184372088832 then (some (y132 ++ [(Int.tmod (wrap64 (t131 + 1)) 4294967296) % 4294967296])) else (none)) = some r := by rw [if_pos rfl] at H; exact H
    clear H
    have H := H1
    clear H1
    by_cases c7 : y132.length < 35184372088832
    · rw [if_pos c7] at H
      have LMc7 := Aside0.mk c7
      clear c7
      obtain ⟨y136, hy136⟩ : ∃ y_ : List Int, y_ = (y132 ++ [(Int.tmod (wrap64 (t131 + 1)) 4294967296) % 4294967296]) := ⟨_, rfl⟩
      replace H : (some y136) = some r := by first | (rw [hy136]; with_reducible exact H) | (have H2_ := (Option.bind_some _ _).symm.trans H; rw [hy136]; with_reducible exact H2_) | (have H2_ := (Option.bind_some _ _).symm.trans H; with_reducible exact H2_) | with_reducible exact H | (rw [hy136]; exact H) | exact H
      have Ny136 := Aside0.mk hy136
      clear hy136
      obtain rfl := Option.some.inj H
      go_enter Tryd.func16, Tryd.ntmps16
      go_wp2_with (first | ((with_reducible refine gate_callee (f := 14) rfl ?_); refine goesL_ (some 12) rfl rfl Tryd.func14 (by kernel_rfl) rfl #[.int .i64 a0, .int .i64 a1, .int .i64 a2] rfl (by (try simp only [List.map_toArray, List.map_cons, List.map_nil]); first | done | rfl | (simp only [List.length_drop, List.length_take]; rfl)) ?_; (with_reducible refine (geyserref18_Steps.calls k a0 a1 a2 t131 _ A4.out).mono ?_); rintro e w' ⟨rfl, ⟨nd, rfl⟩⟩; refine ⟨_, rfl, ?_⟩) | ((with_reducible refine gate_dst (N := 16) rfl ?_); refine Kd.R_lit (Kd.int .u32) _ 47 ?hg (N := 16) ?hd (xs := ([(Int.tmod t131 4294967296) % 4294967296] : List Int)) (inner := [.int .u32 ((Int.tmod t131 4294967296) % 4294967296)]) (ok := fun _ => True) (okp := fun _ => True) ?hr ?hp (fun _ hk => hk) trivial (Below.refl _ _) (Nat.le_refl _) (by simp) ?_; (case hd => rfl); (case hg => rfl); (case hr => first | (go_simp; done) | (go_simp; rfl)); (case hp => exact (Reps.one (show Kd.M (Kd.int .u32) _ _ _ ((Int.tmod t131 4294967296) % 4294967296) [.int .u32 ((Int.tmod t131 4294967296) % 4294967296)] from rfl) (Reps.none _ _))); intro v133 w8 ho9 hb hg_ hnew_; clear hg_ hnew_; (first | rw [← Ny132.out] at ho9 | (simp only [Int.reduceToNat] at ho9; rw [← Ny132.out] at ho9)); have n0_ := Aside0.mk (Kd.R_lower ho9 (below_size (by repeat (first | (with_reducible first | exact HB.out | apply below_alloc | apply pw_below_drewN | apply below_drew1) | exact HB.out)))); have n1_ := Aside0.mk (below_step (by repeat (first | (with_reducible first | exact HB.out | apply below_alloc | apply pw_below_drewN | apply below_drew1) | exact HB.out)) hb); clear HB; have HO134 := n0_; have HB := n1_; clear n0_ n1_; clear hb ho9) | ((with_reducible refine gate_callee (f := 19) rfl ?_); refine goesL_ (some 20) rfl rfl Tryd.func19 (by kernel_rfl) rfl #[.int .i64 a0, .int .i64 a1, .int .i64 a2] rfl (by (try simp only [List.map_toArray, List.map_cons, List.map_nil]); first | done | rfl | (simp only [List.length_drop, List.length_take]; rfl)) ?_; (with_reducible refine (geyserref18_Burst.calls a0 a1 a2 true _ A5.out).mono ?_); rintro e w' ⟨rfl, ⟨nd, rfl⟩⟩; refine ⟨_, rfl, ?_⟩) | ((with_reducible refine gate_builtin (b := .append) (xs := #[.tmp 21, .tmp 26]) rfl ?_); at_builtin; refine Kd.R_append (Kd.int .u32) (w0 := w) w.heap.size rfl (.tmp 21) (.tmp 26) 30 47 (.int .u32 0) 4 rfl Tryd.underlying30 info47 rfl (by decide) (by omega) v133 y132 ((Int.tmod (wrap64 (t131 + 1)) 4294967296) % 4294967296) [.int .u32 ((Int.tmod (wrap64 (t131 + 1)) 4294967296) % 4294967296)] (fun _ => True) (fun _ => False) rfl rfl ?aP (fun _ hk => hk.elim) ?aF ?aO ?aB ?aS ?aL ?_; (case aP => exact rfl); (case aB => exact (by repeat (first | (with_reducible first | exact HB.out | apply below_alloc | apply pw_below_drewN | apply below_drew1) | exact HB.out))); (case aF => exact (fun _ _ => trivial)); (case aO => exact (by (with_reducible repeat (first | apply Kd.R_alloc | apply Kd.R_drewN | apply Kd.R_drew)); exact HO134.out)); (case aS => exact (below_size (by repeat (first | (with_reducible first | exact HB.out | apply below_alloc | apply pw_below_drewN | apply below_drew1) | exact HB.out)))); (case aL => have := LMc7.out; omega); intro v137 w10 ho hb hg hat; rw [← Ny136.out] at ho; have n0_ := Aside0.mk (hb); have n1_ := Aside0.mk (ho); clear HB; clear HO134; have HB := n0_; have HO138 := n1_; clear n0_ n1_; clear ho hb hg hat))
      go_ret
      exact ⟨_, by first | rfl | (simp [errW_none, errW_some] <;> rfl) | (simp [*, errW_none, errW_some] <;> rfl), by (with_reducible repeat (first | apply Kd.R_alloc | apply Kd.R_drewN | apply Kd.R_drew)); exact HO138.out, by repeat (first | (with_reducible first | exact HB.out | apply below_alloc | apply pw_below_drewN | apply below_drew1) | exact HB.out)⟩
    · rw [if_neg c7] at H
      exact absurd H (by simp)
  · replace c6 := Bool.eq_false_iff.mpr c6
    subst c6
    have H1 : (some y132) = some r := by rw [if_neg (show ¬ (false = true) by decide)] at H; exact H
    clear H
    have H := H1
    clear H1
    obtain rfl := Option.some.inj H
    go_enter Tryd.func16, Tryd.ntmps16
    go_wp2_with (first | ((with_reducible refine gate_callee (f := 14) rfl ?_); refine goesL_ (some 12) rfl rfl Tryd.func14 (by kernel_rfl) rfl #[.int .i64 a0, .int .i64 a1, .int .i64 a2] rfl (by (try simp only [List.map_toArray, List.map_cons, List.map_nil]); first | done | rfl | (simp only [List.length_drop, List.length_take]; rfl)) ?_; (with_reducible refine (geyserref18_Steps.calls k a0 a1 a2 t131 _ A4.out).mono ?_); rintro e w' ⟨rfl, ⟨nd, rfl⟩⟩; refine ⟨_, rfl, ?_⟩) | ((with_reducible refine gate_dst (N := 16) rfl ?_); refine Kd.R_lit (Kd.int .u32) _ 47 ?hg (N := 16) ?hd (xs := ([(Int.tmod t131 4294967296) % 4294967296] : List Int)) (inner := [.int .u32 ((Int.tmod t131 4294967296) % 4294967296)]) (ok := fun _ => True) (okp := fun _ => True) ?hr ?hp (fun _ hk => hk) trivial (Below.refl _ _) (Nat.le_refl _) (by simp) ?_; (case hd => rfl); (case hg => rfl); (case hr => first | (go_simp; done) | (go_simp; rfl)); (case hp => exact (Reps.one (show Kd.M (Kd.int .u32) _ _ _ ((Int.tmod t131 4294967296) % 4294967296) [.int .u32 ((Int.tmod t131 4294967296) % 4294967296)] from rfl) (Reps.none _ _))); intro v133 w11 ho12 hb hg_ hnew_; clear hg_ hnew_; (first | rw [← Ny132.out] at ho12 | (simp only [Int.reduceToNat] at ho12; rw [← Ny132.out] at ho12)); have n0_ := Aside0.mk (Kd.R_lower ho12 (below_size (by repeat (first | (with_reducible first | exact HB.out | apply below_alloc | apply pw_below_drewN | apply below_drew1) | exact HB.out)))); have n1_ := Aside0.mk (below_step (by repeat (first | (with_reducible first | exact HB.out | apply below_alloc | apply pw_below_drewN | apply below_drew1) | exact HB.out)) hb); clear HB; have HO134 := n0_; have HB := n1_; clear n0_ n1_; clear hb ho12) | ((with_reducible refine gate_callee (f := 19) rfl ?_); refine goesL_ (some 20) rfl rfl Tryd.func19 (by kernel_rfl) rfl #[.int .i64 a0, .int .i64 a1, .int .i64 a2] rfl (by (try simp only [List.map_toArray, List.map_cons, List.map_nil]); first | done | rfl | (simp only [List.length_drop, List.length_take]; rfl)) ?_; (with_reducible refine (geyserref18_Burst.calls a0 a1 a2 false _ A5.out).mono ?_); rintro e w' ⟨rfl, ⟨nd, rfl⟩⟩; refine ⟨_, rfl, ?_⟩))
    go_ret
    exact ⟨_, by first | rfl | (simp [errW_none, errW_some] <;> rfl) | (simp [*, errW_none, errW_some] <;> rfl), by (with_reducible repeat (first | apply Kd.R_alloc | apply Kd.R_drewN | apply Kd.R_drew)); exact HO134.out, by repeat (first | (with_reducible first | exact HB.out | apply below_alloc | apply pw_below_drewN | apply below_drew1) | exact HB.out)⟩

/-! ### geyserlaw18_CalendarRows: function 4 -/
def geyserlaw18_CalendarRows.j0 : Nat → Int → Int → Int → Int → List Int → Int → Bool → Option (Bool)
  | 0, _, _, _, _, _, _, _ => none
  | k + 1, x0, x1, x2, x7, x9, x11, x39 => if x39 = true then (some false) else (if x11 = 0 then ((geyserref18_Steps.f k x0 x1 x2).bind fun t149 => (if x7 = t149 then ((geyserref18_Row.f k x0 x1 x2).bind fun t150 => ((geyserref18_Same.f k x9 t150).bind fun t153 => (if t153 = true then ((geyserlaw18_awake.f k).bind fun t154 => (some t154)) else (some false)))) else (some false))) else (if x7 = 0 then (if (x9.length : Int) = 0 then ((geyserlaw18_awake.f k).bind fun t148 => (some t148)) else (some false)) else (some false)))
def geyserlaw18_CalendarRows.f (k : Nat) (a0 : Int) (a1 : Int) (a2 : Int) : Option (Bool) := (calendar_Steps.f a0 a1 a2).bind fun bt139 => ((calendar_Row.f a0 a1 a2).bind fun bt141 => ((geyserref18_Check.f a0 a1 a2).bind fun t145 => ((tells.f bt139.2 t145 (⟨#[99, 97, 108, 101, 110, 100, 97, 114, 46, 83, 116, 101, 112, 115]⟩ : ByteArray)).bind fun t146 => (if t146 = true then ((tells.f bt141.2 t145 (⟨#[99, 97, 108, 101, 110, 100, 97, 114, 46, 82, 111, 119]⟩ : ByteArray)).bind fun t147 => (geyserlaw18_CalendarRows.j0 k a0 a1 a2 bt139.1 bt141.1 t145 (!t147))) else (geyserlaw18_CalendarRows.j0 k a0 a1 a2 bt139.1 bt141.1 t145 true)))))
theorem geyserlaw18_CalendarRows.mono_l : ∀ k, (∀ y0 y1 y2 y3 y4 y5 y6, LeO (geyserlaw18_CalendarRows.j0 k y0 y1 y2 y3 y4 y5 y6) (geyserlaw18_CalendarRows.j0 (k + 1) y0 y1 y2 y3 y4 y5 y6))
  | 0 => fun _ _ _ _ _ _ _ r h => by simp [geyserlaw18_CalendarRows.j0] at h
  | k + 1 => by
    have ih0 := geyserlaw18_CalendarRows.mono_l k
    · intro y0 y1 y2 y3 y4 y5 y6
      unfold geyserlaw18_CalendarRows.j0
      repeat' first
      | (with_reducible exact ih0 _ _ _ _ _ _ _)
      | (with_reducible exact geyserlaw18_awake.mono _)
      | (with_reducible exact geyserref18_Row.mono _ _ _ _)
      | (with_reducible exact geyserref18_Same.mono _ _ _)
      | (with_reducible exact geyserref18_Steps.mono _ _ _ _)
      | (with_reducible exact LeO.refl _)
      | (with_reducible exact LeO.none _)
      | (with_reducible refine LeO.ite ?_ ?_)
      | (with_reducible refine LeO.bind ?_ (fun _ => ?_))
      | exact ih0 _ _ _ _ _ _ _
      | exact geyserlaw18_awake.mono _
      | exact geyserref18_Row.mono _ _ _ _
      | exact geyserref18_Same.mono _ _ _
      | exact geyserref18_Steps.mono _ _ _ _
      | exact LeO.none _
      | refine LeO.ite ?_ ?_
      | refine LeO.bind ?_ (fun _ => ?_)
theorem geyserlaw18_CalendarRows.mono : ∀ a0 a1 a2 k, LeO (geyserlaw18_CalendarRows.f k a0 a1 a2) (geyserlaw18_CalendarRows.f (k + 1) a0 a1 a2) := by
  intro a0 a1 a2 k
  have ih0 := geyserlaw18_CalendarRows.mono_l k
  unfold geyserlaw18_CalendarRows.f
  repeat' first
      | (with_reducible exact ih0 _ _ _ _ _ _ _)
      | (with_reducible exact geyserlaw18_awake.mono _)
      | (with_reducible exact geyserref18_Row.mono _ _ _ _)
      | (with_reducible exact geyserref18_Same.mono _ _ _)
      | (with_reducible exact geyserref18_Steps.mono _ _ _ _)
      | (with_reducible exact LeO.refl _)
      | (with_reducible exact LeO.none _)
      | (with_reducible refine LeO.ite ?_ ?_)
      | (with_reducible refine LeO.bind ?_ (fun _ => ?_))
      | exact ih0 _ _ _ _ _ _ _
      | exact geyserlaw18_awake.mono _
      | exact geyserref18_Row.mono _ _ _ _
      | exact geyserref18_Same.mono _ _ _
      | exact geyserref18_Steps.mono _ _ _ _
      | exact LeO.none _
      | refine LeO.ite ?_ ?_
      | refine LeO.bind ?_ (fun _ => ?_)
set_option maxHeartbeats 8000000 in
set_option maxRecDepth 100000 in
theorem geyserlaw18_CalendarRows.calls (k : Nat) (a0 : Int) (a1 : Int) (a2 : Int) (r : Bool) (w : World) (hG : Glob w) (h : geyserlaw18_CalendarRows.f k a0 a1 a2 = some r) :
    Calls Tryd.prog 4 #[.int .i64 a0, .int .i64 a1, .int .i64 a2] w fun e w' => e = .returned (.bool r) ∧ Below w.heap.size w w' := by
  have HG := Aside0.mk hG
  clear hG
  have HB := Aside0.mk (Below.refl w.heap.size w)
  have H : ((calendar_Steps.f a0 a1 a2).bind fun bt139 => ((calendar_Row.f a0 a1 a2).bind fun bt141 => ((geyserref18_Check.f a0 a1 a2).bind fun t145 => ((tells.f bt139.2 t145 (⟨#[99, 97, 108, 101, 110, 100, 97, 114, 46, 83, 116, 101, 112, 115]⟩ : ByteArray)).bind fun t146 => (if t146 = true then ((tells.f bt141.2 t145 (⟨#[99, 97, 108, 101, 110, 100, 97, 114, 46, 82, 111, 119]⟩ : ByteArray)).bind fun t147 => (geyserlaw18_CalendarRows.j0 k a0 a1 a2 bt139.1 bt141.1 t145 (!t147))) else (geyserlaw18_CalendarRows.j0 k a0 a1 a2 bt139.1 bt141.1 t145 true)))))) = some r := h
  clear h
  replace H := Option.bind_eq_some_iff.mp H
  obtain ⟨⟨t139, t140⟩, A40, H⟩ := H
  replace H : ((calendar_Row.f a0 a1 a2).bind fun bt141 => ((geyserref18_Check.f a0 a1 a2).bind fun t145 => ((tells.f t140 t145 (⟨#[99, 97, 108, 101, 110, 100, 97, 114, 46, 83, 116, 101, 112, 115]⟩ : ByteArray)).bind fun t146 => (if t146 = true then ((tells.f bt141.2 t145 (⟨#[99, 97, 108, 101, 110, 100, 97, 114, 46, 82, 111, 119]⟩ : ByteArray)).bind fun t147 => (geyserlaw18_CalendarRows.j0 k a0 a1 a2 t139 bt141.1 t145 (!t147))) else (geyserlaw18_CalendarRows.j0 k a0 a1 a2 t139 bt141.1 t145 true))))) = some r := H
  have A4 := Aside0.mk A40
  clear A40
  replace H := Option.bind_eq_some_iff.mp H
  obtain ⟨⟨t141, t142⟩, A50, H⟩ := H
  replace H : ((geyserref18_Check.f a0 a1 a2).bind fun t145 => ((tells.f t140 t145 (⟨#[99, 97, 108, 101, 110, 100, 97, 114, 46, 83, 116, 101, 112, 115]⟩ : ByteArray)).bind fun t146 => (if t146 = true then ((tells.f t142 t145 (⟨#[99, 97, 108, 101, 110, 100, 97, 114, 46, 82, 111, 119]⟩ : ByteArray)).bind fun t147 => (geyserlaw18_CalendarRows.j0 k a0 a1 a2 t139 t141 t145 (!t147))) else (geyserlaw18_CalendarRows.j0 k a0 a1 a2 t139 t141 t145 true)))) = some r := H
  have A5 := Aside0.mk A50
  clear A50
  replace H := Option.bind_eq_some_iff.mp H
  obtain ⟨t145, A60, H⟩ := H
  replace H : ((tells.f t140 t145 (⟨#[99, 97, 108, 101, 110, 100, 97, 114, 46, 83, 116, 101, 112, 115]⟩ : ByteArray)).bind fun t146 => (if t146 = true then ((tells.f t142 t145 (⟨#[99, 97, 108, 101, 110, 100, 97, 114, 46, 82, 111, 119]⟩ : ByteArray)).bind fun t147 => (geyserlaw18_CalendarRows.j0 k a0 a1 a2 t139 t141 t145 (!t147))) else (geyserlaw18_CalendarRows.j0 k a0 a1 a2 t139 t141 t145 true))) = some r := H
  have A6 := Aside0.mk A60
  clear A60
  have HC7 := Aside0.mk H
  clear H
  go_enter Tryd.func4, Tryd.ntmps4
  go_upto_region 4 with (first | ((with_reducible refine gate_callee (f := 12) rfl ?_); refine goesL_ (some 16) rfl rfl Tryd.func12 (by kernel_rfl) rfl #[.int .i64 a0, .int .i64 a1, .int .i64 a2] rfl (by (try simp only [List.map_toArray, List.map_cons, List.map_nil]); first | done | rfl | (simp only [List.length_drop, List.length_take]; rfl)) ?_; (with_reducible refine (calendar_Steps.calls a0 a1 a2 t139 t140 _ A4.out).mono ?_); rintro e w8 ⟨ev_t140, rfl, he0, hb⟩; refine ⟨_, rfl, ?_⟩; have n0_ := Aside0.mk (below_step (by repeat (first | (with_reducible first | exact HB.out | apply below_alloc | apply pw_below_drewN | apply below_drew1) | exact HB.out)) hb); clear HB; have HB := n0_; clear n0_; (try clear hb); (try clear hb2); (try clear hk); (try clear hi); have HE_t140 := Aside0.mk he0; clear he0) | ((with_reducible refine gate_callee (f := 13) rfl ?_); refine goesL_ (some 23) rfl rfl Tryd.func13 (by kernel_rfl) rfl #[.int .i64 a0, .int .i64 a1, .int .i64 a2] rfl (by (try simp only [List.map_toArray, List.map_cons, List.map_nil]); first | done | rfl | (simp only [List.length_drop, List.length_take]; rfl)) ?_; (with_reducible refine (calendar_Row.calls a0 a1 a2 t141 t142 _ A5.out).mono ?_); rintro e w9 ⟨v143, ev_t142, rfl, ho0, he0, hb⟩; refine ⟨_, rfl, ?_⟩; (try (have nE_ := Aside0.mk (ErR_below hb (by repeat (first | exact HE_t140.out | apply ErR_drew | apply ErR_drewN | apply ErR_alloc))); clear HE_t140; have HE_t140 := nE_; clear nE_)); have n0_ := Aside0.mk (Kd.R_lower ho0 (below_size (by repeat (first | (with_reducible first | exact HB.out | apply below_alloc | apply pw_below_drewN | apply below_drew1) | exact HB.out)))); have n1_ := Aside0.mk (below_step (by repeat (first | (with_reducible first | exact HB.out | apply below_alloc | apply pw_below_drewN | apply below_drew1) | exact HB.out)) hb); clear HB; have HO144 := n0_; have HB := n1_; clear n0_ n1_; (try clear hb); (try clear hb2); (try clear hk); (try clear hi); (try clear ho0); have HE_t142 := Aside0.mk he0; clear he0) | ((with_reducible refine gate_callee (f := 8) rfl ?_); refine goesL_ (some 29) rfl rfl Tryd.func8 (by kernel_rfl) rfl #[.int .i64 a0, .int .i64 a1, .int .i64 a2] rfl (by (try simp only [List.map_toArray, List.map_cons, List.map_nil]); first | done | rfl | (simp only [List.length_drop, List.length_take]; rfl)) ?_; (with_reducible refine (geyserref18_Check.calls a0 a1 a2 t145 _ A6.out).mono ?_); rintro e w' ⟨rfl, ⟨nd, rfl⟩⟩; refine ⟨_, rfl, ?_⟩))
  (try simp only [Act.put, List.setIfInBounds_toArray, List.set_cons_zero, List.set_cons_succ])
  go_cut [39] (fun v39 wc => ∃ (kq : Nat) (x39_6 : Bool), v39 = .bool x39_6 ∧ Aside0 (geyserlaw18_CalendarRows.j0 kq a0 a1 a2 t139 t141 t145 x39_6 = some r) ∧ Aside0 (kq ≤ k) ∧ Aside0 (Kd.R (Kd.int .u32) 47 wc w.heap.size (fun _ => True) v143 t141) ∧ Aside0 (Below w.heap.size w wc))
  case first =>
    have H := HC7.out
    clear HC7
    replace H := Option.bind_eq_some_iff.mp H
    obtain ⟨t146, A100, H⟩ := H
    replace H : (if t146 = true then ((tells.f t142 t145 (⟨#[99, 97, 108, 101, 110, 100, 97, 114, 46, 82, 111, 119]⟩ : ByteArray)).bind fun t147 => (geyserlaw18_CalendarRows.j0 k a0 a1 a2 t139 t141 t145 (!t147))) else (geyserlaw18_CalendarRows.j0 k a0 a1 a2 t139 t141 t145 true)) = some r := H
    have A10 := Aside0.mk A100
    clear A100
    by_cases c11 : t146 = true
    · subst c11
      have H1 : ((tells.f t142 t145 (⟨#[99, 97, 108, 101, 110, 100, 97, 114, 46, 82, 111, 119]⟩ : ByteArray)).bind fun t147 => (geyserlaw18_CalendarRows.j0 k a0 a1 a2 t139 t141 t145 (!t147))) = some r := by rw [if_pos rfl] at H; exact H
      clear H
      have H := H1
      clear H1
      replace H := Option.bind_eq_some_iff.mp H
      obtain ⟨t147, A120, H⟩ := H
      replace H : (geyserlaw18_CalendarRows.j0 k a0 a1 a2 t139 t141 t145 (!t147)) = some r := H
      have A12 := Aside0.mk A120
      clear A120
      have H' := Aside0.mk H
      clear H
      go_wp2_with (first | (go_at_call 9; (with_reducible refine (tells.calls _ t140 t145 (⟨#[99, 97, 108, 101, 110, 100, 97, 114, 46, 83, 116, 101, 112, 115]⟩ : ByteArray) true _ ?side1 ?side2 A10.out).mono ?_); (case side1 => repeat (first | exact HE_t140.out | exact HE_t140.out | apply ErR_drew | apply ErR_drewN | apply ErR_alloc)); (case side2 => exact Glob_below HG.out (by repeat (first | (with_reducible first | exact HB.out | apply below_alloc | apply pw_below_drewN | apply below_drew1) | exact HB.out))); rintro e w13 ⟨rfl, hb⟩; (try (have nE_ := Aside0.mk (ErR_below hb (by repeat (first | exact HE_t140.out | apply ErR_drew | apply ErR_drewN | apply ErR_alloc))); clear HE_t140; have HE_t140 := nE_; clear nE_)); (try (have nE_ := Aside0.mk (ErR_below hb (by repeat (first | exact HE_t142.out | apply ErR_drew | apply ErR_drewN | apply ErR_alloc))); clear HE_t142; have HE_t142 := nE_; clear nE_)); have n0_ := Aside0.mk (Kd.R_below (by (with_reducible repeat (first | apply Kd.R_alloc | apply Kd.R_drewN | apply Kd.R_drew)); exact HO144.out) hb); have n1_ := Aside0.mk (below_step (by repeat (first | (with_reducible first | exact HB.out | apply below_alloc | apply pw_below_drewN | apply below_drew1) | exact HB.out)) hb); clear HO144; clear HB; have HO144 := n0_; have HB := n1_; clear n0_ n1_; (try clear hb); (try clear hb2); (try clear hk); (try clear hi)) | (go_at_call 9; (with_reducible refine (tells.calls _ t142 t145 (⟨#[99, 97, 108, 101, 110, 100, 97, 114, 46, 82, 111, 119]⟩ : ByteArray) t147 _ ?side1 ?side2 A12.out).mono ?_); (case side1 => repeat (first | exact HE_t142.out | exact HE_t142.out | apply ErR_drew | apply ErR_drewN | apply ErR_alloc)); (case side2 => exact Glob_below HG.out (by repeat (first | (with_reducible first | exact HB.out | apply below_alloc | apply pw_below_drewN | apply below_drew1) | exact HB.out))); rintro e w14 ⟨rfl, hb⟩; (try (have nE_ := Aside0.mk (ErR_below hb (by repeat (first | exact HE_t140.out | apply ErR_drew | apply ErR_drewN | apply ErR_alloc))); clear HE_t140; have HE_t140 := nE_; clear nE_)); (try (have nE_ := Aside0.mk (ErR_below hb (by repeat (first | exact HE_t142.out | apply ErR_drew | apply ErR_drewN | apply ErR_alloc))); clear HE_t142; have HE_t142 := nE_; clear nE_)); have n0_ := Aside0.mk (Kd.R_below (by (with_reducible repeat (first | apply Kd.R_alloc | apply Kd.R_drewN | apply Kd.R_drew)); exact HO144.out) hb); have n1_ := Aside0.mk (below_step (by repeat (first | (with_reducible first | exact HB.out | apply below_alloc | apply pw_below_drewN | apply below_drew1) | exact HB.out)) hb); clear HO144; clear HB; have HO144 := n0_; have HB := n1_; clear n0_ n1_; (try clear hb); (try clear hb2); (try clear hk); (try clear hi)))
      go_meet
      case rel => exact ⟨_, (!t147), (by first | rfl | (simp; done) | (simp [*]; done)), H', ⟨by first | omega | exact Nat.le_refl _⟩, ⟨by (with_reducible repeat (first | apply Kd.R_alloc | apply Kd.R_drewN | apply Kd.R_drew)); exact HO144.out⟩, ⟨by repeat (first | (with_reducible first | exact HB.out | apply below_alloc | apply pw_below_drewN | apply below_drew1) | exact HB.out)⟩⟩
    · replace c11 := Bool.eq_false_iff.mpr c11
      subst c11
      have H1 : (geyserlaw18_CalendarRows.j0 k a0 a1 a2 t139 t141 t145 true) = some r := by rw [if_neg (show ¬ (false = true) by decide)] at H; exact H
      clear H
      have H := H1
      clear H1
      have H' := Aside0.mk H
      clear H
      go_wp2_with (first | (go_at_call 9; (with_reducible refine (tells.calls _ t140 t145 (⟨#[99, 97, 108, 101, 110, 100, 97, 114, 46, 83, 116, 101, 112, 115]⟩ : ByteArray) false _ ?side1 ?side2 A10.out).mono ?_); (case side1 => repeat (first | exact HE_t140.out | exact HE_t140.out | apply ErR_drew | apply ErR_drewN | apply ErR_alloc)); (case side2 => exact Glob_below HG.out (by repeat (first | (with_reducible first | exact HB.out | apply below_alloc | apply pw_below_drewN | apply below_drew1) | exact HB.out))); rintro e w15 ⟨rfl, hb⟩; (try (have nE_ := Aside0.mk (ErR_below hb (by repeat (first | exact HE_t140.out | apply ErR_drew | apply ErR_drewN | apply ErR_alloc))); clear HE_t140; have HE_t140 := nE_; clear nE_)); (try (have nE_ := Aside0.mk (ErR_below hb (by repeat (first | exact HE_t142.out | apply ErR_drew | apply ErR_drewN | apply ErR_alloc))); clear HE_t142; have HE_t142 := nE_; clear nE_)); have n0_ := Aside0.mk (Kd.R_below (by (with_reducible repeat (first | apply Kd.R_alloc | apply Kd.R_drewN | apply Kd.R_drew)); exact HO144.out) hb); have n1_ := Aside0.mk (below_step (by repeat (first | (with_reducible first | exact HB.out | apply below_alloc | apply pw_below_drewN | apply below_drew1) | exact HB.out)) hb); clear HO144; clear HB; have HO144 := n0_; have HB := n1_; clear n0_ n1_; (try clear hb); (try clear hb2); (try clear hk); (try clear hi)))
      go_meet
      case rel => exact ⟨_, (true), (by first | rfl | (simp; done) | (simp [*]; done)), H', ⟨by first | omega | exact Nat.le_refl _⟩, ⟨by (with_reducible repeat (first | apply Kd.R_alloc | apply Kd.R_drewN | apply Kd.R_drew)); exact HO144.out⟩, ⟨by repeat (first | (with_reducible first | exact HB.out | apply below_alloc | apply pw_below_drewN | apply below_drew1) | exact HB.out)⟩⟩
  case rest =>
    clear HC7
    try clear c1
    try clear p2
    try clear c4
    try clear c8
    try clear c11
    try clear c12
    try clear c13
    obtain ⟨kq, x39_6, rfl, HA, HJ6, HO_9, HB⟩ := hcut
    cases kq with
    | zero => exact absurd HA.out (by simp [geyserlaw18_CalendarRows.j0])
    | succ kj6 =>
      have H := HA.out
      clear HA
      simp only [geyserlaw18_CalendarRows.j0] at H
      by_cases c16 : x39_6 = true
      · subst c16
        have H1 : (some false) = some r := by rw [if_pos rfl] at H; exact H
        clear H
        have H := H1
        clear H1
        obtain rfl := Option.some.inj H
        go_wp2
        go_ret
        exact ⟨by first | rfl | (simp [errW_none, errW_some] <;> rfl) | (simp [*, errW_none, errW_some] <;> rfl), by repeat (first | (with_reducible first | exact HB.out | apply below_alloc | apply pw_below_drewN | apply below_drew1) | exact HB.out)⟩
      · replace c16 := Bool.eq_false_iff.mpr c16
        subst c16
        have H1 : (if t145 = 0 then ((geyserref18_Steps.f kj6 a0 a1 a2).bind fun t149 => (if t139 = t149 then ((geyserref18_Row.f kj6 a0 a1 a2).bind fun t150 => ((geyserref18_Same.f kj6 t141 t150).bind fun t153 => (if t153 = true then ((geyserlaw18_awake.f kj6).bind fun t154 => (some t154)) else (some false)))) else (some false))) else (if t139 = 0 then (if (t141.length : Int) = 0 then ((geyserlaw18_awake.f kj6).bind fun t148 => (some t148)) else (some false)) else (some false))) = some r := by rw [if_neg (show ¬ (false = true) by decide)] at H; exact H
        clear H
        have H := H1
        clear H1
        by_cases c17 : t145 = 0
        · rw [if_pos c17] at H
          have c17b0 : (t145 == 0) = true := beq_iff_eq.mpr c17
          have c17b1 : (t145 != 0) = false := bne_eq_false_iff_eq.mpr c17
          clear c17
          replace H := Option.bind_eq_some_iff.mp H
          obtain ⟨t149, A180, H⟩ := H
          replace H : (if t139 = t149 then ((geyserref18_Row.f kj6 a0 a1 a2).bind fun t150 => ((geyserref18_Same.f kj6 t141 t150).bind fun t153 => (if t153 = true then ((geyserlaw18_awake.f kj6).bind fun t154 => (some t154)) else (some false)))) else (some false)) = some r := H
          have A18 := Aside0.mk A180
          clear A180
          by_cases c19 : t139 = t149
          · rw [if_pos c19] at H
            have c19b0 : (t139 == t149) = true := beq_iff_eq.mpr c19
            have c19b1 : (t139 != t149) = false := bne_eq_false_iff_eq.mpr c19
            clear c19
            replace H := Option.bind_eq_some_iff.mp H
            obtain ⟨t150, A200, H⟩ := H
            replace H : ((geyserref18_Same.f kj6 t141 t150).bind fun t153 => (if t153 = true then ((geyserlaw18_awake.f kj6).bind fun t154 => (some t154)) else (some false))) = some r := H
            have A20 := Aside0.mk A200
            clear A200
            replace H := Option.bind_eq_some_iff.mp H
            obtain ⟨t153, A210, H⟩ := H
            replace H : (if t153 = true then ((geyserlaw18_awake.f kj6).bind fun t154 => (some t154)) else (some false)) = some r := H
            have A21 := Aside0.mk A210
            clear A210
            by_cases c22 : t153 = true
            · subst c22
              have H1 : ((geyserlaw18_awake.f kj6).bind fun t154 => (some t154)) = some r := by rw [if_pos rfl] at H; exact H
              clear H
              have H := H1
              clear H1
              replace H := Option.bind_eq_some_iff.mp H
              obtain ⟨t154, A230, H⟩ := H
              replace H : (some t154) = some r := H
              have A23 := Aside0.mk A230
              clear A230
              obtain rfl := Option.some.inj H
              go_wp2_with (first | ((with_reducible refine gate_callee (f := 14) rfl ?_); refine goesL_ (some 56) rfl rfl Tryd.func14 (by kernel_rfl) rfl #[.int .i64 a0, .int .i64 a1, .int .i64 a2] rfl (by (try simp only [List.map_toArray, List.map_cons, List.map_nil]); first | done | rfl | (simp only [List.length_drop, List.length_take]; rfl)) ?_; (with_reducible refine (geyserref18_Steps.calls kj6 a0 a1 a2 t149 _ A18.out).mono ?_); rintro e w' ⟨rfl, ⟨nd, rfl⟩⟩; refine ⟨_, rfl, ?_⟩) | (go_at_call 16; (with_reducible refine (geyserref18_Row.calls kj6 a0 a1 a2 t150 _ A20.out).mono ?_); rintro e w24 ⟨v151, rfl, ho0, hb⟩; have n0_ := Aside0.mk (Kd.R_elder' (by (with_reducible repeat (first | apply Kd.R_alloc | apply Kd.R_drewN | apply Kd.R_drew)); exact HO_9.out) (Kd.R_base ho0) hb); have n1_ := Aside0.mk (Kd.R_lower (Kd.R_new' ho0 (Kd.R_lt (by (with_reducible repeat (first | apply Kd.R_alloc | apply Kd.R_drewN | apply Kd.R_drew)); exact HO_9.out))) (below_size (by repeat (first | (with_reducible first | exact HB.out | apply below_alloc | apply pw_below_drewN | apply below_drew1) | exact HB.out)))); have n2_ := Aside0.mk (below_step (by repeat (first | (with_reducible first | exact HB.out | apply below_alloc | apply pw_below_drewN | apply below_drew1) | exact HB.out)) hb); clear HO_9; clear HB; have HO_9 := n0_; have HO152 := n1_; have HB := n2_; clear n0_ n1_ n2_; (try clear hb); (try clear hb2); (try clear hk); (try clear hi); (try clear ho0); obtain ⟨Ao25, co25, eo25⟩ := Kd.R_slice HO_9.out; subst eo25; obtain ⟨Ao26, co26, eo26⟩ := Kd.R_slice HO152.out; subst eo26) | (go_at_call 15; (with_reducible refine (geyserref18_Same.calls kj6 _ _ t141 _ _ t150 true _ ?side1 ?side2 ?side3 ?side4 A21.out).mono ?_); (case side1 => repeat (first | exact (Kd.R_reads' HO_9.out).2.2 | (with_reducible refine Kd.C_alloc ?_ _) | (with_reducible refine Kd.C_drewN ?_ _) | (with_reducible refine Kd.C_drew ?_))); (case side2 => exact (Kd.R_reads' HO_9.out).2.1); (case side3 => repeat (first | exact (Kd.R_reads' HO152.out).2.2 | (with_reducible refine Kd.C_alloc ?_ _) | (with_reducible refine Kd.C_drewN ?_ _) | (with_reducible refine Kd.C_drew ?_))); (case side4 => exact (Kd.R_reads' HO152.out).2.1); rintro e w' ⟨rfl, ⟨nd, rfl⟩⟩) | (go_at_call 10; (with_reducible refine (geyserlaw18_awake.calls kj6  t154 _ A23.out).mono ?_); rintro e w27 ⟨rfl, hb⟩; have n0_ := Aside0.mk (Kd.R_below (by (with_reducible repeat (first | apply Kd.R_alloc | apply Kd.R_drewN | apply Kd.R_drew)); exact HO_9.out) hb); have n1_ := Aside0.mk (Kd.R_below (by (with_reducible repeat (first | apply Kd.R_alloc | apply Kd.R_drewN | apply Kd.R_drew)); exact HO152.out) hb); have n2_ := Aside0.mk (below_step (by repeat (first | (with_reducible first | exact HB.out | apply below_alloc | apply pw_below_drewN | apply below_drew1) | exact HB.out)) hb); clear HO_9; clear HO152; clear HB; have HO_9 := n0_; have HO152 := n1_; have HB := n2_; clear n0_ n1_ n2_; (try clear hb); (try clear hb2); (try clear hk); (try clear hi)))
              go_ret
              exact ⟨by first | rfl | (simp [errW_none, errW_some] <;> rfl) | (simp [*, errW_none, errW_some] <;> rfl), by repeat (first | (with_reducible first | exact HB.out | apply below_alloc | apply pw_below_drewN | apply below_drew1) | exact HB.out)⟩
            · replace c22 := Bool.eq_false_iff.mpr c22
              subst c22
              have H1 : (some false) = some r := by rw [if_neg (show ¬ (false = true) by decide)] at H; exact H
              clear H
              have H := H1
              clear H1
              obtain rfl := Option.some.inj H
              go_wp2_with (first | ((with_reducible refine gate_callee (f := 14) rfl ?_); refine goesL_ (some 56) rfl rfl Tryd.func14 (by kernel_rfl) rfl #[.int .i64 a0, .int .i64 a1, .int .i64 a2] rfl (by (try simp only [List.map_toArray, List.map_cons, List.map_nil]); first | done | rfl | (simp only [List.length_drop, List.length_take]; rfl)) ?_; (with_reducible refine (geyserref18_Steps.calls kj6 a0 a1 a2 t149 _ A18.out).mono ?_); rintro e w' ⟨rfl, ⟨nd, rfl⟩⟩; refine ⟨_, rfl, ?_⟩) | (go_at_call 16; (with_reducible refine (geyserref18_Row.calls kj6 a0 a1 a2 t150 _ A20.out).mono ?_); rintro e w28 ⟨v151, rfl, ho0, hb⟩; have n0_ := Aside0.mk (Kd.R_elder' (by (with_reducible repeat (first | apply Kd.R_alloc | apply Kd.R_drewN | apply Kd.R_drew)); exact HO_9.out) (Kd.R_base ho0) hb); have n1_ := Aside0.mk (Kd.R_lower (Kd.R_new' ho0 (Kd.R_lt (by (with_reducible repeat (first | apply Kd.R_alloc | apply Kd.R_drewN | apply Kd.R_drew)); exact HO_9.out))) (below_size (by repeat (first | (with_reducible first | exact HB.out | apply below_alloc | apply pw_below_drewN | apply below_drew1) | exact HB.out)))); have n2_ := Aside0.mk (below_step (by repeat (first | (with_reducible first | exact HB.out | apply below_alloc | apply pw_below_drewN | apply below_drew1) | exact HB.out)) hb); clear HO_9; clear HB; have HO_9 := n0_; have HO152 := n1_; have HB := n2_; clear n0_ n1_ n2_; (try clear hb); (try clear hb2); (try clear hk); (try clear hi); (try clear ho0); obtain ⟨Ao29, co29, eo29⟩ := Kd.R_slice HO_9.out; subst eo29; obtain ⟨Ao30, co30, eo30⟩ := Kd.R_slice HO152.out; subst eo30) | (go_at_call 15; (with_reducible refine (geyserref18_Same.calls kj6 _ _ t141 _ _ t150 false _ ?side1 ?side2 ?side3 ?side4 A21.out).mono ?_); (case side1 => repeat (first | exact (Kd.R_reads' HO_9.out).2.2 | (with_reducible refine Kd.C_alloc ?_ _) | (with_reducible refine Kd.C_drewN ?_ _) | (with_reducible refine Kd.C_drew ?_))); (case side2 => exact (Kd.R_reads' HO_9.out).2.1); (case side3 => repeat (first | exact (Kd.R_reads' HO152.out).2.2 | (with_reducible refine Kd.C_alloc ?_ _) | (with_reducible refine Kd.C_drewN ?_ _) | (with_reducible refine Kd.C_drew ?_))); (case side4 => exact (Kd.R_reads' HO152.out).2.1); rintro e w' ⟨rfl, ⟨nd, rfl⟩⟩))
              go_ret
              exact ⟨by first | rfl | (simp [errW_none, errW_some] <;> rfl) | (simp [*, errW_none, errW_some] <;> rfl), by repeat (first | (with_reducible first | exact HB.out | apply below_alloc | apply pw_below_drewN | apply below_drew1) | exact HB.out)⟩
          · rw [if_neg c19] at H
            have c19b0 : (t139 == t149) = false := beq_eq_false_iff_ne.mpr c19
            have c19b1 : (t139 != t149) = true := bne_iff_ne.mpr c19
            obtain rfl := Option.some.inj H
            go_wp2_with (first | ((with_reducible refine gate_callee (f := 14) rfl ?_); refine goesL_ (some 56) rfl rfl Tryd.func14 (by kernel_rfl) rfl #[.int .i64 a0, .int .i64 a1, .int .i64 a2] rfl (by (try simp only [List.map_toArray, List.map_cons, List.map_nil]); first | done | rfl | (simp only [List.length_drop, List.length_take]; rfl)) ?_; (with_reducible refine (geyserref18_Steps.calls kj6 a0 a1 a2 t149 _ A18.out).mono ?_); rintro e w' ⟨rfl, ⟨nd, rfl⟩⟩; refine ⟨_, rfl, ?_⟩))
            go_ret
            exact ⟨by first | rfl | (simp [errW_none, errW_some] <;> rfl) | (simp [*, errW_none, errW_some] <;> rfl), by repeat (first | (with_reducible first | exact HB.out | apply below_alloc | apply pw_below_drewN | apply below_drew1) | exact HB.out)⟩
        · rw [if_neg c17] at H
          have c17b0 : (t145 == 0) = false := beq_eq_false_iff_ne.mpr c17
          have c17b1 : (t145 != 0) = true := bne_iff_ne.mpr c17
          by_cases c31 : t139 = 0
          · rw [if_pos c31] at H
            have c31b0 : (t139 == 0) = true := beq_iff_eq.mpr c31
            have c31b1 : (t139 != 0) = false := bne_eq_false_iff_eq.mpr c31
            clear c31
            by_cases c32 : (t141.length : Int) = 0
            · rw [if_pos c32] at H
              have c32b0 : ((t141.length : Int) == 0) = true := beq_iff_eq.mpr c32
              have c32b1 : ((t141.length : Int) != 0) = false := bne_eq_false_iff_eq.mpr c32
              clear c32
              replace H := Option.bind_eq_some_iff.mp H
              obtain ⟨t148, A330, H⟩ := H
              replace H : (some t148) = some r := H
              have A33 := Aside0.mk A330
              clear A330
              obtain rfl := Option.some.inj H
              obtain ⟨Ao34, co34, eo34⟩ := Kd.R_slice HO_9.out
              subst eo34
              go_wp2_with (first | (go_at_call 10; (with_reducible refine (geyserlaw18_awake.calls kj6  t148 _ A33.out).mono ?_); rintro e w35 ⟨rfl, hb⟩; have n0_ := Aside0.mk (Kd.R_below (by (with_reducible repeat (first | apply Kd.R_alloc | apply Kd.R_drewN | apply Kd.R_drew)); exact HO_9.out) hb); have n1_ := Aside0.mk (below_step (by repeat (first | (with_reducible first | exact HB.out | apply below_alloc | apply pw_below_drewN | apply below_drew1) | exact HB.out)) hb); clear HO_9; clear HB; have HO_9 := n0_; have HB := n1_; clear n0_ n1_; (try clear hb); (try clear hb2); (try clear hk); (try clear hi)))
              go_ret
              exact ⟨by first | rfl | (simp [errW_none, errW_some] <;> rfl) | (simp [*, errW_none, errW_some] <;> rfl), by repeat (first | (with_reducible first | exact HB.out | apply below_alloc | apply pw_below_drewN | apply below_drew1) | exact HB.out)⟩
            · rw [if_neg c32] at H
              have c32b0 : ((t141.length : Int) == 0) = false := beq_eq_false_iff_ne.mpr c32
              have c32b1 : ((t141.length : Int) != 0) = true := bne_iff_ne.mpr c32
              have c32b2 : ¬ (t141 = []) := fun h_ => c32 (by rw [h_]; rfl)
              obtain rfl := Option.some.inj H
              obtain ⟨Ao36, co36, eo36⟩ := Kd.R_slice HO_9.out
              subst eo36
              go_wp2
              go_ret
              exact ⟨by first | rfl | (simp [errW_none, errW_some] <;> rfl) | (simp [*, errW_none, errW_some] <;> rfl), by repeat (first | (with_reducible first | exact HB.out | apply below_alloc | apply pw_below_drewN | apply below_drew1) | exact HB.out)⟩
          · rw [if_neg c31] at H
            have c31b0 : (t139 == 0) = false := beq_eq_false_iff_ne.mpr c31
            have c31b1 : (t139 != 0) = true := bne_iff_ne.mpr c31
            obtain rfl := Option.some.inj H
            go_wp2
            go_ret
            exact ⟨by first | rfl | (simp [errW_none, errW_some] <;> rfl) | (simp [*, errW_none, errW_some] <;> rfl), by repeat (first | (with_reducible first | exact HB.out | apply below_alloc | apply pw_below_drewN | apply below_drew1) | exact HB.out)⟩

/-- THE ONE PURE STATEMENT of geyserlaw18_CalendarRows: yours. -/
def geyserlaw18_CalendarRows.Pure : Prop := ∀ (a0 : Int) (a1 : Int) (a2 : Int), (Lit.int .i64 a0).wf = true → (Lit.int .i64 a1).wf = true → (Lit.int .i64 a2).wf = true → ∃ k, geyserlaw18_CalendarRows.f k a0 a1 a2 = some true
theorem geyserlaw18_CalendarRows.walk (P : geyserlaw18_CalendarRows.Pure) (a0 : Int) (a1 : Int) (a2 : Int) (w : World) (w0 : (Lit.int .i64 a0).wf = true) (w1 : (Lit.int .i64 a1).wf = true) (w2 : (Lit.int .i64 a2).wf = true) (hG : Glob w) :
    Calls Tryd.prog 4 #[.int .i64 a0, .int .i64 a1, .int .i64 a2] w fun e w' => e = .returned (.bool true) ∧ Below w.heap.size w w' := by
  obtain ⟨k, h⟩ := P a0 a1 a2 w0 w1 w2
  refine (geyserlaw18_CalendarRows.calls k a0 a1 a2 true w hG h).mono ?_
  rintro e w' ⟨rfl, hd⟩
  exact ⟨rfl, hd⟩

end Go.Proofs.YtnhelpbchfeadaaDoor.QCalendarRows
