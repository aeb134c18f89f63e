-- Written by a program of this session out of the translation. Lean checks it.
import Derived.Test.YtgbghjbihddpjaaQControlRisesx0
import Derived.Test.YtgbghjbihddpjaaQControlRisesx1
import Derived.Test.YtgbghjbihddpjaaQControlRisesx2
namespace Go.Proofs.Ytgbghjbihddpjaa.QControlRises
open Go.RowKit Go.Proofs.Ytgbghjbihddpjaa.Er Go.Proofs.Ytgbghjbihddpjaa.St Go.Proofs.YtgbghjbihddpjaaW.PrintWords Go.Proofs.YtgbghjbihddpjaaW.PrintLast Go.Proofs.YtgbghjbihddpjaaW.PrintMore
attribute [local go_sem] max2_int min2_int max_two min_two max_three min_three max_four min_four   -- for this text's walks alone
set_option linter.unusedVariables false
set_option linter.unusedSimpArgs false

/-! ### geyserlaw21_ControlRises: function 4 -/
mutual
def geyserlaw21_ControlRises.l0 : Nat → List (S32) → Int → Int → Int → Int → Int → Int → Int → Bool → Option (Bool)
  | 0, _, _, _, _, _, _, _, _, _ => none
  | k + 1, x2, x9, x11, x12, x148000, x148001, x148002, x148003, x148004 => if x12 < (x2.length : Int) then (geyserlaw21_ControlRises.j1 k x2 x9 x11 x12 (decide (x12 < 200)) x148000 x148001 x148002 x148003 x148004) else (geyserlaw21_ControlRises.j1 k x2 x9 x11 x12 false x148000 x148001 x148002 x148003 x148004)
def geyserlaw21_ControlRises.j1 : Nat → List (S32) → Int → Int → Int → Bool → Int → Int → Int → Int → Bool → Option (Bool)
  | 0, _, _, _, _, _, _, _, _, _, _ => none
  | k + 1, x2, x9, x11, x12, x34, x148000, x148001, x148002, x148003, x148004 => if x34 = true then (if 0 ≤ x12 then (if x12 < (x2.length : Int) then ((geyserlaw21_fit.f ((rd_T32 x2 x12).f0) ((rd_T32 x2 x12).f1) ((rd_T32 x2 x12).f2) ((rd_T32 x2 x12).f3)).bind fun bt153 => ((control_Controller_Level.f x148000 x148001 x148002 x148003 x148004).bind fun bt158 => (if bt153.2.1 = true then (if bt153.1 = true then (geyserlaw21_ControlRises.j2 k x2 x9 x11 x12 bt158.1 (!bt153.2.2.1) bt158.2.1 bt158.2.2.1 bt158.2.2.2.1 bt158.2.2.2.2.1 bt158.2.2.2.2.2 bt153.1 bt153.2.1 bt153.2.2.1 bt153.2.2.2) else (geyserlaw21_ControlRises.j2 k x2 x9 x11 x12 bt158.1 false bt158.2.1 bt158.2.2.1 bt158.2.2.2.1 bt158.2.2.2.2.1 bt158.2.2.2.2.2 bt153.1 bt153.2.1 bt153.2.2.1 bt153.2.2.2)) else (geyserlaw21_ControlRises.j2 k x2 x9 x11 x12 bt158.1 false bt158.2.1 bt158.2.2.1 bt158.2.2.2.1 bt158.2.2.2.2.1 bt158.2.2.2.2.2 bt153.1 bt153.2.1 bt153.2.2.1 bt153.2.2.2)))) else (none)) else (none)) else ((geyserlaw21_awake.f k).bind fun t151 => (some t151))
def geyserlaw21_ControlRises.j2 : Nat → List (S32) → Int → Int → Int → Int → Bool → Int → Int → Int → Int → Bool → Bool → Bool → Bool → Int → Option (Bool)
  | 0, _, _, _, _, _, _, _, _, _, _, _, _, _, _, _ => none
  | k + 1, x2, x9, x11, x12, x14, x54, x148000, x148001, x148002, x148003, x148004, x158000, x158001, x158002, x158003 => if x54 = true then (geyserlaw21_ControlRises.j3 k x2 x9 (wrap64 (x11 + 1)) x12 x14 x148000 x148001 x148002 x148003 x148004 x158000 x158001 x158002 x158003) else (if x158001 = true then (geyserlaw21_ControlRises.j3 k x2 x9 0 x12 x14 x148000 x148001 x148002 x148003 x148004 x158000 x158001 x158002 x158003) else (if x158002 = true then (geyserlaw21_ControlRises.j3 k x2 x9 0 x12 x14 x148000 x148001 x148002 x148003 x148004 x158000 x158001 x158002 x158003) else (geyserlaw21_ControlRises.j3 k x2 x9 x11 x12 x14 x148000 x148001 x148002 x148003 x148004 x158000 x158001 x158002 x158003)))
def geyserlaw21_ControlRises.j3 : Nat → List (S32) → Int → Int → Int → Int → Int → Int → Int → Int → Bool → Bool → Bool → Bool → Int → Option (Bool)
  | 0, _, _, _, _, _, _, _, _, _, _, _, _, _, _ => none
  | k + 1, x2, x9, x11, x12, x14, x148000, x148001, x148002, x148003, x148004, x158000, x158001, x158002, x158003 => (control_Controller_Mark.f k x148000 x148001 x148002 x148003 x148004 x158000 x158001 x158002 x158003).bind fun bt164 => (if bt164.2.1.isNone = true then (if bt164.1 > 0 then (if x158003 < x14 then (geyserlaw21_ControlRises.j4 k x2 x9 x11 x12 true bt164.2.2.1 bt164.2.2.2.1 bt164.2.2.2.2.1 bt164.2.2.2.2.2.1 bt164.2.2.2.2.2.2 x158000 x158001 x158002 x158003) else (if x11 < x9 then (geyserlaw21_ControlRises.j4 k x2 x9 x11 x12 true bt164.2.2.1 bt164.2.2.2.1 bt164.2.2.2.2.1 bt164.2.2.2.2.2.1 bt164.2.2.2.2.2.2 x158000 x158001 x158002 x158003) else (geyserlaw21_ControlRises.j4 k x2 x9 x11 x12 x158002 bt164.2.2.1 bt164.2.2.2.1 bt164.2.2.2.2.1 bt164.2.2.2.2.2.1 bt164.2.2.2.2.2.2 x158000 x158001 x158002 x158003))) else (geyserlaw21_ControlRises.j4 k x2 x9 x11 x12 false bt164.2.2.1 bt164.2.2.2.1 bt164.2.2.2.2.1 bt164.2.2.2.2.2.1 bt164.2.2.2.2.2.2 x158000 x158001 x158002 x158003)) else (geyserlaw21_ControlRises.j4 k x2 x9 x11 x12 true bt164.2.2.1 bt164.2.2.2.1 bt164.2.2.2.2.1 bt164.2.2.2.2.2.1 bt164.2.2.2.2.2.2 x158000 x158001 x158002 x158003))
def geyserlaw21_ControlRises.j4 : Nat → List (S32) → Int → Int → Int → Bool → Int → Int → Int → Int → Bool → Bool → Bool → Bool → Int → Option (Bool)
  | 0, _, _, _, _, _, _, _, _, _, _, _, _, _, _ => none
  | k + 1, x2, x9, x11, x12, x89, x148000, x148001, x148002, x148003, x148004, x158000, x158001, x158002, x158003 => if x89 = true then (some false) else (if x158003 ≥ 0 then (geyserlaw21_ControlRises.l0 k x2 x9 0 (wrap64 (x12 + 1)) x148000 x148001 x148002 x148003 x148004) else (geyserlaw21_ControlRises.l0 k x2 x9 x11 (wrap64 (x12 + 1)) x148000 x148001 x148002 x148003 x148004))
end
def geyserlaw21_ControlRises.f (k : Nat) (a0 : Int) (a1 : Int) (l2 : List (S32)) : Option (Bool) := (geyserlaw21_begin.f a0 a1).bind fun bt142 => (if bt142.2.2.2.2.2.2.2 = true then (geyserlaw21_ControlRises.l0 k l2 bt142.2.2.2.2.2.2.1 0 0 bt142.1 bt142.2.1 bt142.2.2.1 bt142.2.2.2.1 bt142.2.2.2.2.1) else (some false))
theorem geyserlaw21_ControlRises.mono_l : ∀ k, (∀ y0 y1 y2 y3 y4 y5 y6 y7 y8, LeO (geyserlaw21_ControlRises.l0 k y0 y1 y2 y3 y4 y5 y6 y7 y8) (geyserlaw21_ControlRises.l0 (k + 1) y0 y1 y2 y3 y4 y5 y6 y7 y8)) ∧ (∀ y0 y1 y2 y3 y4 y5 y6 y7 y8 y9, LeO (geyserlaw21_ControlRises.j1 k y0 y1 y2 y3 y4 y5 y6 y7 y8 y9) (geyserlaw21_ControlRises.j1 (k + 1) y0 y1 y2 y3 y4 y5 y6 y7 y8 y9)) ∧ (∀ y0 y1 y2 y3 y4 y5 y6 y7 y8 y9 y10 y11 y12 y13 y14, LeO (geyserlaw21_ControlRises.j2 k y0 y1 y2 y3 y4 y5 y6 y7 y8 y9 y10 y11 y12 y13 y14) (geyserlaw21_ControlRises.j2 (k + 1) y0 y1 y2 y3 y4 y5 y6 y7 y8 y9 y10 y11 y12 y13 y14)) ∧ (∀ y0 y1 y2 y3 y4 y5 y6 y7 y8 y9 y10 y11 y12 y13, LeO (geyserlaw21_ControlRises.j3 k y0 y1 y2 y3 y4 y5 y6 y7 y8 y9 y10 y11 y12 y13) (geyserlaw21_ControlRises.j3 (k + 1) y0 y1 y2 y3 y4 y5 y6 y7 y8 y9 y10 y11 y12 y13)) ∧ (∀ y0 y1 y2 y3 y4 y5 y6 y7 y8 y9 y10 y11 y12 y13, LeO (geyserlaw21_ControlRises.j4 k y0 y1 y2 y3 y4 y5 y6 y7 y8 y9 y10 y11 y12 y13) (geyserlaw21_ControlRises.j4 (k + 1) y0 y1 y2 y3 y4 y5 y6 y7 y8 y9 y10 y11 y12 y13))
  | 0 => ⟨fun _ _ _ _ _ _ _ _ _ r h => by simp [geyserlaw21_ControlRises.l0] at h, fun _ _ _ _ _ _ _ _ _ _ r h => by simp [geyserlaw21_ControlRises.j1] at h, fun _ _ _ _ _ _ _ _ _ _ _ _ _ _ _ r h => by simp [geyserlaw21_ControlRises.j2] at h, fun _ _ _ _ _ _ _ _ _ _ _ _ _ _ r h => by simp [geyserlaw21_ControlRises.j3] at h, fun _ _ _ _ _ _ _ _ _ _ _ _ _ _ r h => by simp [geyserlaw21_ControlRises.j4] at h⟩
  | k + 1 => by
    obtain ⟨ih0, ih1, ih2, ih3, ih4⟩ := geyserlaw21_ControlRises.mono_l k
    refine ⟨?_, ?_, ?_, ?_, ?_⟩
    · intro y0 y1 y2 y3 y4 y5 y6 y7 y8
      unfold geyserlaw21_ControlRises.l0
      repeat' first
      | (with_reducible exact ih0 _ _ _ _ _ _ _ _ _)
      | (with_reducible exact ih1 _ _ _ _ _ _ _ _ _ _)
      | (with_reducible exact ih2 _ _ _ _ _ _ _ _ _ _ _ _ _ _ _)
      | (with_reducible exact ih3 _ _ _ _ _ _ _ _ _ _ _ _ _ _)
      | (with_reducible exact ih4 _ _ _ _ _ _ _ _ _ _ _ _ _ _)
      | (with_reducible exact control_Controller_Mark.mono _ _ _ _ _ _ _ _ _ _)
      | (with_reducible exact geyserlaw21_awake.mono _)
      | (with_reducible exact LeO.refl _)
      | (with_reducible exact LeO.none _)
      | (with_reducible refine LeO.ite ?_ ?_)
      | (with_reducible refine LeO.bind ?_ (fun _ => ?_))
      | exact ih0 _ _ _ _ _ _ _ _ _
      | exact ih1 _ _ _ _ _ _ _ _ _ _
      | exact ih2 _ _ _ _ _ _ _ _ _ _ _ _ _ _ _
      | exact ih3 _ _ _ _ _ _ _ _ _ _ _ _ _ _
      | exact ih4 _ _ _ _ _ _ _ _ _ _ _ _ _ _
      | exact control_Controller_Mark.mono _ _ _ _ _ _ _ _ _ _
      | exact geyserlaw21_awake.mono _
      | exact LeO.none _
      | refine LeO.ite ?_ ?_
      | refine LeO.bind ?_ (fun _ => ?_)
    · intro y0 y1 y2 y3 y4 y5 y6 y7 y8 y9
      unfold geyserlaw21_ControlRises.j1
      repeat' first
      | (with_reducible exact ih0 _ _ _ _ _ _ _ _ _)
      | (with_reducible exact ih1 _ _ _ _ _ _ _ _ _ _)
      | (with_reducible exact ih2 _ _ _ _ _ _ _ _ _ _ _ _ _ _ _)
      | (with_reducible exact ih3 _ _ _ _ _ _ _ _ _ _ _ _ _ _)
      | (with_reducible exact ih4 _ _ _ _ _ _ _ _ _ _ _ _ _ _)
      | (with_reducible exact control_Controller_Mark.mono _ _ _ _ _ _ _ _ _ _)
      | (with_reducible exact geyserlaw21_awake.mono _)
      | (with_reducible exact LeO.refl _)
      | (with_reducible exact LeO.none _)
      | (with_reducible refine LeO.ite ?_ ?_)
      | (with_reducible refine LeO.bind ?_ (fun _ => ?_))
      | exact ih0 _ _ _ _ _ _ _ _ _
      | exact ih1 _ _ _ _ _ _ _ _ _ _
      | exact ih2 _ _ _ _ _ _ _ _ _ _ _ _ _ _ _
      | exact ih3 _ _ _ _ _ _ _ _ _ _ _ _ _ _
      | exact ih4 _ _ _ _ _ _ _ _ _ _ _ _ _ _
      | exact control_Controller_Mark.mono _ _ _ _ _ _ _ _ _ _
      | exact geyserlaw21_awake.mono _
      | exact LeO.none _
      | refine LeO.ite ?_ ?_
      | refine LeO.bind ?_ (fun _ => ?_)
    · intro y0 y1 y2 y3 y4 y5 y6 y7 y8 y9 y10 y11 y12 y13 y14
      unfold geyserlaw21_ControlRises.j2
      repeat' first
      | (with_reducible exact ih0 _ _ _ _ _ _ _ _ _)
      | (with_reducible exact ih1 _ _ _ _ _ _ _ _ _ _)
      | (with_reducible exact ih2 _ _ _ _ _ _ _ _ _ _ _ _ _ _ _)
      | (with_reducible exact ih3 _ _ _ _ _ _ _ _ _ _ _ _ _ _)
      | (with_reducible exact ih4 _ _ _ _ _ _ _ _ _ _ _ _ _ _)
      | (with_reducible exact control_Controller_Mark.mono _ _ _ _ _ _ _ _ _ _)
      | (with_reducible exact geyserlaw21_awake.mono _)
      | (with_reducible exact LeO.refl _)
      | (with_reducible exact LeO.none _)
      | (with_reducible refine LeO.ite ?_ ?_)
      | (with_reducible refine LeO.bind ?_ (fun _ => ?_))
      | exact ih0 _ _ _ _ _ _ _ _ _
      | exact ih1 _ _ _ _ _ _ _ _ _ _
      | exact ih2 _ _ _ _ _ _ _ _ _ _ _ _ _ _ _
      | exact ih3 _ _ _ _ _ _ _ _ _ _ _ _ _ _
      | exact ih4 _ _ _ _ _ _ _ _ _ _ _ _ _ _
      | exact control_Controller_Mark.mono _ _ _ _ _ _ _ _ _ _
      | exact geyserlaw21_awake.mono _
      | exact LeO.none _
      | refine LeO.ite ?_ ?_
      | refine LeO.bind ?_ (fun _ => ?_)
    · intro y0 y1 y2 y3 y4 y5 y6 y7 y8 y9 y10 y11 y12 y13
      unfold geyserlaw21_ControlRises.j3
      repeat' first
      | (with_reducible exact ih0 _ _ _ _ _ _ _ _ _)
      | (with_reducible exact ih1 _ _ _ _ _ _ _ _ _ _)
      | (with_reducible exact ih2 _ _ _ _ _ _ _ _ _ _ _ _ _ _ _)
      | (with_reducible exact ih3 _ _ _ _ _ _ _ _ _ _ _ _ _ _)
      | (with_reducible exact ih4 _ _ _ _ _ _ _ _ _ _ _ _ _ _)
      | (with_reducible exact control_Controller_Mark.mono _ _ _ _ _ _ _ _ _ _)
      | (with_reducible exact geyserlaw21_awake.mono _)
      | (with_reducible exact LeO.refl _)
      | (with_reducible exact LeO.none _)
      | (with_reducible refine LeO.ite ?_ ?_)
      | (with_reducible refine LeO.bind ?_ (fun _ => ?_))
      | exact ih0 _ _ _ _ _ _ _ _ _
      | exact ih1 _ _ _ _ _ _ _ _ _ _
      | exact ih2 _ _ _ _ _ _ _ _ _ _ _ _ _ _ _
      | exact ih3 _ _ _ _ _ _ _ _ _ _ _ _ _ _
      | exact ih4 _ _ _ _ _ _ _ _ _ _ _ _ _ _
      | exact control_Controller_Mark.mono _ _ _ _ _ _ _ _ _ _
      | exact geyserlaw21_awake.mono _
      | exact LeO.none _
      | refine LeO.ite ?_ ?_
      | refine LeO.bind ?_ (fun _ => ?_)
    · intro y0 y1 y2 y3 y4 y5 y6 y7 y8 y9 y10 y11 y12 y13
      unfold geyserlaw21_ControlRises.j4
      repeat' first
      | (with_reducible exact ih0 _ _ _ _ _ _ _ _ _)
      | (with_reducible exact ih1 _ _ _ _ _ _ _ _ _ _)
      | (with_reducible exact ih2 _ _ _ _ _ _ _ _ _ _ _ _ _ _ _)
      | (with_reducible exact ih3 _ _ _ _ _ _ _ _ _ _ _ _ _ _)
      | (with_reducible exact ih4 _ _ _ _ _ _ _ _ _ _ _ _ _ _)
      | (with_reducible exact control_Controller_Mark.mono _ _ _ _ _ _ _ _ _ _)
      | (with_reducible exact geyserlaw21_awake.mono _)
      | (with_reducible exact LeO.refl _)
      | (with_reducible exact LeO.none _)
      | (with_reducible refine LeO.ite ?_ ?_)
      | (with_reducible refine LeO.bind ?_ (fun _ => ?_))
      | exact ih0 _ _ _ _ _ _ _ _ _
      | exact ih1 _ _ _ _ _ _ _ _ _ _
      | exact ih2 _ _ _ _ _ _ _ _ _ _ _ _ _ _ _
      | exact ih3 _ _ _ _ _ _ _ _ _ _ _ _ _ _
      | exact ih4 _ _ _ _ _ _ _ _ _ _ _ _ _ _
      | exact control_Controller_Mark.mono _ _ _ _ _ _ _ _ _ _
      | exact geyserlaw21_awake.mono _
      | exact LeO.none _
      | refine LeO.ite ?_ ?_
      | refine LeO.bind ?_ (fun _ => ?_)
theorem geyserlaw21_ControlRises.mono : ∀ a0 a1 a2 k, LeO (geyserlaw21_ControlRises.f k a0 a1 a2) (geyserlaw21_ControlRises.f (k + 1) a0 a1 a2) := by
  intro a0 a1 a2 k
  obtain ⟨ih0, ih1, ih2, ih3, ih4⟩ := geyserlaw21_ControlRises.mono_l k
  unfold geyserlaw21_ControlRises.f
  repeat' first
      | (with_reducible exact ih0 _ _ _ _ _ _ _ _ _)
      | (with_reducible exact ih1 _ _ _ _ _ _ _ _ _ _)
      | (with_reducible exact ih2 _ _ _ _ _ _ _ _ _ _ _ _ _ _ _)
      | (with_reducible exact ih3 _ _ _ _ _ _ _ _ _ _ _ _ _ _)
      | (with_reducible exact ih4 _ _ _ _ _ _ _ _ _ _ _ _ _ _)
      | (with_reducible exact control_Controller_Mark.mono _ _ _ _ _ _ _ _ _ _)
      | (with_reducible exact geyserlaw21_awake.mono _)
      | (with_reducible exact LeO.refl _)
      | (with_reducible exact LeO.none _)
      | (with_reducible refine LeO.ite ?_ ?_)
      | (with_reducible refine LeO.bind ?_ (fun _ => ?_))
      | exact ih0 _ _ _ _ _ _ _ _ _
      | exact ih1 _ _ _ _ _ _ _ _ _ _
      | exact ih2 _ _ _ _ _ _ _ _ _ _ _ _ _ _ _
      | exact ih3 _ _ _ _ _ _ _ _ _ _ _ _ _ _
      | exact ih4 _ _ _ _ _ _ _ _ _ _ _ _ _ _
      | exact control_Controller_Mark.mono _ _ _ _ _ _ _ _ _ _
      | exact geyserlaw21_awake.mono _
      | exact LeO.none _
      | refine LeO.ite ?_ ?_
      | refine LeO.bind ?_ (fun _ => ?_)
set_option maxHeartbeats 8000000 in
set_option maxRecDepth 100000 in
theorem geyserlaw21_ControlRises.calls (k : Nat) (a0 : Int) (a1 : Int) (A2 : Option Addr) (c2 : Nat) (l2 : List (S32)) (r : Bool) (w : World) (hr2 : Kd.C k32 w A2 l2.length l2) (hc2 : l2.length ≤ c2) (h : geyserlaw21_ControlRises.f k a0 a1 l2 = some r) :
    Calls Try.prog 4 #[.int .i64 a0, .int .i64 a1, .slice A2 l2.length c2] w fun e w' => e = .returned (.bool r) ∧ Below w.heap.size w w' := by
  have hu32 := Try.underlying32
  have hu28 := Try.underlying28
  have HR2 := Aside0.mk hr2
  have HC2 := Aside0.mk hc2
  clear hr2 hc2
  have HB := Aside0.mk (Below.refl w.heap.size w)
  have H : ((geyserlaw21_begin.f a0 a1).bind fun bt142 => (if bt142.2.2.2.2.2.2.2 = true then (geyserlaw21_ControlRises.l0 k l2 bt142.2.2.2.2.2.2.1 0 0 bt142.1 bt142.2.1 bt142.2.2.1 bt142.2.2.2.1 bt142.2.2.2.2.1) else (some false))) = some r := h
  clear h
  replace H := Option.bind_eq_some_iff.mp H
  obtain ⟨⟨t142, t143, t144, t145, t146, t148, t149, t150⟩, A40, H⟩ := H
  replace H : (if t150 = true then (geyserlaw21_ControlRises.l0 k l2 t149 0 0 t142 t143 t144 t145 t146) else (some false)) = some r := H
  have A4 := Aside0.mk A40
  clear A40
  by_cases c5 : t150 = true
  · subst c5
    have H1 : (geyserlaw21_ControlRises.l0 k l2 t149 0 0 t142 t143 t144 t145 t146) = some r := by rw [if_pos rfl] at H; exact H
    clear H
    have H := H1
    clear H1
    have H' := Aside0.mk H
    clear H
    go_enter Try.func4, Try.ntmps4
    go_wp2_with (first | ((with_reducible refine gate_callee (f := 7) rfl ?_); refine goesL_ (some 20) rfl rfl Try.func7 (by kernel_rfl) rfl #[.int .i64 a0, .int .i64 a1] rfl (by (try simp only [List.map_toArray, List.map_cons, List.map_nil]); first | done | rfl | (simp only [List.length_drop, List.length_take]; rfl)) ?_; (with_reducible refine (geyserlaw21_begin.calls a0 a1 t142 t143 t144 t145 t146 t148 t149 true w _ ?side1 A4.out).mono ?_); (case side1 => repeat (first | (with_reducible first | exact HB.out | apply below_alloc | apply pw_below_drewN | apply below_drew1) | exact HB.out)); rintro e w6 ⟨g147, rfl, hi, hb, hb2⟩; refine ⟨_, rfl, ?_⟩; have n0_ := Aside0.mk (hb); have n1_ := Aside0.mk (hi); clear HB; have HB := n0_; have HI147 := n1_; clear n0_ n1_; (try clear hb); (try clear hb2); (try clear hk); (try clear hi)))
    go_loopg [11, 12] k (fun kq v11 v12 w' => ∃ (x11_1 : Int) (x12_1 : Int) (x148000_1 : Int) (x148001_1 : Int) (x148002_1 : Int) (x148003_1 : Int) (x148004_1 : Bool), v11 = .int .i64 x11_1 ∧ v12 = .int .i64 x12_1 ∧ Aside0 (geyserlaw21_ControlRises.l0 kq l2 t149 x11_1 x12_1 x148000_1 x148001_1 x148002_1 x148003_1 x148004_1 = some r) ∧ Aside0 (kq ≤ k) ∧ Aside0 (IsS45 w w' g147 x148000_1 x148001_1 x148002_1 x148003_1 x148004_1) ∧ Aside0 (Below w.heap.size w w'))
    case atStart => exact ⟨(0), (0), (t142), (t143), (t144), (t145), (t146), (by first | rfl | (simp; done) | (simp [*]; done)), (by first | rfl | (simp; done) | (simp [*]; done)), H', ⟨Nat.le_refl _⟩, ⟨by repeat (first | (with_reducible first | exact HI147.out | apply IsS45.alloc | apply IsS45.drewN | apply IsS45.drew | apply IsS45.set_0 | apply IsS45.set_1 | apply IsS45.set_2 | apply IsS45.set_3 | apply IsS45.set_4) | exact HI147.out)⟩, ⟨by repeat (first | (with_reducible first | exact HB.out | apply below_alloc | apply pw_below_drewN | apply below_drew1 | refine below_set ?_ (IsS45.ge HI147.out)) | exact HB.out)⟩⟩
    case round =>
      clear H'
      try clear c2
      try clear p2
      try clear c4
      try clear c5
      obtain ⟨x11_1, x12_1, x148000_1, x148001_1, x148002_1, x148003_1, x148004_1, rfl, rfl, HA, HK1, HI147, HB⟩ := hrel
      cases gk with
      | zero => exact absurd HA.out (by simp [geyserlaw21_ControlRises.l0])
      | succ k1 =>
        have H := HA.out
        clear HA
        simp only [geyserlaw21_ControlRises.l0] at H
        have HC7 := Aside0.mk H
        clear H
        go_upto_region 6 with (fail)
        go_cut [34] (fun v34 wc => ∃ (kq : Nat) (x34_6 : Bool), v34 = .bool x34_6 ∧ Aside0 (geyserlaw21_ControlRises.j1 kq l2 t149 x11_1 x12_1 x34_6 x148000_1 x148001_1 x148002_1 x148003_1 x148004_1 = some r) ∧ Aside0 (kq ≤ k1) ∧ Aside0 (IsS45 w wc g147 x148000_1 x148001_1 x148002_1 x148003_1 x148004_1) ∧ Aside0 (Below w.heap.size w wc))
        case first =>
          have H := HC7.out
          clear HC7
          by_cases c8 : x12_1 < (l2.length : Int)
          · rw [if_pos c8] at H
            have c8b0 : decide (x12_1 < (l2.length : Int)) = true := decide_eq_true c8
            clear c8
            (first | rw [c8b0] | (simp only [i64_w, i32_w]; rw [c8b0]) | skip)
            have H' := Aside0.mk H
            clear H
            go_wp2
            go_meet
            case rel => exact ⟨_, (decide (x12_1 < 200)), (by first | rfl | (simp; done) | (simp [*]; done)), H', ⟨by have := HK1.out; first | omega | exact Nat.le_refl _⟩, ⟨by repeat (first | (with_reducible first | exact HI147.out | apply IsS45.alloc | apply IsS45.drewN | apply IsS45.drew | apply IsS45.set_0 | apply IsS45.set_1 | apply IsS45.set_2 | apply IsS45.set_3 | apply IsS45.set_4) | exact HI147.out)⟩, ⟨by repeat (first | (with_reducible first | exact HB.out | apply below_alloc | apply pw_below_drewN | apply below_drew1 | refine below_set ?_ (IsS45.ge HI147.out)) | exact HB.out)⟩⟩
          · rw [if_neg c8] at H
            have c8b0 : decide (x12_1 < (l2.length : Int)) = false := decide_eq_false c8
            clear c8
            (first | rw [c8b0] | (simp only [i64_w, i32_w]; rw [c8b0]) | skip)
            have H' := Aside0.mk H
            clear H
            go_wp2
            go_meet
            case rel => exact ⟨_, (false), (by first | rfl | (simp; done) | (simp [*]; done)), H', ⟨by have := HK1.out; first | omega | exact Nat.le_refl _⟩, ⟨by repeat (first | (with_reducible first | exact HI147.out | apply IsS45.alloc | apply IsS45.drewN | apply IsS45.drew | apply IsS45.set_0 | apply IsS45.set_1 | apply IsS45.set_2 | apply IsS45.set_3 | apply IsS45.set_4) | exact HI147.out)⟩, ⟨by repeat (first | (with_reducible first | exact HB.out | apply below_alloc | apply pw_below_drewN | apply below_drew1 | refine below_set ?_ (IsS45.ge HI147.out)) | exact HB.out)⟩⟩
        case rest =>
          clear HC7
          try clear c2
          try clear p2
          try clear c4
          try clear c5
          try clear c7
          try clear c8
          try clear c8b0
          try clear p2
          obtain ⟨kq, x34_6, rfl, HA, HJ6, HI147, HB⟩ := hcut
          cases kq with
          | zero => exact absurd HA.out (by simp [geyserlaw21_ControlRises.j1])
          | succ kj6 =>
            have H := HA.out
            clear HA
            simp only [geyserlaw21_ControlRises.j1] at H
            by_cases c9 : x34_6 = true
            · subst c9
              have H1 : (if 0 ≤ x12_1 then (if x12_1 < (l2.length : Int) then ((geyserlaw21_fit.f ((rd_T32 l2 x12_1).f0) ((rd_T32 l2 x12_1).f1) ((rd_T32 l2 x12_1).f2) ((rd_T32 l2 x12_1).f3)).bind fun bt153 => ((control_Controller_Level.f x148000_1 x148001_1 x148002_1 x148003_1 x148004_1).bind fun bt158 => (if bt153.2.1 = true then (if bt153.1 = true then (geyserlaw21_ControlRises.j2 kj6 l2 t149 x11_1 x12_1 bt158.1 (!bt153.2.2.1) bt158.2.1 bt158.2.2.1 bt158.2.2.2.1 bt158.2.2.2.2.1 bt158.2.2.2.2.2 bt153.1 bt153.2.1 bt153.2.2.1 bt153.2.2.2) else (geyserlaw21_ControlRises.j2 kj6 l2 t149 x11_1 x12_1 bt158.1 false bt158.2.1 bt158.2.2.1 bt158.2.2.2.1 bt158.2.2.2.2.1 bt158.2.2.2.2.2 bt153.1 bt153.2.1 bt153.2.2.1 bt153.2.2.2)) else (geyserlaw21_ControlRises.j2 kj6 l2 t149 x11_1 x12_1 bt158.1 false bt158.2.1 bt158.2.2.1 bt158.2.2.2.1 bt158.2.2.2.2.1 bt158.2.2.2.2.2 bt153.1 bt153.2.1 bt153.2.2.1 bt153.2.2.2)))) else (none)) else (none)) = some r := by rw [if_pos rfl] at H; exact H
              clear H
              have H := H1
              clear H1
              by_cases c10 : 0 ≤ x12_1
              · rw [if_pos c10] at H
                have c10b0 : decide (0 ≤ x12_1) = true := decide_eq_true c10
                clear c10
                by_cases c11 : x12_1 < (l2.length : Int)
                · rw [if_pos c11] at H
                  have c11b0 : decide (x12_1 < (l2.length : Int)) = true := decide_eq_true c11
                  clear c11
                  replace H := Option.bind_eq_some_iff.mp H
                  obtain ⟨⟨t153, t154, t155, t156⟩, A120, H⟩ := H
                  replace H : ((control_Controller_Level.f x148000_1 x148001_1 x148002_1 x148003_1 x148004_1).bind fun bt158 => (if t154 = true then (if t153 = true then (geyserlaw21_ControlRises.j2 kj6 l2 t149 x11_1 x12_1 bt158.1 (!t155) bt158.2.1 bt158.2.2.1 bt158.2.2.2.1 bt158.2.2.2.2.1 bt158.2.2.2.2.2 t153 t154 t155 t156) else (geyserlaw21_ControlRises.j2 kj6 l2 t149 x11_1 x12_1 bt158.1 false bt158.2.1 bt158.2.2.1 bt158.2.2.2.1 bt158.2.2.2.2.1 bt158.2.2.2.2.2 t153 t154 t155 t156)) else (geyserlaw21_ControlRises.j2 kj6 l2 t149 x11_1 x12_1 bt158.1 false bt158.2.1 bt158.2.2.1 bt158.2.2.2.1 bt158.2.2.2.2.1 bt158.2.2.2.2.2 t153 t154 t155 t156))) = some r := H
                  have A12 := Aside0.mk A120
                  clear A120
                  replace H := Option.bind_eq_some_iff.mp H
                  obtain ⟨⟨t158, t159, t160, t161, t162, t163⟩, A130, H⟩ := H
                  replace H : (if t154 = true then (if t153 = true then (geyserlaw21_ControlRises.j2 kj6 l2 t149 x11_1 x12_1 t158 (!t155) t159 t160 t161 t162 t163 t153 t154 t155 t156) else (geyserlaw21_ControlRises.j2 kj6 l2 t149 x11_1 x12_1 t158 false t159 t160 t161 t162 t163 t153 t154 t155 t156)) else (geyserlaw21_ControlRises.j2 kj6 l2 t149 x11_1 x12_1 t158 false t159 t160 t161 t162 t163 t153 t154 t155 t156)) = some r := H
                  have A13 := Aside0.mk A130
                  clear A130
                  have HC14 := Aside0.mk H
                  clear H
                  have p152 : 0 ≤ (x12_1 : Int) := of_decide_eq_true (by first | (with_reducible assumption) | assumption)
                  have q152 : x12_1 < (l2.length : Int) := of_decide_eq_true (by first | (with_reducible assumption) | assumption)
                  obtain ⟨ad152, e152, hx152_0, hx152_1, hx152_2, hx152_3⟩ := at_T32 HR2.out x12_1 p152 q152
                  cases e152
                  replace hx152_0 := (HB.out.cell (World.block_lt_of_cell? w _ hx152_0)).trans hx152_0
                  replace hx152_1 := (HB.out.cell (World.block_lt_of_cell? w _ hx152_1)).trans hx152_1
                  replace hx152_2 := (HB.out.cell (World.block_lt_of_cell? w _ hx152_2)).trans hx152_2
                  replace hx152_3 := (HB.out.cell (World.block_lt_of_cell? w _ hx152_3)).trans hx152_3
                  replace p152 := eq_true p152
                  replace q152 := eq_true q152
                  go_upto_region 10 with (first | ((with_reducible refine gate_callee (f := 10) rfl ?_); refine goesL_ (some 41) rfl rfl Try.func10 (by kernel_rfl) rfl #[.agg #[.bool ((rd_T32 l2 x12_1).f0), .bool ((rd_T32 l2 x12_1).f1), .bool ((rd_T32 l2 x12_1).f2), .int .i64 ((rd_T32 l2 x12_1).f3)]] rfl (by (try simp only [List.map_toArray, List.map_cons, List.map_nil]); first | done | rfl | (simp only [List.length_drop, List.length_take]; rfl)) ?_; (with_reducible refine (geyserlaw21_fit.calls ((rd_T32 l2 x12_1).f0) ((rd_T32 l2 x12_1).f1) ((rd_T32 l2 x12_1).f2) ((rd_T32 l2 x12_1).f3) t153 t154 t155 t156 _ A12.out).mono ?_); rintro e w15 ⟨rfl, hb⟩; refine ⟨_, rfl, ?_⟩; have n0_ := Aside0.mk (IsS45.below (by repeat (first | (with_reducible first | exact HI147.out | apply IsS45.alloc | apply IsS45.drewN | apply IsS45.drew | apply IsS45.set_0 | apply IsS45.set_1 | apply IsS45.set_2 | apply IsS45.set_3 | apply IsS45.set_4) | exact HI147.out)) hb); have n1_ := Aside0.mk (below_step (by repeat (first | (with_reducible first | exact HB.out | apply below_alloc | apply pw_below_drewN | apply below_drew1 | refine below_set ?_ (IsS45.ge HI147.out)) | exact HB.out)) hb); clear HI147; clear HB; have HI147 := n0_; have HB := n1_; clear n0_ n1_; (try clear hb); (try clear hb2); (try clear hk); (try clear hi)) | ((with_reducible refine gate_dst (N := 13) rfl ?_); refine box_event ?hg (N := 13) ?hd (cs := #[.bool false, .bool false, .bool false, .int .i64 0]) (t := 32) ?hr ?_; (case hd => rfl); (case hg => rfl); (case hr => first | (go_simp; done) | (go_simp; rfl)); intro gb157 hg w16 hbox hb; have n0_ := Aside0.mk (IsS45.below (by repeat (first | (with_reducible first | exact HI147.out | apply IsS45.alloc | apply IsS45.drewN | apply IsS45.drew | apply IsS45.set_0 | apply IsS45.set_1 | apply IsS45.set_2 | apply IsS45.set_3 | apply IsS45.set_4) | exact HI147.out)) hb); have n1_ := Aside0.mk (below_step (by repeat (first | (with_reducible first | exact HB.out | apply below_alloc | apply pw_below_drewN | apply below_drew1 | refine below_set ?_ (IsS45.ge HI147.out)) | exact HB.out)) hb); have n2_ := Aside0.mk (hbox); have n3_ := Aside0.mk ((by rw [hg]; exact (below_size (by repeat (first | (with_reducible first | exact HB.out | apply below_alloc | apply pw_below_drewN | apply below_drew1 | refine below_set ?_ (IsS45.ge HI147.out)) | exact HB.out))) : w.heap.size ≤ gb157)); have n4_ := Aside0.mk ((by rw [hg]; exact (below_size (by repeat (first | (with_reducible first | exact HB.out | apply below_alloc | apply pw_below_drewN | apply below_drew1 | refine below_set ?_ (IsS45.ge HI147.out)) | exact HB.out))) : w.heap.size ≤ gb157)); have n5_ := Aside0.mk ((by rw [hg]; exact Nat.ne_of_lt (IsS45.lt (show IsS45 w _ g147 x148000_1 x148001_1 x148002_1 x148003_1 x148004_1 from by repeat (first | (with_reducible first | exact HI147.out | apply IsS45.alloc | apply IsS45.drewN | apply IsS45.drew | apply IsS45.set_0 | apply IsS45.set_1 | apply IsS45.set_2 | apply IsS45.set_3 | apply IsS45.set_4) | exact HI147.out))) : g147 ≠ gb157)); have n6_ := Aside0.mk ((by rw [hg]; exact Nat.ne_of_gt (IsS45.lt (show IsS45 w _ g147 x148000_1 x148001_1 x148002_1 x148003_1 x148004_1 from by repeat (first | (with_reducible first | exact HI147.out | apply IsS45.alloc | apply IsS45.drewN | apply IsS45.drew | apply IsS45.set_0 | apply IsS45.set_1 | apply IsS45.set_2 | apply IsS45.set_3 | apply IsS45.set_4) | exact HI147.out))) : gb157 ≠ g147)); clear HI147; clear HB; have HI147 := n0_; have HB := n1_; have BK157 := n2_; have GW157 := n3_; have GE157 := n4_; have NB147_157 := n5_; have NB157_147 := n6_; clear n0_ n1_ n2_ n3_ n4_ n5_ n6_; clear hb hbox hg; have hnb17 := NB157_147.out; have hnc17 := NB147_157.out; have hcz18_0 : w16.cell? ⟨gb157, 0, none⟩ = some (.bool false) := (blk_cell BK157.out 0).trans rfl; have hcz18_1 : w16.cell? ⟨gb157, 1, none⟩ = some (.bool false) := (blk_cell BK157.out 1).trans rfl; have hcz18_2 : w16.cell? ⟨gb157, 2, none⟩ = some (.bool false) := (blk_cell BK157.out 2).trans rfl; have hcz18_3 : w16.cell? ⟨gb157, 3, none⟩ = some (.int .i64 0) := (blk_cell BK157.out 3).trans rfl; have hfz18_0 := blk_frozen BK157.out 0; have hfz18_1 := blk_frozen BK157.out 1; have hfz18_2 := blk_frozen BK157.out 2; have hfz18_3 := blk_frozen BK157.out 3) | ((with_reducible refine gate_callee (f := 8) rfl ?_); refine goesL_ (some 43) rfl rfl Try.func8 (by kernel_rfl) rfl #[.pointer (some ⟨g147, 0, none⟩)] rfl (by (try simp only [List.map_toArray, List.map_cons, List.map_nil]); first | done | rfl | (simp only [List.length_drop, List.length_take]; rfl)) ?_; (with_reducible refine (control_Controller_Level.calls g147 x148000_1 x148001_1 x148002_1 x148003_1 x148004_1 t158 t159 t160 t161 t162 t163 w _ ?side1 ?side2 A13.out).mono ?_); (case side1 => repeat (first | (with_reducible first | exact HI147.out | apply IsS45.alloc | apply IsS45.drewN | apply IsS45.drew | apply IsS45.set_0 | apply IsS45.set_1 | apply IsS45.set_2 | apply IsS45.set_3 | apply IsS45.set_4 | refine IsS45.far ?_ NB147_157.out _) | exact HI147.out)); (case side2 => repeat (first | (with_reducible first | exact HB.out | apply below_alloc | apply pw_below_drewN | apply below_drew1 | refine below_set ?_ (IsS45.ge HI147.out) | refine below_set ?_ GE157.out) | exact HB.out)); rintro e w19 ⟨rfl, hi, hb, hk⟩; refine ⟨_, rfl, ?_⟩; have n0_ := Aside0.mk (KeepBut.blk hk (g' := gb157) (o := .cells #[.bool t153, .bool t154, .bool t155, .int .i64 t156] 32 (0, 0)) (by (with_reducible repeat (first | refine blk_drewN ?_ _ | refine blk_drew ?_ | refine blk_alloc ?_ _)); refine blk_put (cs := #[.bool t153, .bool t154, .bool t155, .int .i64 0]) ?_ 3 _ rfl; (with_reducible repeat (first | refine blk_drewN ?_ _ | refine blk_drew ?_ | refine blk_alloc ?_ _)); refine blk_put (cs := #[.bool t153, .bool t154, .bool false, .int .i64 0]) ?_ 2 _ rfl; (with_reducible repeat (first | refine blk_drewN ?_ _ | refine blk_drew ?_ | refine blk_alloc ?_ _)); refine blk_put (cs := #[.bool t153, .bool false, .bool false, .int .i64 0]) ?_ 1 _ rfl; (with_reducible repeat (first | refine blk_drewN ?_ _ | refine blk_drew ?_ | refine blk_alloc ?_ _)); refine blk_put (cs := #[.bool false, .bool false, .bool false, .int .i64 0]) ?_ 0 _ rfl; (with_reducible repeat (first | refine blk_drewN ?_ _ | refine blk_drew ?_ | refine blk_alloc ?_ _)); exact BK157.out) NB157_147.out (by simp)); have n1_ := Aside0.mk (hb); have n2_ := Aside0.mk (hi); clear BK157; clear HB; clear HI147; have BK157 := n0_; have HB := n1_; have HI147 := n2_; clear n0_ n1_ n2_; (try clear hb); (try clear hb2); (try clear hk); (try clear hi)))
                  (try simp only [Act.put, List.setIfInBounds_toArray, List.set_cons_zero, List.set_cons_succ])
                  go_cut [54] (fun v54 wc => ∃ (kq : Nat) (x54_13 : Bool), v54 = .bool x54_13 ∧ Aside0 (geyserlaw21_ControlRises.j2 kq l2 t149 x11_1 x12_1 t158 x54_13 t159 t160 t161 t162 t163 t153 t154 t155 t156 = some r) ∧ Aside0 (kq ≤ kj6) ∧ Aside0 (wc.heap[gb157]? = some (.cells #[.bool t153, .bool t154, .bool t155, .int .i64 t156] 32 (0, 0))) ∧ Aside0 (IsS45 w wc g147 t159 t160 t161 t162 t163) ∧ Aside0 (Below w.heap.size w wc))
                  case first =>
                    have H := HC14.out
                    clear HC14
                    by_cases c20 : t154 = true
                    · subst c20
                      have H1 : (if t153 = true then (geyserlaw21_ControlRises.j2 kj6 l2 t149 x11_1 x12_1 t158 (!t155) t159 t160 t161 t162 t163 t153 true t155 t156) else (geyserlaw21_ControlRises.j2 kj6 l2 t149 x11_1 x12_1 t158 false t159 t160 t161 t162 t163 t153 true t155 t156)) = some r := by rw [if_pos rfl] at H; exact H
                      clear H
                      have H := H1
                      clear H1
                      by_cases c21 : t153 = true
                      · subst c21
                        have H1 : (geyserlaw21_ControlRises.j2 kj6 l2 t149 x11_1 x12_1 t158 (!t155) t159 t160 t161 t162 t163 true true t155 t156) = some r := by rw [if_pos rfl] at H; exact H
                        clear H
                        have H := H1
                        clear H1
                        have H' := Aside0.mk H
                        clear H
                        have hnb22 := NB157_147.out
                        have hnc22 := NB147_157.out
                        have hcz23_0 : w19.cell? ⟨gb157, 0, none⟩ = some (.bool true) := (blk_cell BK157.out 0).trans rfl
                        have hcz23_1 : w19.cell? ⟨gb157, 1, none⟩ = some (.bool true) := (blk_cell BK157.out 1).trans rfl
                        have hcz23_2 : w19.cell? ⟨gb157, 2, none⟩ = some (.bool t155) := (blk_cell BK157.out 2).trans rfl
                        have hcz23_3 : w19.cell? ⟨gb157, 3, none⟩ = some (.int .i64 t156) := (blk_cell BK157.out 3).trans rfl
                        have hfz23_0 := blk_frozen BK157.out 0
                        have hfz23_1 := blk_frozen BK157.out 1
                        have hfz23_2 := blk_frozen BK157.out 2
                        have hfz23_3 := blk_frozen BK157.out 3
                        go_wp2
                        go_meet
                        case rel => exact ⟨_, (!t155), (by first | rfl | (simp; done) | (simp [*]; done)), H', ⟨by have := HK1.out; have := HJ6.out; first | omega | exact Nat.le_refl _⟩, ⟨by (with_reducible repeat (first | refine blk_drewN ?_ _ | refine blk_drew ?_ | refine blk_alloc ?_ _)); exact BK157.out⟩, ⟨by repeat (first | (with_reducible first | exact HI147.out | apply IsS45.alloc | apply IsS45.drewN | apply IsS45.drew | apply IsS45.set_0 | apply IsS45.set_1 | apply IsS45.set_2 | apply IsS45.set_3 | apply IsS45.set_4 | refine IsS45.far ?_ NB147_157.out _) | exact HI147.out)⟩, ⟨by repeat (first | (with_reducible first | exact HB.out | apply below_alloc | apply pw_below_drewN | apply below_drew1 | refine below_set ?_ (IsS45.ge HI147.out) | refine below_set ?_ GE157.out) | exact HB.out)⟩⟩
                      · replace c21 := Bool.eq_false_iff.mpr c21
                        subst c21
                        have H1 : (geyserlaw21_ControlRises.j2 kj6 l2 t149 x11_1 x12_1 t158 false t159 t160 t161 t162 t163 false true t155 t156) = some r := by rw [if_neg (show ¬ (false = true) by decide)] at H; exact H
                        clear H
                        have H := H1
                        clear H1
                        have H' := Aside0.mk H
                        clear H
                        have hnb24 := NB157_147.out
                        have hnc24 := NB147_157.out
                        have hcz25_0 : w19.cell? ⟨gb157, 0, none⟩ = some (.bool false) := (blk_cell BK157.out 0).trans rfl
                        have hcz25_1 : w19.cell? ⟨gb157, 1, none⟩ = some (.bool true) := (blk_cell BK157.out 1).trans rfl
                        have hcz25_2 : w19.cell? ⟨gb157, 2, none⟩ = some (.bool t155) := (blk_cell BK157.out 2).trans rfl
                        have hcz25_3 : w19.cell? ⟨gb157, 3, none⟩ = some (.int .i64 t156) := (blk_cell BK157.out 3).trans rfl
                        have hfz25_0 := blk_frozen BK157.out 0
                        have hfz25_1 := blk_frozen BK157.out 1
                        have hfz25_2 := blk_frozen BK157.out 2
                        have hfz25_3 := blk_frozen BK157.out 3
                        go_wp2
                        go_meet
                        case rel => exact ⟨_, (false), (by first | rfl | (simp; done) | (simp [*]; done)), H', ⟨by have := HK1.out; have := HJ6.out; first | omega | exact Nat.le_refl _⟩, ⟨by (with_reducible repeat (first | refine blk_drewN ?_ _ | refine blk_drew ?_ | refine blk_alloc ?_ _)); exact BK157.out⟩, ⟨by repeat (first | (with_reducible first | exact HI147.out | apply IsS45.alloc | apply IsS45.drewN | apply IsS45.drew | apply IsS45.set_0 | apply IsS45.set_1 | apply IsS45.set_2 | apply IsS45.set_3 | apply IsS45.set_4 | refine IsS45.far ?_ NB147_157.out _) | exact HI147.out)⟩, ⟨by repeat (first | (with_reducible first | exact HB.out | apply below_alloc | apply pw_below_drewN | apply below_drew1 | refine below_set ?_ (IsS45.ge HI147.out) | refine below_set ?_ GE157.out) | exact HB.out)⟩⟩
                    · replace c20 := Bool.eq_false_iff.mpr c20
                      subst c20
                      have H1 : (geyserlaw21_ControlRises.j2 kj6 l2 t149 x11_1 x12_1 t158 false t159 t160 t161 t162 t163 t153 false t155 t156) = some r := by rw [if_neg (show ¬ (false = true) by decide)] at H; exact H
                      clear H
                      have H := H1
                      clear H1
                      have H' := Aside0.mk H
                      clear H
                      have hnb26 := NB157_147.out
                      have hnc26 := NB147_157.out
                      have hcz27_0 : w19.cell? ⟨gb157, 0, none⟩ = some (.bool t153) := (blk_cell BK157.out 0).trans rfl
                      have hcz27_1 : w19.cell? ⟨gb157, 1, none⟩ = some (.bool false) := (blk_cell BK157.out 1).trans rfl
                      have hcz27_2 : w19.cell? ⟨gb157, 2, none⟩ = some (.bool t155) := (blk_cell BK157.out 2).trans rfl
                      have hcz27_3 : w19.cell? ⟨gb157, 3, none⟩ = some (.int .i64 t156) := (blk_cell BK157.out 3).trans rfl
                      have hfz27_0 := blk_frozen BK157.out 0
                      have hfz27_1 := blk_frozen BK157.out 1
                      have hfz27_2 := blk_frozen BK157.out 2
                      have hfz27_3 := blk_frozen BK157.out 3
                      go_wp2
                      go_meet
                      case rel => exact ⟨_, (false), (by first | rfl | (simp; done) | (simp [*]; done)), H', ⟨by have := HK1.out; have := HJ6.out; first | omega | exact Nat.le_refl _⟩, ⟨by (with_reducible repeat (first | refine blk_drewN ?_ _ | refine blk_drew ?_ | refine blk_alloc ?_ _)); exact BK157.out⟩, ⟨by repeat (first | (with_reducible first | exact HI147.out | apply IsS45.alloc | apply IsS45.drewN | apply IsS45.drew | apply IsS45.set_0 | apply IsS45.set_1 | apply IsS45.set_2 | apply IsS45.set_3 | apply IsS45.set_4 | refine IsS45.far ?_ NB147_157.out _) | exact HI147.out)⟩, ⟨by repeat (first | (with_reducible first | exact HB.out | apply below_alloc | apply pw_below_drewN | apply below_drew1 | refine below_set ?_ (IsS45.ge HI147.out) | refine below_set ?_ GE157.out) | exact HB.out)⟩⟩
                  case rest =>
                    clear HC14
                    try clear c1
                    try clear p1
                    try clear q1
                    try clear hx1
                    try clear c2
                    try clear p2
                    try clear c4
                    try clear c5
                    try clear c7
                    try clear c8
                    try clear c8b0
                    try clear c9
                    try clear c10
                    try clear c10b0
                    try clear c11
                    try clear c11b0
                    try clear p15
                    try clear q15
                    try clear hx15
                    try clear c17
                    try clear c20
                    try clear c21
                    try clear c22
                    try clear c24
                    try clear c26
                    try clear hcz18_0
                    try clear hcz18_1
                    try clear hcz18_2
                    try clear hcz18_3
                    try clear hcz23_0
                    try clear hcz23_1
                    try clear hcz23_2
                    try clear hcz23_3
                    try clear hcz25_0
                    try clear hcz25_1
                    try clear hcz25_2
                    try clear hcz25_3
                    try clear hcz27_0
                    try clear hcz27_1
                    try clear hcz27_2
                    try clear hcz27_3
                    try clear hfz18_0
                    try clear hfz18_1
                    try clear hfz18_2
                    try clear hfz18_3
                    try clear hfz23_0
                    try clear hfz23_1
                    try clear hfz23_2
                    try clear hfz23_3
                    try clear hfz25_0
                    try clear hfz25_1
                    try clear hfz25_2
                    try clear hfz25_3
                    try clear hfz27_0
                    try clear hfz27_1
                    try clear hfz27_2
                    try clear hfz27_3
                    try clear hx152_0
                    try clear hx152_1
                    try clear hx152_2
                    try clear hx152_3
                    try clear p152
                    try clear p2
                    try clear q152
                    obtain ⟨kq, x54_13, rfl, HA, HJ13, BK157, HI147, HB⟩ := hcut
                    cases kq with
                    | zero => exact absurd HA.out (by simp [geyserlaw21_ControlRises.j2])
                    | succ kj13 =>
                      have H := HA.out
                      clear HA
                      simp only [geyserlaw21_ControlRises.j2] at H
                      have HC28 := Aside0.mk H
                      clear H
                      go_upto_if 54 with (fail)
                      go_cut [11] (fun v11 wc => ∃ (kq : Nat) (x11_27 : Int), v11 = .int .i64 x11_27 ∧ Aside0 (geyserlaw21_ControlRises.j3 kq l2 t149 x11_27 x12_1 t158 t159 t160 t161 t162 t163 t153 t154 t155 t156 = some r) ∧ Aside0 (kq ≤ kj13) ∧ Aside0 (wc.heap[gb157]? = some (.cells #[.bool t153, .bool t154, .bool t155, .int .i64 t156] 32 (0, 0))) ∧ Aside0 (IsS45 w wc g147 t159 t160 t161 t162 t163) ∧ Aside0 (Below w.heap.size w wc))
                      case first =>
                        have H := HC28.out
                        clear HC28
                        by_cases c29 : x54_13 = true
                        · subst c29
                          have H1 : (geyserlaw21_ControlRises.j3 kj13 l2 t149 (wrap64 (x11_1 + 1)) x12_1 t158 t159 t160 t161 t162 t163 t153 t154 t155 t156) = some r := by rw [if_pos rfl] at H; exact H
                          clear H
                          have H := H1
                          clear H1
                          have H' := Aside0.mk H
                          clear H
                          go_wp2
                          go_meet
                          case rel => exact ⟨_, (wrap64 (x11_1 + 1)), (by first | rfl | (simp; done) | (simp [*]; done)), H', ⟨by have := HK1.out; have := HJ6.out; have := HJ13.out; first | omega | exact Nat.le_refl _⟩, ⟨by (with_reducible repeat (first | refine blk_drewN ?_ _ | refine blk_drew ?_ | refine blk_alloc ?_ _)); exact BK157.out⟩, ⟨by repeat (first | (with_reducible first | exact HI147.out | apply IsS45.alloc | apply IsS45.drewN | apply IsS45.drew | apply IsS45.set_0 | apply IsS45.set_1 | apply IsS45.set_2 | apply IsS45.set_3 | apply IsS45.set_4 | refine IsS45.far ?_ NB147_157.out _) | exact HI147.out)⟩, ⟨by repeat (first | (with_reducible first | exact HB.out | apply below_alloc | apply pw_below_drewN | apply below_drew1 | refine below_set ?_ (IsS45.ge HI147.out) | refine below_set ?_ GE157.out) | exact HB.out)⟩⟩
                        · replace c29 := Bool.eq_false_iff.mpr c29
                          subst c29
                          have H1 : (if t154 = true then (geyserlaw21_ControlRises.j3 kj13 l2 t149 0 x12_1 t158 t159 t160 t161 t162 t163 t153 t154 t155 t156) else (if t155 = true then (geyserlaw21_ControlRises.j3 kj13 l2 t149 0 x12_1 t158 t159 t160 t161 t162 t163 t153 t154 t155 t156) else (geyserlaw21_ControlRises.j3 kj13 l2 t149 x11_1 x12_1 t158 t159 t160 t161 t162 t163 t153 t154 t155 t156))) = some r := by rw [if_neg (show ¬ (false = true) by decide)] at H; exact H
                          clear H
                          have H := H1
                          clear H1
                          by_cases c30 : t154 = true
                          · subst c30
                            have H1 : (geyserlaw21_ControlRises.j3 kj13 l2 t149 0 x12_1 t158 t159 t160 t161 t162 t163 t153 true t155 t156) = some r := by rw [if_pos rfl] at H; exact H
                            clear H
                            have H := H1
                            clear H1
                            have H' := Aside0.mk H
                            clear H
                            have hnb31 := NB157_147.out
                            have hnc31 := NB147_157.out
                            have hcz32_0 : wc.cell? ⟨gb157, 0, none⟩ = some (.bool t153) := (blk_cell BK157.out 0).trans rfl
                            have hcz32_1 : wc.cell? ⟨gb157, 1, none⟩ = some (.bool true) := (blk_cell BK157.out 1).trans rfl
                            have hcz32_2 : wc.cell? ⟨gb157, 2, none⟩ = some (.bool t155) := (blk_cell BK157.out 2).trans rfl
                            have hcz32_3 : wc.cell? ⟨gb157, 3, none⟩ = some (.int .i64 t156) := (blk_cell BK157.out 3).trans rfl
                            have hfz32_0 := blk_frozen BK157.out 0
                            have hfz32_1 := blk_frozen BK157.out 1
                            have hfz32_2 := blk_frozen BK157.out 2
                            have hfz32_3 := blk_frozen BK157.out 3
                            go_wp2
                            go_meet
                            case rel => exact ⟨_, (0), (by first | rfl | (simp; done) | (simp [*]; done)), H', ⟨by have := HK1.out; have := HJ6.out; have := HJ13.out; first | omega | exact Nat.le_refl _⟩, ⟨by (with_reducible repeat (first | refine blk_drewN ?_ _ | refine blk_drew ?_ | refine blk_alloc ?_ _)); exact BK157.out⟩, ⟨by repeat (first | (with_reducible first | exact HI147.out | apply IsS45.alloc | apply IsS45.drewN | apply IsS45.drew | apply IsS45.set_0 | apply IsS45.set_1 | apply IsS45.set_2 | apply IsS45.set_3 | apply IsS45.set_4 | refine IsS45.far ?_ NB147_157.out _) | exact HI147.out)⟩, ⟨by repeat (first | (with_reducible first | exact HB.out | apply below_alloc | apply pw_below_drewN | apply below_drew1 | refine below_set ?_ (IsS45.ge HI147.out) | refine below_set ?_ GE157.out) | exact HB.out)⟩⟩
                          · replace c30 := Bool.eq_false_iff.mpr c30
                            subst c30
                            have H1 : (if t155 = true then (geyserlaw21_ControlRises.j3 kj13 l2 t149 0 x12_1 t158 t159 t160 t161 t162 t163 t153 false t155 t156) else (geyserlaw21_ControlRises.j3 kj13 l2 t149 x11_1 x12_1 t158 t159 t160 t161 t162 t163 t153 false t155 t156)) = some r := by rw [if_neg (show ¬ (false = true) by decide)] at H; exact H
                            clear H
                            have H := H1
                            clear H1
                            by_cases c33 : t155 = true
                            · subst c33
                              have H1 : (geyserlaw21_ControlRises.j3 kj13 l2 t149 0 x12_1 t158 t159 t160 t161 t162 t163 t153 false true t156) = some r := by rw [if_pos rfl] at H; exact H
                              clear H
                              have H := H1
                              clear H1
                              have H' := Aside0.mk H
                              clear H
                              have hnb34 := NB157_147.out
                              have hnc34 := NB147_157.out
                              have hcz35_0 : wc.cell? ⟨gb157, 0, none⟩ = some (.bool t153) := (blk_cell BK157.out 0).trans rfl
                              have hcz35_1 : wc.cell? ⟨gb157, 1, none⟩ = some (.bool false) := (blk_cell BK157.out 1).trans rfl
                              have hcz35_2 : wc.cell? ⟨gb157, 2, none⟩ = some (.bool true) := (blk_cell BK157.out 2).trans rfl
                              have hcz35_3 : wc.cell? ⟨gb157, 3, none⟩ = some (.int .i64 t156) := (blk_cell BK157.out 3).trans rfl
                              have hfz35_0 := blk_frozen BK157.out 0
                              have hfz35_1 := blk_frozen BK157.out 1
                              have hfz35_2 := blk_frozen BK157.out 2
                              have hfz35_3 := blk_frozen BK157.out 3
                              go_wp2
                              go_meet
                              case rel => exact ⟨_, (0), (by first | rfl | (simp; done) | (simp [*]; done)), H', ⟨by have := HK1.out; have := HJ6.out; have := HJ13.out; first | omega | exact Nat.le_refl _⟩, ⟨by (with_reducible repeat (first | refine blk_drewN ?_ _ | refine blk_drew ?_ | refine blk_alloc ?_ _)); exact BK157.out⟩, ⟨by repeat (first | (with_reducible first | exact HI147.out | apply IsS45.alloc | apply IsS45.drewN | apply IsS45.drew | apply IsS45.set_0 | apply IsS45.set_1 | apply IsS45.set_2 | apply IsS45.set_3 | apply IsS45.set_4 | refine IsS45.far ?_ NB147_157.out _) | exact HI147.out)⟩, ⟨by repeat (first | (with_reducible first | exact HB.out | apply below_alloc | apply pw_below_drewN | apply below_drew1 | refine below_set ?_ (IsS45.ge HI147.out) | refine below_set ?_ GE157.out) | exact HB.out)⟩⟩
                            · replace c33 := Bool.eq_false_iff.mpr c33
                              subst c33
                              have H1 : (geyserlaw21_ControlRises.j3 kj13 l2 t149 x11_1 x12_1 t158 t159 t160 t161 t162 t163 t153 false false t156) = some r := by rw [if_neg (show ¬ (false = true) by decide)] at H; exact H
                              clear H
                              have H := H1
                              clear H1
                              have H' := Aside0.mk H
                              clear H
                              have hnb36 := NB157_147.out
                              have hnc36 := NB147_157.out
                              have hcz37_0 : wc.cell? ⟨gb157, 0, none⟩ = some (.bool t153) := (blk_cell BK157.out 0).trans rfl
                              have hcz37_1 : wc.cell? ⟨gb157, 1, none⟩ = some (.bool false) := (blk_cell BK157.out 1).trans rfl
                              have hcz37_2 : wc.cell? ⟨gb157, 2, none⟩ = some (.bool false) := (blk_cell BK157.out 2).trans rfl
                              have hcz37_3 : wc.cell? ⟨gb157, 3, none⟩ = some (.int .i64 t156) := (blk_cell BK157.out 3).trans rfl
                              have hfz37_0 := blk_frozen BK157.out 0
                              have hfz37_1 := blk_frozen BK157.out 1
                              have hfz37_2 := blk_frozen BK157.out 2
                              have hfz37_3 := blk_frozen BK157.out 3
                              go_wp2
                              go_meet
                              case rel => exact ⟨_, (x11_1), (by first | rfl | (simp; done) | (simp [*]; done)), H', ⟨by have := HK1.out; have := HJ6.out; have := HJ13.out; first | omega | exact Nat.le_refl _⟩, ⟨by (with_reducible repeat (first | refine blk_drewN ?_ _ | refine blk_drew ?_ | refine blk_alloc ?_ _)); exact BK157.out⟩, ⟨by repeat (first | (with_reducible first | exact HI147.out | apply IsS45.alloc | apply IsS45.drewN | apply IsS45.drew | apply IsS45.set_0 | apply IsS45.set_1 | apply IsS45.set_2 | apply IsS45.set_3 | apply IsS45.set_4 | refine IsS45.far ?_ NB147_157.out _) | exact HI147.out)⟩, ⟨by repeat (first | (with_reducible first | exact HB.out | apply below_alloc | apply pw_below_drewN | apply below_drew1 | refine below_set ?_ (IsS45.ge HI147.out) | refine below_set ?_ GE157.out) | exact HB.out)⟩⟩
                      case rest =>
                        clear HC28
                        try clear c1
                        try clear p1
                        try clear q1
                        try clear hx1
                        try clear c2
                        try clear p2
                        try clear c3
                        try clear c4
                        try clear c5
                        try clear p6
                        try clear c7
                        try clear c8
                        try clear c8b0
                        try clear c9
                        try clear c10
                        try clear c10b0
                        try clear c11
                        try clear c11b0
                        try clear p15
                        try clear q15
                        try clear hx15
                        try clear c17
                        try clear c20
                        try clear c21
                        try clear c22
                        try clear c24
                        try clear c26
                        try clear c29
                        try clear c30
                        try clear c31
                        try clear c33
                        try clear c34
                        try clear c36
                        try clear hcz18_0
                        try clear hcz18_1
                        try clear hcz18_2
                        try clear hcz18_3
                        try clear hcz23_0
                        try clear hcz23_1
                        try clear hcz23_2
                        try clear hcz23_3
                        try clear hcz25_0
                        try clear hcz25_1
                        try clear hcz25_2
                        try clear hcz25_3
                        try clear hcz27_0
                        try clear hcz27_1
                        try clear hcz27_2
                        try clear hcz27_3
                        try clear hcz32_0
                        try clear hcz32_1
                        try clear hcz32_2
                        try clear hcz32_3
                        try clear hcz35_0
                        try clear hcz35_1
                        try clear hcz35_2
                        try clear hcz35_3
                        try clear hcz37_0
                        try clear hcz37_1
                        try clear hcz37_2
                        try clear hcz37_3
                        try clear hfz18_0
                        try clear hfz18_1
                        try clear hfz18_2
                        try clear hfz18_3
                        try clear hfz23_0
                        try clear hfz23_1
                        try clear hfz23_2
                        try clear hfz23_3
                        try clear hfz25_0
                        try clear hfz25_1
                        try clear hfz25_2
                        try clear hfz25_3
                        try clear hfz27_0
                        try clear hfz27_1
                        try clear hfz27_2
                        try clear hfz27_3
                        try clear hfz32_0
                        try clear hfz32_1
                        try clear hfz32_2
                        try clear hfz32_3
                        try clear hfz35_0
                        try clear hfz35_1
                        try clear hfz35_2
                        try clear hfz35_3
                        try clear hfz37_0
                        try clear hfz37_1
                        try clear hfz37_2
                        try clear hfz37_3
                        try clear hx152_0
                        try clear hx152_1
                        try clear hx152_2
                        try clear hx152_3
                        try clear p1
                        try clear p15
                        try clear p152
                        try clear p2
                        try clear q1
                        try clear q15
                        try clear q152
                        obtain ⟨kq, x11_27, rfl, HA, HJ27, BK157, HI147, HB⟩ := hcut
                        cases kq with
                        | zero => exact absurd HA.out (by simp [geyserlaw21_ControlRises.j3])
                        | succ kj27 =>
                          have H := HA.out
                          clear HA
                          simp only [geyserlaw21_ControlRises.j3] at H
                          replace H := Option.bind_eq_some_iff.mp H
                          obtain ⟨⟨t164, t165, t166, t167, t168, t169, t170⟩, A380, H⟩ := H
                          replace H : (if t165.isNone = true then (if t164 > 0 then (if t156 < t158 then (geyserlaw21_ControlRises.j4 kj27 l2 t149 x11_27 x12_1 true t166 t167 t168 t169 t170 t153 t154 t155 t156) else (if x11_27 < t149 then (geyserlaw21_ControlRises.j4 kj27 l2 t149 x11_27 x12_1 true t166 t167 t168 t169 t170 t153 t154 t155 t156) else (geyserlaw21_ControlRises.j4 kj27 l2 t149 x11_27 x12_1 t155 t166 t167 t168 t169 t170 t153 t154 t155 t156))) else (geyserlaw21_ControlRises.j4 kj27 l2 t149 x11_27 x12_1 false t166 t167 t168 t169 t170 t153 t154 t155 t156)) else (geyserlaw21_ControlRises.j4 kj27 l2 t149 x11_27 x12_1 true t166 t167 t168 t169 t170 t153 t154 t155 t156)) = some r := H
                          have A38 := Aside0.mk A380
                          clear A380
                          have HC39 := Aside0.mk H
                          clear H
                          have hnb40 := NB157_147.out
                          have hnc40 := NB147_157.out
                          have hcz41_0 : wc.cell? ⟨gb157, 0, none⟩ = some (.bool t153) := (blk_cell BK157.out 0).trans rfl
                          have hcz41_1 : wc.cell? ⟨gb157, 1, none⟩ = some (.bool t154) := (blk_cell BK157.out 1).trans rfl
                          have hcz41_2 : wc.cell? ⟨gb157, 2, none⟩ = some (.bool t155) := (blk_cell BK157.out 2).trans rfl
                          have hcz41_3 : wc.cell? ⟨gb157, 3, none⟩ = some (.int .i64 t156) := (blk_cell BK157.out 3).trans rfl
                          have hfz41_0 := blk_frozen BK157.out 0
                          have hfz41_1 := blk_frozen BK157.out 1
                          have hfz41_2 := blk_frozen BK157.out 2
                          have hfz41_3 := blk_frozen BK157.out 3
                          go_upto_region 15 with (first | ((with_reducible refine gate_callee (f := 9) rfl ?_); refine goesL_ (some 66) rfl rfl Try.func9 (by kernel_rfl) rfl #[.pointer (some ⟨g147, 0, none⟩), .agg #[.bool t153, .bool t154, .bool t155, .int .i64 t156]] rfl (by (try simp only [List.map_toArray, List.map_cons, List.map_nil]); first | done | rfl | (simp only [List.length_drop, List.length_take]; rfl)) ?_; (with_reducible refine (control_Controller_Mark.calls kj27 g147 t159 t160 t161 t162 t163 t153 t154 t155 t156 t164 t165 t166 t167 t168 t169 t170 w _ ?side1 ?side2 A38.out).mono ?_); (case side1 => repeat (first | (with_reducible first | exact HI147.out | apply IsS45.alloc | apply IsS45.drewN | apply IsS45.drew | apply IsS45.set_0 | apply IsS45.set_1 | apply IsS45.set_2 | apply IsS45.set_3 | apply IsS45.set_4 | refine IsS45.far ?_ NB147_157.out _) | exact HI147.out)); (case side2 => repeat (first | (with_reducible first | exact HB.out | apply below_alloc | apply pw_below_drewN | apply below_drew1 | refine below_set ?_ (IsS45.ge HI147.out) | refine below_set ?_ GE157.out) | exact HB.out)); rintro e w42 ⟨ev_t165, rfl, he0, hi, hb, hk⟩; refine ⟨_, rfl, ?_⟩; have n0_ := Aside0.mk (KeepBut.blk hk (g' := gb157) (o := .cells #[.bool t153, .bool t154, .bool t155, .int .i64 t156] 32 (0, 0)) (by (with_reducible repeat (first | refine blk_drewN ?_ _ | refine blk_drew ?_ | refine blk_alloc ?_ _)); exact BK157.out) NB157_147.out (by simp)); have n1_ := Aside0.mk (hb); have n2_ := Aside0.mk (hi); clear BK157; clear HB; clear HI147; have BK157 := n0_; have HB := n1_; have HI147 := n2_; clear n0_ n1_ n2_; (try clear hb); (try clear hb2); (try clear hk); (try clear hi); have HE_t165 := Aside0.mk he0; clear he0))
                          (try simp only [Act.put, List.setIfInBounds_toArray, List.set_cons_zero, List.set_cons_succ])
                          go_cut [89] (fun v89 wc => ∃ (kq : Nat) (x89_38 : Bool), v89 = .bool x89_38 ∧ Aside0 (geyserlaw21_ControlRises.j4 kq l2 t149 x11_27 x12_1 x89_38 t166 t167 t168 t169 t170 t153 t154 t155 t156 = some r) ∧ Aside0 (kq ≤ kj27) ∧ Aside0 (wc.heap[gb157]? = some (.cells #[.bool t153, .bool t154, .bool t155, .int .i64 t156] 32 (0, 0))) ∧ Aside0 (IsS45 w wc g147 t166 t167 t168 t169 t170) ∧ Aside0 (Below w.heap.size w wc))
                          case first =>
                            have H := HC39.out
                            clear HC39
                            rcases t165 with _ | q171
                            · have H1 : (if t164 > 0 then (if t156 < t158 then (geyserlaw21_ControlRises.j4 kj27 l2 t149 x11_27 x12_1 true t166 t167 t168 t169 t170 t153 t154 t155 t156) else (if x11_27 < t149 then (geyserlaw21_ControlRises.j4 kj27 l2 t149 x11_27 x12_1 true t166 t167 t168 t169 t170 t153 t154 t155 t156) else (geyserlaw21_ControlRises.j4 kj27 l2 t149 x11_27 x12_1 t155 t166 t167 t168 t169 t170 t153 t154 t155 t156))) else (geyserlaw21_ControlRises.j4 kj27 l2 t149 x11_27 x12_1 false t166 t167 t168 t169 t170 t153 t154 t155 t156)) = some r := by rw [if_pos (show (none : Option Er).isNone = true by rfl)] at H; exact H
                              clear H
                              have H := H1
                              clear H1
                              try simp only [errW_none, errW_some]
                              (try (obtain rfl := ErR_nil HE_t165.out; clear HE_t165))
                              by_cases c43 : t164 > 0
                              · rw [if_pos c43] at H
                                have c43b0 : decide (0 < t164) = true := decide_eq_true c43
                                clear c43
                                (first | rw [c43b0] | (simp only [i64_w, i32_w]; rw [c43b0]) | skip)
                                by_cases c44 : t156 < t158
                                · rw [if_pos c44] at H
                                  have c44b0 : decide (t156 < t158) = true := decide_eq_true c44
                                  clear c44
                                  have H' := Aside0.mk H
                                  clear H
                                  have hnb45 := NB157_147.out
                                  have hnc45 := NB147_157.out
                                  have hcz46_0 : w42.cell? ⟨gb157, 0, none⟩ = some (.bool t153) := (blk_cell BK157.out 0).trans rfl
                                  have hcz46_1 : w42.cell? ⟨gb157, 1, none⟩ = some (.bool t154) := (blk_cell BK157.out 1).trans rfl
                                  have hcz46_2 : w42.cell? ⟨gb157, 2, none⟩ = some (.bool t155) := (blk_cell BK157.out 2).trans rfl
                                  have hcz46_3 : w42.cell? ⟨gb157, 3, none⟩ = some (.int .i64 t156) := (blk_cell BK157.out 3).trans rfl
                                  have hfz46_0 := blk_frozen BK157.out 0
                                  have hfz46_1 := blk_frozen BK157.out 1
                                  have hfz46_2 := blk_frozen BK157.out 2
                                  have hfz46_3 := blk_frozen BK157.out 3
                                  go_wp2
                                  go_meet
                                  case rel => exact ⟨_, (true), (by first | rfl | (simp; done) | (simp [*]; done)), H', ⟨by have := HK1.out; have := HJ6.out; have := HJ13.out; have := HJ27.out; first | omega | exact Nat.le_refl _⟩, ⟨by (with_reducible repeat (first | refine blk_drewN ?_ _ | refine blk_drew ?_ | refine blk_alloc ?_ _)); exact BK157.out⟩, ⟨by repeat (first | (with_reducible first | exact HI147.out | apply IsS45.alloc | apply IsS45.drewN | apply IsS45.drew | apply IsS45.set_0 | apply IsS45.set_1 | apply IsS45.set_2 | apply IsS45.set_3 | apply IsS45.set_4 | refine IsS45.far ?_ NB147_157.out _) | exact HI147.out)⟩, ⟨by repeat (first | (with_reducible first | exact HB.out | apply below_alloc | apply pw_below_drewN | apply below_drew1 | refine below_set ?_ (IsS45.ge HI147.out) | refine below_set ?_ GE157.out) | exact HB.out)⟩⟩
                                · rw [if_neg c44] at H
                                  have c44b0 : decide (t156 < t158) = false := decide_eq_false c44
                                  clear c44
                                  by_cases c47 : x11_27 < t149
                                  · rw [if_pos c47] at H
                                    have c47b0 : decide (x11_27 < t149) = true := decide_eq_true c47
                                    clear c47
                                    have H' := Aside0.mk H
                                    clear H
                                    have hnb48 := NB157_147.out
                                    have hnc48 := NB147_157.out
                                    have hcz49_0 : w42.cell? ⟨gb157, 0, none⟩ = some (.bool t153) := (blk_cell BK157.out 0).trans rfl
                                    have hcz49_1 : w42.cell? ⟨gb157, 1, none⟩ = some (.bool t154) := (blk_cell BK157.out 1).trans rfl
                                    have hcz49_2 : w42.cell? ⟨gb157, 2, none⟩ = some (.bool t155) := (blk_cell BK157.out 2).trans rfl
                                    have hcz49_3 : w42.cell? ⟨gb157, 3, none⟩ = some (.int .i64 t156) := (blk_cell BK157.out 3).trans rfl
                                    have hfz49_0 := blk_frozen BK157.out 0
                                    have hfz49_1 := blk_frozen BK157.out 1
                                    have hfz49_2 := blk_frozen BK157.out 2
                                    have hfz49_3 := blk_frozen BK157.out 3
                                    go_wp2
                                    go_meet
                                    case rel => exact ⟨_, (true), (by first | rfl | (simp; done) | (simp [*]; done)), H', ⟨by have := HK1.out; have := HJ6.out; have := HJ13.out; have := HJ27.out; first | omega | exact Nat.le_refl _⟩, ⟨by (with_reducible repeat (first | refine blk_drewN ?_ _ | refine blk_drew ?_ | refine blk_alloc ?_ _)); exact BK157.out⟩, ⟨by repeat (first | (with_reducible first | exact HI147.out | apply IsS45.alloc | apply IsS45.drewN | apply IsS45.drew | apply IsS45.set_0 | apply IsS45.set_1 | apply IsS45.set_2 | apply IsS45.set_3 | apply IsS45.set_4 | refine IsS45.far ?_ NB147_157.out _) | exact HI147.out)⟩, ⟨by repeat (first | (with_reducible first | exact HB.out | apply below_alloc | apply pw_below_drewN | apply below_drew1 | refine below_set ?_ (IsS45.ge HI147.out) | refine below_set ?_ GE157.out) | exact HB.out)⟩⟩
                                  · rw [if_neg c47] at H
                                    have c47b0 : decide (x11_27 < t149) = false := decide_eq_false c47
                                    clear c47
                                    have H' := Aside0.mk H
                                    clear H
                                    have hnb50 := NB157_147.out
                                    have hnc50 := NB147_157.out
                                    have hcz51_0 : w42.cell? ⟨gb157, 0, none⟩ = some (.bool t153) := (blk_cell BK157.out 0).trans rfl
                                    have hcz51_1 : w42.cell? ⟨gb157, 1, none⟩ = some (.bool t154) := (blk_cell BK157.out 1).trans rfl
                                    have hcz51_2 : w42.cell? ⟨gb157, 2, none⟩ = some (.bool t155) := (blk_cell BK157.out 2).trans rfl
                                    have hcz51_3 : w42.cell? ⟨gb157, 3, none⟩ = some (.int .i64 t156) := (blk_cell BK157.out 3).trans rfl
                                    have hfz51_0 := blk_frozen BK157.out 0
                                    have hfz51_1 := blk_frozen BK157.out 1
                                    have hfz51_2 := blk_frozen BK157.out 2
                                    have hfz51_3 := blk_frozen BK157.out 3
                                    go_wp2
                                    go_meet
                                    case rel => exact ⟨_, (t155), (by first | rfl | (simp; done) | (simp [*]; done)), H', ⟨by have := HK1.out; have := HJ6.out; have := HJ13.out; have := HJ27.out; first | omega | exact Nat.le_refl _⟩, ⟨by (with_reducible repeat (first | refine blk_drewN ?_ _ | refine blk_drew ?_ | refine blk_alloc ?_ _)); exact BK157.out⟩, ⟨by repeat (first | (with_reducible first | exact HI147.out | apply IsS45.alloc | apply IsS45.drewN | apply IsS45.drew | apply IsS45.set_0 | apply IsS45.set_1 | apply IsS45.set_2 | apply IsS45.set_3 | apply IsS45.set_4 | refine IsS45.far ?_ NB147_157.out _) | exact HI147.out)⟩, ⟨by repeat (first | (with_reducible first | exact HB.out | apply below_alloc | apply pw_below_drewN | apply below_drew1 | refine below_set ?_ (IsS45.ge HI147.out) | refine below_set ?_ GE157.out) | exact HB.out)⟩⟩
                              · rw [if_neg c43] at H
                                have c43b0 : decide (0 < t164) = false := decide_eq_false c43
                                clear c43
                                (first | rw [c43b0] | (simp only [i64_w, i32_w]; rw [c43b0]) | skip)
                                have H' := Aside0.mk H
                                clear H
                                go_wp2
                                go_meet
                                case rel => exact ⟨_, (false), (by first | rfl | (simp; done) | (simp [*]; done)), H', ⟨by have := HK1.out; have := HJ6.out; have := HJ13.out; have := HJ27.out; first | omega | exact Nat.le_refl _⟩, ⟨by (with_reducible repeat (first | refine blk_drewN ?_ _ | refine blk_drew ?_ | refine blk_alloc ?_ _)); exact BK157.out⟩, ⟨by repeat (first | (with_reducible first | exact HI147.out | apply IsS45.alloc | apply IsS45.drewN | apply IsS45.drew | apply IsS45.set_0 | apply IsS45.set_1 | apply IsS45.set_2 | apply IsS45.set_3 | apply IsS45.set_4 | refine IsS45.far ?_ NB147_157.out _) | exact HI147.out)⟩, ⟨by repeat (first | (with_reducible first | exact HB.out | apply below_alloc | apply pw_below_drewN | apply below_drew1 | refine below_set ?_ (IsS45.ge HI147.out) | refine below_set ?_ GE157.out) | exact HB.out)⟩⟩
                            · have H1 : (geyserlaw21_ControlRises.j4 kj27 l2 t149 x11_27 x12_1 true t166 t167 t168 t169 t170 t153 t154 t155 t156) = some r := by rw [if_neg (show ¬ (some q171).isNone = true by simp)] at H; exact H
                              clear H
                              have H := H1
                              clear H1
                              try simp only [errW_none, errW_some]
                              (try (obtain ⟨ad_q171, rfl⟩ := ErR_ptr HE_t165.out; have HE_q171 := HE_t165; clear HE_t165))
                              have H' := Aside0.mk H
                              clear H
                              go_wp2
                              go_meet
                              case rel => exact ⟨_, (true), (by first | rfl | (simp; done) | (simp [*]; done)), H', ⟨by have := HK1.out; have := HJ6.out; have := HJ13.out; have := HJ27.out; first | omega | exact Nat.le_refl _⟩, ⟨by (with_reducible repeat (first | refine blk_drewN ?_ _ | refine blk_drew ?_ | refine blk_alloc ?_ _)); exact BK157.out⟩, ⟨by repeat (first | (with_reducible first | exact HI147.out | apply IsS45.alloc | apply IsS45.drewN | apply IsS45.drew | apply IsS45.set_0 | apply IsS45.set_1 | apply IsS45.set_2 | apply IsS45.set_3 | apply IsS45.set_4 | refine IsS45.far ?_ NB147_157.out _) | exact HI147.out)⟩, ⟨by repeat (first | (with_reducible first | exact HB.out | apply below_alloc | apply pw_below_drewN | apply below_drew1 | refine below_set ?_ (IsS45.ge HI147.out) | refine below_set ?_ GE157.out) | exact HB.out)⟩⟩
                          case rest =>
                            clear HC39
                            try clear c1
                            try clear p1
                            try clear q1
                            try clear hx1
                            try clear c2
                            try clear p2
                            try clear c3
                            try clear c4
                            try clear c5
                            try clear p6
                            try clear c7
                            try clear c8
                            try clear c8b0
                            try clear c9
                            try clear c10
                            try clear c10b0
                            try clear c11
                            try clear c11b0
                            try clear p15
                            try clear q15
                            try clear hx15
                            try clear c17
                            try clear q17
                            try clear c20
                            try clear c21
                            try clear c22
                            try clear c24
                            try clear c26
                            try clear c29
                            try clear c30
                            try clear c31
                            try clear c33
                            try clear c34
                            try clear c36
                            try clear c40
                            try clear c43
                            try clear c43b0
                            try clear c44
                            try clear c44b0
                            try clear c45
                            try clear c47
                            try clear c47b0
                            try clear c48
                            try clear c50
                            try clear hcz18_0
                            try clear hcz18_1
                            try clear hcz18_2
                            try clear hcz18_3
                            try clear hcz23_0
                            try clear hcz23_1
                            try clear hcz23_2
                            try clear hcz23_3
                            try clear hcz25_0
                            try clear hcz25_1
                            try clear hcz25_2
                            try clear hcz25_3
                            try clear hcz27_0
                            try clear hcz27_1
                            try clear hcz27_2
                            try clear hcz27_3
                            try clear hcz32_0
                            try clear hcz32_1
                            try clear hcz32_2
                            try clear hcz32_3
                            try clear hcz35_0
                            try clear hcz35_1
                            try clear hcz35_2
                            try clear hcz35_3
                            try clear hcz37_0
                            try clear hcz37_1
                            try clear hcz37_2
                            try clear hcz37_3
                            try clear hcz41_0
                            try clear hcz41_1
                            try clear hcz41_2
                            try clear hcz41_3
                            try clear hcz46_0
                            try clear hcz46_1
                            try clear hcz46_2
                            try clear hcz46_3
                            try clear hcz49_0
                            try clear hcz49_1
                            try clear hcz49_2
                            try clear hcz49_3
                            try clear hcz51_0
                            try clear hcz51_1
                            try clear hcz51_2
                            try clear hcz51_3
                            try clear hfz18_0
                            try clear hfz18_1
                            try clear hfz18_2
                            try clear hfz18_3
                            try clear hfz23_0
                            try clear hfz23_1
                            try clear hfz23_2
                            try clear hfz23_3
                            try clear hfz25_0
                            try clear hfz25_1
                            try clear hfz25_2
                            try clear hfz25_3
                            try clear hfz27_0
                            try clear hfz27_1
                            try clear hfz27_2
                            try clear hfz27_3
                            try clear hfz32_0
                            try clear hfz32_1
                            try clear hfz32_2
                            try clear hfz32_3
                            try clear hfz35_0
                            try clear hfz35_1
                            try clear hfz35_2
                            try clear hfz35_3
                            try clear hfz37_0
                            try clear hfz37_1
                            try clear hfz37_2
                            try clear hfz37_3
                            try clear hfz41_0
                            try clear hfz41_1
                            try clear hfz41_2
                            try clear hfz41_3
                            try clear hfz46_0
                            try clear hfz46_1
                            try clear hfz46_2
                            try clear hfz46_3
                            try clear hfz49_0
                            try clear hfz49_1
                            try clear hfz49_2
                            try clear hfz49_3
                            try clear hfz51_0
                            try clear hfz51_1
                            try clear hfz51_2
                            try clear hfz51_3
                            try clear hx152_0
                            try clear hx152_1
                            try clear hx152_2
                            try clear hx152_3
                            try clear p1
                            try clear p15
                            try clear p152
                            try clear p2
                            try clear p6
                            try clear q1
                            try clear q15
                            try clear q152
                            try clear q171
                            obtain ⟨kq, x89_38, rfl, HA, HJ38, BK157, HI147, HB⟩ := hcut
                            cases kq with
                            | zero => exact absurd HA.out (by simp [geyserlaw21_ControlRises.j4])
                            | succ kj38 =>
                              have H := HA.out
                              clear HA
                              simp only [geyserlaw21_ControlRises.j4] at H
                              by_cases c52 : x89_38 = true
                              · subst c52
                                have H1 : (some false) = some r := by rw [if_pos rfl] at H; exact H
                                clear H
                                have H := H1
                                clear H1
                                obtain rfl := Option.some.inj H
                                go_wp2
                                go_ret
                                exact ⟨by first | rfl | (simp [errW_none, errW_some] <;> rfl) | (simp [*, errW_none, errW_some] <;> rfl), by repeat (first | (with_reducible first | exact HB.out | apply below_alloc | apply pw_below_drewN | apply below_drew1 | refine below_set ?_ (IsS45.ge HI147.out) | refine below_set ?_ GE157.out) | exact HB.out)⟩
                              · replace c52 := Bool.eq_false_iff.mpr c52
                                subst c52
                                have H1 : (if t156 ≥ 0 then (geyserlaw21_ControlRises.l0 kj38 l2 t149 0 (wrap64 (x12_1 + 1)) t166 t167 t168 t169 t170) else (geyserlaw21_ControlRises.l0 kj38 l2 t149 x11_27 (wrap64 (x12_1 + 1)) t166 t167 t168 t169 t170)) = some r := by rw [if_neg (show ¬ (false = true) by decide)] at H; exact H
                                clear H
                                have H := H1
                                clear H1
                                by_cases c53 : t156 ≥ 0
                                · rw [if_pos c53] at H
                                  have c53b0 : decide (0 ≤ t156) = true := decide_eq_true c53
                                  clear c53
                                  have H' := Aside0.mk H
                                  clear H
                                  have hnb54 := NB157_147.out
                                  have hnc54 := NB147_157.out
                                  have hcz55_0 : wc.cell? ⟨gb157, 0, none⟩ = some (.bool t153) := (blk_cell BK157.out 0).trans rfl
                                  have hcz55_1 : wc.cell? ⟨gb157, 1, none⟩ = some (.bool t154) := (blk_cell BK157.out 1).trans rfl
                                  have hcz55_2 : wc.cell? ⟨gb157, 2, none⟩ = some (.bool t155) := (blk_cell BK157.out 2).trans rfl
                                  have hcz55_3 : wc.cell? ⟨gb157, 3, none⟩ = some (.int .i64 t156) := (blk_cell BK157.out 3).trans rfl
                                  have hfz55_0 := blk_frozen BK157.out 0
                                  have hfz55_1 := blk_frozen BK157.out 1
                                  have hfz55_2 := blk_frozen BK157.out 2
                                  have hfz55_3 := blk_frozen BK157.out 3
                                  go_wp2
                                  go_roundg kj38
                                  case measure => have := HK1.out; have := HJ6.out; have := HJ13.out; have := HJ27.out; have := HJ38.out; omega
                                  case rel => exact ⟨(0), (wrap64 (x12_1 + 1)), (t166), (t167), (t168), (t169), (t170), (by first | rfl | (simp; done) | (simp [*]; done)), (by first | rfl | (simp; done) | (simp [*]; done)), H', ⟨by have := HK1.out; have := HJ6.out; have := HJ13.out; have := HJ27.out; have := HJ38.out; omega⟩, ⟨by repeat (first | (with_reducible first | exact HI147.out | apply IsS45.alloc | apply IsS45.drewN | apply IsS45.drew | apply IsS45.set_0 | apply IsS45.set_1 | apply IsS45.set_2 | apply IsS45.set_3 | apply IsS45.set_4 | refine IsS45.far ?_ NB147_157.out _) | exact HI147.out)⟩, ⟨by repeat (first | (with_reducible first | exact HB.out | apply below_alloc | apply pw_below_drewN | apply below_drew1 | refine below_set ?_ (IsS45.ge HI147.out) | refine below_set ?_ GE157.out) | exact HB.out)⟩⟩
                                · rw [if_neg c53] at H
                                  have c53b0 : decide (0 ≤ t156) = false := decide_eq_false c53
                                  clear c53
                                  have H' := Aside0.mk H
                                  clear H
                                  have hnb56 := NB157_147.out
                                  have hnc56 := NB147_157.out
                                  have hcz57_0 : wc.cell? ⟨gb157, 0, none⟩ = some (.bool t153) := (blk_cell BK157.out 0).trans rfl
                                  have hcz57_1 : wc.cell? ⟨gb157, 1, none⟩ = some (.bool t154) := (blk_cell BK157.out 1).trans rfl
                                  have hcz57_2 : wc.cell? ⟨gb157, 2, none⟩ = some (.bool t155) := (blk_cell BK157.out 2).trans rfl
                                  have hcz57_3 : wc.cell? ⟨gb157, 3, none⟩ = some (.int .i64 t156) := (blk_cell BK157.out 3).trans rfl
                                  have hfz57_0 := blk_frozen BK157.out 0
                                  have hfz57_1 := blk_frozen BK157.out 1
                                  have hfz57_2 := blk_frozen BK157.out 2
                                  have hfz57_3 := blk_frozen BK157.out 3
                                  go_wp2
                                  go_roundg kj38
                                  case measure => have := HK1.out; have := HJ6.out; have := HJ13.out; have := HJ27.out; have := HJ38.out; omega
                                  case rel => exact ⟨(x11_27), (wrap64 (x12_1 + 1)), (t166), (t167), (t168), (t169), (t170), (by first | rfl | (simp; done) | (simp [*]; done)), (by first | rfl | (simp; done) | (simp [*]; done)), H', ⟨by have := HK1.out; have := HJ6.out; have := HJ13.out; have := HJ27.out; have := HJ38.out; omega⟩, ⟨by repeat (first | (with_reducible first | exact HI147.out | apply IsS45.alloc | apply IsS45.drewN | apply IsS45.drew | apply IsS45.set_0 | apply IsS45.set_1 | apply IsS45.set_2 | apply IsS45.set_3 | apply IsS45.set_4 | refine IsS45.far ?_ NB147_157.out _) | exact HI147.out)⟩, ⟨by repeat (first | (with_reducible first | exact HB.out | apply below_alloc | apply pw_below_drewN | apply below_drew1 | refine below_set ?_ (IsS45.ge HI147.out) | refine below_set ?_ GE157.out) | exact HB.out)⟩⟩
                · rw [if_neg c11] at H
                  exact absurd H (by simp)
              · rw [if_neg c10] at H
                exact absurd H (by simp)
            · replace c9 := Bool.eq_false_iff.mpr c9
              subst c9
              have H1 : ((geyserlaw21_awake.f kj6).bind fun t151 => (some t151)) = some r := by rw [if_neg (show ¬ (false = true) by decide)] at H; exact H
              clear H
              have H := H1
              clear H1
              replace H := Option.bind_eq_some_iff.mp H
              obtain ⟨t151, A580, H⟩ := H
              replace H : (some t151) = some r := H
              have A58 := Aside0.mk A580
              clear A580
              obtain rfl := Option.some.inj H
              go_wp2_with (first | ((with_reducible refine gate_callee (f := 11) rfl ?_); refine goesL_ (some 93) rfl rfl Try.func11 (by kernel_rfl) rfl #[] rfl (by (try simp only [List.map_toArray, List.map_cons, List.map_nil]); first | done | rfl | (simp only [List.length_drop, List.length_take]; rfl)) ?_; (with_reducible refine (geyserlaw21_awake.calls kj6  t151 _ A58.out).mono ?_); rintro e w59 ⟨rfl, hb⟩; refine ⟨_, rfl, ?_⟩; have n0_ := Aside0.mk (IsS45.below (by repeat (first | (with_reducible first | exact HI147.out | apply IsS45.alloc | apply IsS45.drewN | apply IsS45.drew | apply IsS45.set_0 | apply IsS45.set_1 | apply IsS45.set_2 | apply IsS45.set_3 | apply IsS45.set_4) | exact HI147.out)) hb); have n1_ := Aside0.mk (below_step (by repeat (first | (with_reducible first | exact HB.out | apply below_alloc | apply pw_below_drewN | apply below_drew1 | refine below_set ?_ (IsS45.ge HI147.out)) | exact HB.out)) hb); clear HI147; clear HB; have HI147 := n0_; have HB := n1_; clear n0_ n1_; (try clear hb); (try clear hb2); (try clear hk); (try clear hi)))
              go_ret
              exact ⟨by first | rfl | (simp [errW_none, errW_some] <;> rfl) | (simp [*, errW_none, errW_some] <;> rfl), by repeat (first | (with_reducible first | exact HB.out | apply below_alloc | apply pw_below_drewN | apply below_drew1 | refine below_set ?_ (IsS45.ge HI147.out)) | exact HB.out)⟩
  · replace c5 := Bool.eq_false_iff.mpr c5
    subst c5
    have H1 : (some false) = some r := by rw [if_neg (show ¬ (false = true) by decide)] at H; exact H
    clear H
    have H := H1
    clear H1
    obtain rfl := Option.some.inj H
    go_enter Try.func4, Try.ntmps4
    go_wp2_with (first | ((with_reducible refine gate_callee (f := 7) rfl ?_); refine goesL_ (some 20) rfl rfl Try.func7 (by kernel_rfl) rfl #[.int .i64 a0, .int .i64 a1] rfl (by (try simp only [List.map_toArray, List.map_cons, List.map_nil]); first | done | rfl | (simp only [List.length_drop, List.length_take]; rfl)) ?_; (with_reducible refine (geyserlaw21_begin.calls a0 a1 t142 t143 t144 t145 t146 t148 t149 false w _ ?side1 A4.out).mono ?_); (case side1 => repeat (first | (with_reducible first | exact HB.out | apply below_alloc | apply pw_below_drewN | apply below_drew1) | exact HB.out)); rintro e w60 ⟨g147, rfl, hi, hb, hb2⟩; refine ⟨_, rfl, ?_⟩; have n0_ := Aside0.mk (hb); have n1_ := Aside0.mk (hi); clear HB; have HB := n0_; have HI147 := n1_; clear n0_ n1_; (try clear hb); (try clear hb2); (try clear hk); (try clear hi)))
    go_ret
    exact ⟨by first | rfl | (simp [errW_none, errW_some] <;> rfl) | (simp [*, errW_none, errW_some] <;> rfl), by repeat (first | (with_reducible first | exact HB.out | apply below_alloc | apply pw_below_drewN | apply below_drew1 | refine below_set ?_ (IsS45.ge HI147.out)) | exact HB.out)⟩

end Go.Proofs.Ytgbghjbihddpjaa.QControlRises
