-- Written by a program of this session out of the translation. Lean checks it.
import Derived.Test.YtnhelpbchfeadaaDoorQCalendarBurstsx0
import Derived.Test.YtnhelpbchfeadaaDoorQCalendarBurstsx1
namespace Go.Proofs.YtnhelpbchfeadaaDoor.QCalendarBursts
open Go.RowKit Go.Proofs.YtnhelpbchfeadaaDoor.Er Go.Proofs.YtnhelpbchfeadaaDoor.As Go.Proofs.YtnhelpbchfeadaaDoor.Tells Go.Proofs.YtnhelpbchfeadaaDoorW.PrintWords Go.Proofs.YtnhelpbchfeadaaDoorW.PrintLast Go.Proofs.YtnhelpbchfeadaaDoorW.PrintMore
attribute [local go_sem] max2_int min2_int max_two min_two max_three min_three max_four min_four   -- for this text's walks alone
set_option linter.unusedVariables false
set_option linter.unusedSimpArgs false

/-! ### geyserref18_Burst: function 19 -/
def geyserref18_Burst.f (a0 : Int) (a1 : Int) (a2 : Int) : Option (Bool) := if a0 = 0 then (none) else (some (decide ((Int.tmod a2 a0) ≥ (wrap64 (a0 - a1)))))
set_option maxHeartbeats 8000000 in
set_option maxRecDepth 100000 in
theorem geyserref18_Burst.calls (a0 : Int) (a1 : Int) (a2 : Int) (r : Bool) (w : World) (h : geyserref18_Burst.f a0 a1 a2 = some r) :
    Calls Tryd.prog 19 #[.int .i64 a0, .int .i64 a1, .int .i64 a2] w fun e w' => e = .returned (.bool r) ∧ Drawn0 w w' := by
  have H : (if a0 = 0 then (none) else (some (decide ((Int.tmod a2 a0) ≥ (wrap64 (a0 - a1)))))) = some r := h
  clear h
  by_cases c4 : a0 = 0
  · rw [if_pos c4] at H
    exact absurd H (by simp)
  · rw [if_neg c4] at H
    have c4b0 : (a0 == 0) = false := beq_eq_false_iff_ne.mpr c4
    have c4b1 : (a0 != 0) = true := bne_iff_ne.mpr c4
    obtain rfl := Option.some.inj H
    go_enter Tryd.func19, Tryd.ntmps19
    go_wp2
    go_ret
    exact ⟨by first | rfl | (simp; done) | (simp [*]; done), by repeat (first | exact Drawn0.refl _ | apply Drawn0.step)⟩

/-! ### geyserlaw18_CalendarBursts: function 5 -/
def geyserlaw18_CalendarBursts.j0 : Nat → Int → Int → Int → Bool → Int → Bool → Option (Bool)
  | 0, _, _, _, _, _, _ => none
  | k + 1, x0, x1, x2, x7, x9, x34 => if x34 = true then (some false) else (if x9 = 0 then ((geyserref18_Burst.f x0 x1 x2).bind fun t141 => (if (x7 == t141) = true then ((geyserlaw18_awake.f k).bind fun t142 => (some t142)) else (some false))) else (if x7 = true then (some false) else ((geyserlaw18_awake.f k).bind fun t143 => (some t143))))
def geyserlaw18_CalendarBursts.f (k : Nat) (a0 : Int) (a1 : Int) (a2 : Int) : Option (Bool) := (calendar_Burst.f a0 a1 a2).bind fun bt134 => ((geyserref18_Check.f a0 a1 a2).bind fun t136 => ((tells.f bt134.2 t136 (⟨#[99, 97, 108, 101, 110, 100, 97, 114, 46, 66, 117, 114, 115, 116]⟩ : ByteArray)).bind fun t137 => (if t137 = true then ((calendar_Check.f a0 a1).bind fun t138 => ((geyserref18_Check.f a0 a1 0).bind fun t139 => ((tells.f t138 t139 (⟨#[99, 97, 108, 101, 110, 100, 97, 114, 46, 67, 104, 101, 99, 107]⟩ : ByteArray)).bind fun t140 => (geyserlaw18_CalendarBursts.j0 k a0 a1 a2 bt134.1 t136 (!t140))))) else (geyserlaw18_CalendarBursts.j0 k a0 a1 a2 bt134.1 t136 true))))
theorem geyserlaw18_CalendarBursts.mono_l : ∀ k, (∀ y0 y1 y2 y3 y4 y5, LeO (geyserlaw18_CalendarBursts.j0 k y0 y1 y2 y3 y4 y5) (geyserlaw18_CalendarBursts.j0 (k + 1) y0 y1 y2 y3 y4 y5))
  | 0 => fun _ _ _ _ _ _ r h => by simp [geyserlaw18_CalendarBursts.j0] at h
  | k + 1 => by
    have ih0 := geyserlaw18_CalendarBursts.mono_l k
    · intro y0 y1 y2 y3 y4 y5
      unfold geyserlaw18_CalendarBursts.j0
      repeat' first
      | (with_reducible exact ih0 _ _ _ _ _ _)
      | (with_reducible exact geyserlaw18_awake.mono _)
      | (with_reducible exact LeO.refl _)
      | (with_reducible exact LeO.none _)
      | (with_reducible refine LeO.ite ?_ ?_)
      | (with_reducible refine LeO.bind ?_ (fun _ => ?_))
      | exact ih0 _ _ _ _ _ _
      | exact geyserlaw18_awake.mono _
      | exact LeO.none _
      | refine LeO.ite ?_ ?_
      | refine LeO.bind ?_ (fun _ => ?_)
theorem geyserlaw18_CalendarBursts.mono : ∀ a0 a1 a2 k, LeO (geyserlaw18_CalendarBursts.f k a0 a1 a2) (geyserlaw18_CalendarBursts.f (k + 1) a0 a1 a2) := by
  intro a0 a1 a2 k
  have ih0 := geyserlaw18_CalendarBursts.mono_l k
  unfold geyserlaw18_CalendarBursts.f
  repeat' first
      | (with_reducible exact ih0 _ _ _ _ _ _)
      | (with_reducible exact geyserlaw18_awake.mono _)
      | (with_reducible exact LeO.refl _)
      | (with_reducible exact LeO.none _)
      | (with_reducible refine LeO.ite ?_ ?_)
      | (with_reducible refine LeO.bind ?_ (fun _ => ?_))
      | exact ih0 _ _ _ _ _ _
      | exact geyserlaw18_awake.mono _
      | exact LeO.none _
      | refine LeO.ite ?_ ?_
      | refine LeO.bind ?_ (fun _ => ?_)
set_option maxHeartbeats 8000000 in
set_option maxRecDepth 100000 in
theorem geyserlaw18_CalendarBursts.calls (k : Nat) (a0 : Int) (a1 : Int) (a2 : Int) (r : Bool) (w : World) (hG : Glob w) (h : geyserlaw18_CalendarBursts.f k a0 a1 a2 = some r) :
    Calls Tryd.prog 5 #[.int .i64 a0, .int .i64 a1, .int .i64 a2] w fun e w' => e = .returned (.bool r) ∧ Below w.heap.size w w' := by
  have HG := Aside0.mk hG
  clear hG
  have HB := Aside0.mk (Below.refl w.heap.size w)
  have H : ((calendar_Burst.f a0 a1 a2).bind fun bt134 => ((geyserref18_Check.f a0 a1 a2).bind fun t136 => ((tells.f bt134.2 t136 (⟨#[99, 97, 108, 101, 110, 100, 97, 114, 46, 66, 117, 114, 115, 116]⟩ : ByteArray)).bind fun t137 => (if t137 = true then ((calendar_Check.f a0 a1).bind fun t138 => ((geyserref18_Check.f a0 a1 0).bind fun t139 => ((tells.f t138 t139 (⟨#[99, 97, 108, 101, 110, 100, 97, 114, 46, 67, 104, 101, 99, 107]⟩ : ByteArray)).bind fun t140 => (geyserlaw18_CalendarBursts.j0 k a0 a1 a2 bt134.1 t136 (!t140))))) else (geyserlaw18_CalendarBursts.j0 k a0 a1 a2 bt134.1 t136 true))))) = some r := h
  clear h
  replace H := Option.bind_eq_some_iff.mp H
  obtain ⟨⟨t134, t135⟩, A40, H⟩ := H
  replace H : ((geyserref18_Check.f a0 a1 a2).bind fun t136 => ((tells.f t135 t136 (⟨#[99, 97, 108, 101, 110, 100, 97, 114, 46, 66, 117, 114, 115, 116]⟩ : ByteArray)).bind fun t137 => (if t137 = true then ((calendar_Check.f a0 a1).bind fun t138 => ((geyserref18_Check.f a0 a1 0).bind fun t139 => ((tells.f t138 t139 (⟨#[99, 97, 108, 101, 110, 100, 97, 114, 46, 67, 104, 101, 99, 107]⟩ : ByteArray)).bind fun t140 => (geyserlaw18_CalendarBursts.j0 k a0 a1 a2 t134 t136 (!t140))))) else (geyserlaw18_CalendarBursts.j0 k a0 a1 a2 t134 t136 true)))) = some r := H
  have A4 := Aside0.mk A40
  clear A40
  replace H := Option.bind_eq_some_iff.mp H
  obtain ⟨t136, A50, H⟩ := H
  replace H : ((tells.f t135 t136 (⟨#[99, 97, 108, 101, 110, 100, 97, 114, 46, 66, 117, 114, 115, 116]⟩ : ByteArray)).bind fun t137 => (if t137 = true then ((calendar_Check.f a0 a1).bind fun t138 => ((geyserref18_Check.f a0 a1 0).bind fun t139 => ((tells.f t138 t139 (⟨#[99, 97, 108, 101, 110, 100, 97, 114, 46, 67, 104, 101, 99, 107]⟩ : ByteArray)).bind fun t140 => (geyserlaw18_CalendarBursts.j0 k a0 a1 a2 t134 t136 (!t140))))) else (geyserlaw18_CalendarBursts.j0 k a0 a1 a2 t134 t136 true))) = some r := H
  have A5 := Aside0.mk A50
  clear A50
  have HC6 := Aside0.mk H
  clear H
  go_enter Tryd.func5, Tryd.ntmps5
  go_upto_region 3 with (first | ((with_reducible refine gate_callee (f := 17) rfl ?_); refine goesL_ (some 14) rfl rfl Tryd.func17 (by kernel_rfl) rfl #[.int .i64 a0, .int .i64 a1, .int .i64 a2] rfl (by (try simp only [List.map_toArray, List.map_cons, List.map_nil]); first | done | rfl | (simp only [List.length_drop, List.length_take]; rfl)) ?_; (with_reducible refine (calendar_Burst.calls a0 a1 a2 t134 t135 _ A4.out).mono ?_); rintro e w7 ⟨ev_t135, rfl, he0, hb⟩; refine ⟨_, rfl, ?_⟩; have n0_ := Aside0.mk (below_step (by repeat (first | (with_reducible first | exact HB.out | apply below_alloc | apply pw_below_drewN | apply below_drew1) | exact HB.out)) hb); clear HB; have HB := n0_; clear n0_; (try clear hb); (try clear hb2); (try clear hk); (try clear hi); have HE_t135 := Aside0.mk he0; clear he0) | ((with_reducible refine gate_callee (f := 8) rfl ?_); refine goesL_ (some 20) rfl rfl Tryd.func8 (by kernel_rfl) rfl #[.int .i64 a0, .int .i64 a1, .int .i64 a2] rfl (by (try simp only [List.map_toArray, List.map_cons, List.map_nil]); first | done | rfl | (simp only [List.length_drop, List.length_take]; rfl)) ?_; (with_reducible refine (geyserref18_Check.calls a0 a1 a2 t136 _ A5.out).mono ?_); rintro e w' ⟨rfl, ⟨nd, rfl⟩⟩; refine ⟨_, rfl, ?_⟩))
  (try simp only [Act.put, List.setIfInBounds_toArray, List.set_cons_zero, List.set_cons_succ])
  go_cut [34] (fun v34 wc => ∃ (kq : Nat) (x34_5 : Bool), v34 = .bool x34_5 ∧ Aside0 (geyserlaw18_CalendarBursts.j0 kq a0 a1 a2 t134 t136 x34_5 = some r) ∧ Aside0 (kq ≤ k) ∧ Aside0 (Below w.heap.size w wc))
  case first =>
    have H := HC6.out
    clear HC6
    replace H := Option.bind_eq_some_iff.mp H
    obtain ⟨t137, A80, H⟩ := H
    replace H : (if t137 = true then ((calendar_Check.f a0 a1).bind fun t138 => ((geyserref18_Check.f a0 a1 0).bind fun t139 => ((tells.f t138 t139 (⟨#[99, 97, 108, 101, 110, 100, 97, 114, 46, 67, 104, 101, 99, 107]⟩ : ByteArray)).bind fun t140 => (geyserlaw18_CalendarBursts.j0 k a0 a1 a2 t134 t136 (!t140))))) else (geyserlaw18_CalendarBursts.j0 k a0 a1 a2 t134 t136 true)) = some r := H
    have A8 := Aside0.mk A80
    clear A80
    by_cases c9 : t137 = true
    · subst c9
      have H1 : ((calendar_Check.f a0 a1).bind fun t138 => ((geyserref18_Check.f a0 a1 0).bind fun t139 => ((tells.f t138 t139 (⟨#[99, 97, 108, 101, 110, 100, 97, 114, 46, 67, 104, 101, 99, 107]⟩ : ByteArray)).bind fun t140 => (geyserlaw18_CalendarBursts.j0 k a0 a1 a2 t134 t136 (!t140))))) = some r := by rw [if_pos rfl] at H; exact H
      clear H
      have H := H1
      clear H1
      replace H := Option.bind_eq_some_iff.mp H
      obtain ⟨t138, A100, H⟩ := H
      replace H : ((geyserref18_Check.f a0 a1 0).bind fun t139 => ((tells.f t138 t139 (⟨#[99, 97, 108, 101, 110, 100, 97, 114, 46, 67, 104, 101, 99, 107]⟩ : ByteArray)).bind fun t140 => (geyserlaw18_CalendarBursts.j0 k a0 a1 a2 t134 t136 (!t140)))) = some r := H
      have A10 := Aside0.mk A100
      clear A100
      replace H := Option.bind_eq_some_iff.mp H
      obtain ⟨t139, A110, H⟩ := H
      replace H : ((tells.f t138 t139 (⟨#[99, 97, 108, 101, 110, 100, 97, 114, 46, 67, 104, 101, 99, 107]⟩ : ByteArray)).bind fun t140 => (geyserlaw18_CalendarBursts.j0 k a0 a1 a2 t134 t136 (!t140))) = some r := H
      have A11 := Aside0.mk A110
      clear A110
      replace H := Option.bind_eq_some_iff.mp H
      obtain ⟨t140, A120, H⟩ := H
      replace H : (geyserlaw18_CalendarBursts.j0 k a0 a1 a2 t134 t136 (!t140)) = some r := H
      have A12 := Aside0.mk A120
      clear A120
      have H' := Aside0.mk H
      clear H
      go_wp2_with (first | (go_at_call 9; (with_reducible refine (tells.calls _ t135 t136 (⟨#[99, 97, 108, 101, 110, 100, 97, 114, 46, 66, 117, 114, 115, 116]⟩ : ByteArray) true _ ?side1 ?side2 A8.out).mono ?_); (case side1 => repeat (first | exact HE_t135.out | exact HE_t135.out | apply ErR_drew | apply ErR_drewN | apply ErR_alloc)); (case side2 => exact Glob_below HG.out (by repeat (first | (with_reducible first | exact HB.out | apply below_alloc | apply pw_below_drewN | apply below_drew1) | exact HB.out))); rintro e w13 ⟨rfl, hb⟩; have n0_ := Aside0.mk (below_step (by repeat (first | (with_reducible first | exact HB.out | apply below_alloc | apply pw_below_drewN | apply below_drew1) | exact HB.out)) hb); clear HB; have HB := n0_; clear n0_; (try clear hb); (try clear hb2); (try clear hk); (try clear hi)) | (go_at_call 18; (with_reducible refine (calendar_Check.calls a0 a1 t138 _ A10.out).mono ?_); rintro e w14 ⟨ev_t138, rfl, he0, hb⟩; have n0_ := Aside0.mk (below_step (by repeat (first | (with_reducible first | exact HB.out | apply below_alloc | apply pw_below_drewN | apply below_drew1) | exact HB.out)) hb); clear HB; have HB := n0_; clear n0_; (try clear hb); (try clear hb2); (try clear hk); (try clear hi); have HE_t138 := Aside0.mk he0; clear he0) | (go_at_call 8; (with_reducible refine (geyserref18_Check.calls a0 a1 0 t139 _ A11.out).mono ?_); rintro e w' ⟨rfl, ⟨nd, rfl⟩⟩) | (go_at_call 9; (with_reducible refine (tells.calls _ t138 t139 (⟨#[99, 97, 108, 101, 110, 100, 97, 114, 46, 67, 104, 101, 99, 107]⟩ : ByteArray) t140 _ ?side1 ?side2 A12.out).mono ?_); (case side1 => repeat (first | exact HE_t138.out | exact HE_t138.out | apply ErR_drew | apply ErR_drewN | apply ErR_alloc)); (case side2 => exact Glob_below HG.out (by repeat (first | (with_reducible first | exact HB.out | apply below_alloc | apply pw_below_drewN | apply below_drew1) | exact HB.out))); rintro e w15 ⟨rfl, hb⟩; (try (have nE_ := Aside0.mk (ErR_below hb (by repeat (first | exact HE_t138.out | apply ErR_drew | apply ErR_drewN | apply ErR_alloc))); clear HE_t138; have HE_t138 := nE_; clear nE_)); have n0_ := Aside0.mk (below_step (by repeat (first | (with_reducible first | exact HB.out | apply below_alloc | apply pw_below_drewN | apply below_drew1) | exact HB.out)) hb); clear HB; have HB := n0_; clear n0_; (try clear hb); (try clear hb2); (try clear hk); (try clear hi)))
      go_meet
      case rel => exact ⟨_, (!t140), (by first | rfl | (simp; done) | (simp [*]; done)), H', ⟨by first | omega | exact Nat.le_refl _⟩, ⟨by repeat (first | (with_reducible first | exact HB.out | apply below_alloc | apply pw_below_drewN | apply below_drew1) | exact HB.out)⟩⟩
    · replace c9 := Bool.eq_false_iff.mpr c9
      subst c9
      have H1 : (geyserlaw18_CalendarBursts.j0 k a0 a1 a2 t134 t136 true) = some r := by rw [if_neg (show ¬ (false = true) by decide)] at H; exact H
      clear H
      have H := H1
      clear H1
      have H' := Aside0.mk H
      clear H
      go_wp2_with (first | (go_at_call 9; (with_reducible refine (tells.calls _ t135 t136 (⟨#[99, 97, 108, 101, 110, 100, 97, 114, 46, 66, 117, 114, 115, 116]⟩ : ByteArray) false _ ?side1 ?side2 A8.out).mono ?_); (case side1 => repeat (first | exact HE_t135.out | exact HE_t135.out | apply ErR_drew | apply ErR_drewN | apply ErR_alloc)); (case side2 => exact Glob_below HG.out (by repeat (first | (with_reducible first | exact HB.out | apply below_alloc | apply pw_below_drewN | apply below_drew1) | exact HB.out))); rintro e w16 ⟨rfl, hb⟩; have n0_ := Aside0.mk (below_step (by repeat (first | (with_reducible first | exact HB.out | apply below_alloc | apply pw_below_drewN | apply below_drew1) | exact HB.out)) hb); clear HB; have HB := n0_; clear n0_; (try clear hb); (try clear hb2); (try clear hk); (try clear hi)))
      go_meet
      case rel => exact ⟨_, (true), (by first | rfl | (simp; done) | (simp [*]; done)), H', ⟨by first | omega | exact Nat.le_refl _⟩, ⟨by repeat (first | (with_reducible first | exact HB.out | apply below_alloc | apply pw_below_drewN | apply below_drew1) | exact HB.out)⟩⟩
  case rest =>
    clear HC6
    try clear c1
    try clear p2
    try clear c5
    try clear c8
    try clear c9
    obtain ⟨kq, x34_5, rfl, HA, HJ5, HB⟩ := hcut
    cases kq with
    | zero => exact absurd HA.out (by simp [geyserlaw18_CalendarBursts.j0])
    | succ kj5 =>
      have H := HA.out
      clear HA
      simp only [geyserlaw18_CalendarBursts.j0] at H
      by_cases c17 : x34_5 = true
      · subst c17
        have H1 : (some false) = some r := by rw [if_pos rfl] at H; exact H
        clear H
        have H := H1
        clear H1
        obtain rfl := Option.some.inj H
        go_wp2
        go_ret
        exact ⟨by first | rfl | (simp [errW_none, errW_some] <;> rfl) | (simp [*, errW_none, errW_some] <;> rfl), by repeat (first | (with_reducible first | exact HB.out | apply below_alloc | apply pw_below_drewN | apply below_drew1) | exact HB.out)⟩
      · replace c17 := Bool.eq_false_iff.mpr c17
        subst c17
        have H1 : (if t136 = 0 then ((geyserref18_Burst.f a0 a1 a2).bind fun t141 => (if (t134 == t141) = true then ((geyserlaw18_awake.f kj5).bind fun t142 => (some t142)) else (some false))) else (if t134 = true then (some false) else ((geyserlaw18_awake.f kj5).bind fun t143 => (some t143)))) = some r := by rw [if_neg (show ¬ (false = true) by decide)] at H; exact H
        clear H
        have H := H1
        clear H1
        by_cases c18 : t136 = 0
        · rw [if_pos c18] at H
          have c18b0 : (t136 == 0) = true := beq_iff_eq.mpr c18
          have c18b1 : (t136 != 0) = false := bne_eq_false_iff_eq.mpr c18
          clear c18
          replace H := Option.bind_eq_some_iff.mp H
          obtain ⟨t141, A190, H⟩ := H
          replace H : (if (t134 == t141) = true then ((geyserlaw18_awake.f kj5).bind fun t142 => (some t142)) else (some false)) = some r := H
          have A19 := Aside0.mk A190
          clear A190
          by_cases c20 : (t134 == t141) = true
          · rw [if_pos c20] at H
            have c20b0 : (t134 == t141) = true := c20
            (try (have c20b1 : decide (t134 = t141) = true := by simpa using c20))
            (try (have c20b2 : (t134 == t141) = true := by simpa using c20))
            clear c20
            replace H := Option.bind_eq_some_iff.mp H
            obtain ⟨t142, A210, H⟩ := H
            replace H : (some t142) = some r := H
            have A21 := Aside0.mk A210
            clear A210
            obtain rfl := Option.some.inj H
            go_wp2_with (first | ((with_reducible refine gate_callee (f := 19) rfl ?_); refine goesL_ (some 46) rfl rfl Tryd.func19 (by kernel_rfl) rfl #[.int .i64 a0, .int .i64 a1, .int .i64 a2] rfl (by (try simp only [List.map_toArray, List.map_cons, List.map_nil]); first | done | rfl | (simp only [List.length_drop, List.length_take]; rfl)) ?_; (with_reducible refine (geyserref18_Burst.calls a0 a1 a2 t141 _ A19.out).mono ?_); rintro e w' ⟨rfl, ⟨nd, rfl⟩⟩; refine ⟨_, rfl, ?_⟩) | (go_at_call 10; (with_reducible refine (geyserlaw18_awake.calls kj5  t142 _ A21.out).mono ?_); rintro e w22 ⟨rfl, hb⟩; have n0_ := Aside0.mk (below_step (by repeat (first | (with_reducible first | exact HB.out | apply below_alloc | apply pw_below_drewN | apply below_drew1) | exact HB.out)) hb); clear HB; have HB := n0_; clear n0_; (try clear hb); (try clear hb2); (try clear hk); (try clear hi)))
            go_ret
            exact ⟨by first | rfl | (simp [errW_none, errW_some] <;> rfl) | (simp [*, errW_none, errW_some] <;> rfl), by repeat (first | (with_reducible first | exact HB.out | apply below_alloc | apply pw_below_drewN | apply below_drew1) | exact HB.out)⟩
          · rw [if_neg c20] at H
            have c20b0 : (t134 == t141) = false := by simpa using c20
            (try (have c20b1 : decide (t134 = t141) = false := by simpa using c20))
            (try (have c20b2 : (t134 == t141) = false := by simpa using c20))
            (try (have c20b3 : ¬ (t134 = t141) := by simpa using c20))
            clear c20
            obtain rfl := Option.some.inj H
            go_wp2_with (first | ((with_reducible refine gate_callee (f := 19) rfl ?_); refine goesL_ (some 46) rfl rfl Tryd.func19 (by kernel_rfl) rfl #[.int .i64 a0, .int .i64 a1, .int .i64 a2] rfl (by (try simp only [List.map_toArray, List.map_cons, List.map_nil]); first | done | rfl | (simp only [List.length_drop, List.length_take]; rfl)) ?_; (with_reducible refine (geyserref18_Burst.calls a0 a1 a2 t141 _ A19.out).mono ?_); rintro e w' ⟨rfl, ⟨nd, rfl⟩⟩; refine ⟨_, rfl, ?_⟩))
            go_ret
            exact ⟨by first | rfl | (simp [errW_none, errW_some] <;> rfl) | (simp [*, errW_none, errW_some] <;> rfl), by repeat (first | (with_reducible first | exact HB.out | apply below_alloc | apply pw_below_drewN | apply below_drew1) | exact HB.out)⟩
        · rw [if_neg c18] at H
          have c18b0 : (t136 == 0) = false := beq_eq_false_iff_ne.mpr c18
          have c18b1 : (t136 != 0) = true := bne_iff_ne.mpr c18
          by_cases c23 : t134 = true
          · subst c23
            have H1 : (some false) = some r := by rw [if_pos rfl] at H; exact H
            clear H
            have H := H1
            clear H1
            obtain rfl := Option.some.inj H
            go_wp2
            go_ret
            exact ⟨by first | rfl | (simp [errW_none, errW_some] <;> rfl) | (simp [*, errW_none, errW_some] <;> rfl), by repeat (first | (with_reducible first | exact HB.out | apply below_alloc | apply pw_below_drewN | apply below_drew1) | exact HB.out)⟩
          · replace c23 := Bool.eq_false_iff.mpr c23
            subst c23
            have H1 : ((geyserlaw18_awake.f kj5).bind fun t143 => (some t143)) = some r := by rw [if_neg (show ¬ (false = true) by decide)] at H; exact H
            clear H
            have H := H1
            clear H1
            replace H := Option.bind_eq_some_iff.mp H
            obtain ⟨t143, A240, H⟩ := H
            replace H : (some t143) = some r := H
            have A24 := Aside0.mk A240
            clear A240
            obtain rfl := Option.some.inj H
            go_wp2_with (first | (go_at_call 10; (with_reducible refine (geyserlaw18_awake.calls kj5  t143 _ A24.out).mono ?_); rintro e w25 ⟨rfl, hb⟩; have n0_ := Aside0.mk (below_step (by repeat (first | (with_reducible first | exact HB.out | apply below_alloc | apply pw_below_drewN | apply below_drew1) | exact HB.out)) hb); clear HB; have HB := n0_; clear n0_; (try clear hb); (try clear hb2); (try clear hk); (try clear hi)))
            go_ret
            exact ⟨by first | rfl | (simp [errW_none, errW_some] <;> rfl) | (simp [*, errW_none, errW_some] <;> rfl), by repeat (first | (with_reducible first | exact HB.out | apply below_alloc | apply pw_below_drewN | apply below_drew1) | exact HB.out)⟩

/-- THE ONE PURE STATEMENT of geyserlaw18_CalendarBursts: yours. -/
def geyserlaw18_CalendarBursts.Pure : Prop := ∀ (a0 : Int) (a1 : Int) (a2 : Int), (Lit.int .i64 a0).wf = true → (Lit.int .i64 a1).wf = true → (Lit.int .i64 a2).wf = true → ∃ k, geyserlaw18_CalendarBursts.f k a0 a1 a2 = some true
theorem geyserlaw18_CalendarBursts.walk (P : geyserlaw18_CalendarBursts.Pure) (a0 : Int) (a1 : Int) (a2 : Int) (w : World) (w0 : (Lit.int .i64 a0).wf = true) (w1 : (Lit.int .i64 a1).wf = true) (w2 : (Lit.int .i64 a2).wf = true) (hG : Glob w) :
    Calls Tryd.prog 5 #[.int .i64 a0, .int .i64 a1, .int .i64 a2] w fun e w' => e = .returned (.bool true) ∧ Below w.heap.size w w' := by
  obtain ⟨k, h⟩ := P a0 a1 a2 w0 w1 w2
  refine (geyserlaw18_CalendarBursts.calls k a0 a1 a2 true w hG h).mono ?_
  rintro e w' ⟨rfl, hd⟩
  exact ⟨rfl, hd⟩

end Go.Proofs.YtnhelpbchfeadaaDoor.QCalendarBursts
