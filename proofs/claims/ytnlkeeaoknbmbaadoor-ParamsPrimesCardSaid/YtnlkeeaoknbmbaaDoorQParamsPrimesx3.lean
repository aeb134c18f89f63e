-- Written by a program of this session out of the translation. Lean checks it.
import Derived.Test.YtnlkeeaoknbmbaaDoorQParamsPrimesx0
import Derived.Test.YtnlkeeaoknbmbaaDoorQParamsPrimesx2
namespace Go.Proofs.YtnlkeeaoknbmbaaDoor.QParamsPrimes
open Go.RowKit Go.Proofs.YtnlkeeaoknbmbaaDoor.Er Go.Proofs.YtnlkeeaoknbmbaaDoor.As Go.Proofs.YtnlkeeaoknbmbaaDoor.Tells Go.Proofs.YtnlkeeaoknbmbaaDoorW.PrintWords Go.Proofs.YtnlkeeaoknbmbaaDoorW.PrintLast Go.Proofs.YtnlkeeaoknbmbaaDoorW.PrintMore
attribute [local go_sem] max2_int min2_int max_two min_two max_three min_three max_four min_four   -- for this text's walks alone
set_option linter.unusedVariables false
set_option linter.unusedSimpArgs false

/-! ### geyserref08_Prime: function 11 -/
def geyserref08_Prime.l0 : Nat → Int → Option (Int)
  | 0, _ => none
  | k + 1, x3 => if x3 < 65521 then ((geyserref08_IsPrime.f k x3).bind fun t131 => (if t131 = true then (some x3) else (geyserref08_Prime.l0 k (wrap64 (x3 + 1))))) else (some x3)
def geyserref08_Prime.f (k : Nat) (a0 : Int) : Option (Int) := geyserref08_Prime.l0 k (mx a0 2)
theorem geyserref08_Prime.mono_l : ∀ k, (∀ y0, LeO (geyserref08_Prime.l0 k y0) (geyserref08_Prime.l0 (k + 1) y0))
  | 0 => fun _ r h => by simp [geyserref08_Prime.l0] at h
  | k + 1 => by
    have ih0 := geyserref08_Prime.mono_l k
    · intro y0
      unfold geyserref08_Prime.l0
      repeat' first
      | (with_reducible exact ih0 _)
      | (with_reducible exact geyserref08_IsPrime.mono _ _)
      | (with_reducible exact LeO.refl _)
      | (with_reducible exact LeO.none _)
      | (with_reducible refine LeO.ite ?_ ?_)
      | (with_reducible refine LeO.bind ?_ (fun _ => ?_))
      | exact ih0 _
      | exact geyserref08_IsPrime.mono _ _
      | exact LeO.none _
      | refine LeO.ite ?_ ?_
      | refine LeO.bind ?_ (fun _ => ?_)
theorem geyserref08_Prime.mono : ∀ a0 k, LeO (geyserref08_Prime.f k a0) (geyserref08_Prime.f (k + 1) a0) := by
  intro a0 k
  have ih0 := geyserref08_Prime.mono_l k
  unfold geyserref08_Prime.f
  repeat' first
      | (with_reducible exact ih0 _)
      | (with_reducible exact geyserref08_IsPrime.mono _ _)
      | (with_reducible exact LeO.refl _)
      | (with_reducible exact LeO.none _)
      | (with_reducible refine LeO.ite ?_ ?_)
      | (with_reducible refine LeO.bind ?_ (fun _ => ?_))
      | exact ih0 _
      | exact geyserref08_IsPrime.mono _ _
      | exact LeO.none _
      | refine LeO.ite ?_ ?_
      | refine LeO.bind ?_ (fun _ => ?_)
set_option maxHeartbeats 8000000 in
set_option maxRecDepth 100000 in
theorem geyserref08_Prime.calls (k : Nat) (a0 : Int) (r : Int) (w : World) (h : geyserref08_Prime.f k a0 = some r) :
    Calls Tryd.prog 11 #[.int .i64 a0] w fun e w' => e = .returned (.int .i64 r) ∧ Below w.heap.size w w' := by
  have HB := Aside0.mk (Below.refl w.heap.size w)
  have H : (geyserref08_Prime.l0 k (mx a0 2)) = some r := h
  clear h
  obtain ⟨ji2, hji2⟩ : ∃ j_ : Int, (mx a0 2) = j_ := ⟨_, rfl⟩
  replace H : (geyserref08_Prime.l0 k ji2) = some r := by first | (rw [hji2] at H; exact H) | (simp only [hji2] at H ⊢; exact H)
  (try (have hji2l : 2 ≤ ji2 := by (rw [← hji2]; unfold mx; (repeat' split) <;> omega)))
  (try (have hji2m : 0 ≤ ji2 := by omega))
  have hji2_ : (if a0 < 2 then 2 else a0) = ji2 := hji2
  have H' := Aside0.mk H
  clear H
  go_enter Tryd.func11, Tryd.ntmps11
  go_wp2
  go_loopg [3] k (fun kq v3 w' => ∃ (x3_1 : Int), v3 = .int .i64 x3_1 ∧ Aside0 (geyserref08_Prime.l0 kq x3_1 = some r) ∧ Aside0 (kq ≤ k) ∧ Aside0 (Below w.heap.size w w'))
  case atStart => exact ⟨(ji2), (by first | rfl | (simp; done) | (simp only [← hji2] <;> (first | rfl | simp)) | (simp [*]; done)), H', ⟨Nat.le_refl _⟩, ⟨by repeat (first | (with_reducible first | exact HB.out | apply below_alloc | apply pw_below_drewN | apply below_drew1) | exact HB.out)⟩⟩
  case round =>
    clear H'
    try clear c1
    try clear p2
    obtain ⟨x3_1, rfl, HA, HK1, HB⟩ := hrel
    cases gk with
    | zero => exact absurd HA.out (by simp [geyserref08_Prime.l0])
    | succ k1 =>
      have H := HA.out
      clear HA
      simp only [geyserref08_Prime.l0] at H
      by_cases c3 : x3_1 < 65521
      · rw [if_pos c3] at H
        have c3b0 : decide (x3_1 < 65521) = true := decide_eq_true c3
        clear c3
        replace H := Option.bind_eq_some_iff.mp H
        obtain ⟨t131, A40, H⟩ := H
        replace H : (if t131 = true then (some x3_1) else (geyserref08_Prime.l0 k1 (wrap64 (x3_1 + 1)))) = some r := H
        have A4 := Aside0.mk A40
        clear A40
        by_cases c5 : t131 = true
        · subst c5
          have H1 : (some x3_1) = some r := by rw [if_pos rfl] at H; exact H
          clear H
          have H := H1
          clear H1
          obtain rfl := Option.some.inj H
          go_wp2_with (first | (go_at_call 8; (with_reducible refine (geyserref08_IsPrime.calls k1 x3_1 true _ A4.out).mono ?_); rintro e w' ⟨rfl, ⟨nd, rfl⟩⟩))
          go_ret
          exact ⟨by first | rfl | (simp [errW_none, errW_some] <;> rfl) | (simp only [← hji2]; first | rfl | (simp [errW_none, errW_some] <;> rfl)) | (simp [*, errW_none, errW_some] <;> rfl), by repeat (first | (with_reducible first | exact HB.out | apply below_alloc | apply pw_below_drewN | apply below_drew1) | exact HB.out)⟩
        · replace c5 := Bool.eq_false_iff.mpr c5
          subst c5
          have H1 : (geyserref08_Prime.l0 k1 (wrap64 (x3_1 + 1))) = some r := by rw [if_neg (show ¬ (false = true) by decide)] at H; exact H
          clear H
          have H := H1
          clear H1
          have H' := Aside0.mk H
          clear H
          go_wp2_with (first | (go_at_call 8; (with_reducible refine (geyserref08_IsPrime.calls k1 x3_1 false _ A4.out).mono ?_); rintro e w' ⟨rfl, ⟨nd, rfl⟩⟩))
          go_roundg k1
          case measure => have := HK1.out; omega
          case rel => exact ⟨(wrap64 (x3_1 + 1)), (by first | rfl | (simp; done) | (simp [*]; done)), H', ⟨by have := HK1.out; omega⟩, ⟨by repeat (first | (with_reducible first | exact HB.out | apply below_alloc | apply pw_below_drewN | apply below_drew1) | exact HB.out)⟩⟩
      · rw [if_neg c3] at H
        have c3b0 : decide (x3_1 < 65521) = false := decide_eq_false c3
        clear c3
        obtain rfl := Option.some.inj H
        go_wp2
        go_ret
        exact ⟨by first | rfl | (simp [errW_none, errW_some] <;> rfl) | (simp only [← hji2]; first | rfl | (simp [errW_none, errW_some] <;> rfl)) | (simp [*, errW_none, errW_some] <;> rfl), by repeat (first | (with_reducible first | exact HB.out | apply below_alloc | apply pw_below_drewN | apply below_drew1) | exact HB.out)⟩

/-! ### geyserlaw08_ParamsPrimes: function 3 -/
def geyserlaw08_ParamsPrimes.f (k : Nat) (a0 : Int) : Option (Bool) := (params_Prime.f k a0).bind fun bt132 => ((IsPrime.f a0).bind fun t134 => ((geyserref08_IsPrime.f k a0).bind fun t135 => (if (t134 != t135) = true then (some false) else (if a0 > 65521 then ((tells.f bt132.2 1 (⟨#[112, 97, 114, 97, 109, 115, 46, 80, 114, 105, 109, 101]⟩ : ByteArray)).bind fun t136 => (if t136 = true then (if bt132.1 = 0 then ((geyserlaw08_awake.f k).bind fun t137 => (some t137)) else (some false)) else (some false))) else (if bt132.2.isNone = true then ((geyserref08_Prime.f k a0).bind fun t139 => (if bt132.1 = t139 then ((geyserlaw08_awake.f k).bind fun t140 => (some t140)) else (some false))) else (some false))))))
theorem geyserlaw08_ParamsPrimes.mono : ∀ a0 k, LeO (geyserlaw08_ParamsPrimes.f k a0) (geyserlaw08_ParamsPrimes.f (k + 1) a0) := by
  intro a0 k
  unfold geyserlaw08_ParamsPrimes.f
  repeat' first
      | (with_reducible exact geyserlaw08_awake.mono _)
      | (with_reducible exact geyserref08_IsPrime.mono _ _)
      | (with_reducible exact geyserref08_Prime.mono _ _)
      | (with_reducible exact params_Prime.mono _ _)
      | (with_reducible exact LeO.refl _)
      | (with_reducible exact LeO.none _)
      | (with_reducible refine LeO.ite ?_ ?_)
      | (with_reducible refine LeO.bind ?_ (fun _ => ?_))
      | exact geyserlaw08_awake.mono _
      | exact geyserref08_IsPrime.mono _ _
      | exact geyserref08_Prime.mono _ _
      | exact params_Prime.mono _ _
      | exact LeO.none _
      | refine LeO.ite ?_ ?_
      | refine LeO.bind ?_ (fun _ => ?_)
set_option maxHeartbeats 8000000 in
set_option maxRecDepth 100000 in
theorem geyserlaw08_ParamsPrimes.calls (k : Nat) (a0 : Int) (r : Bool) (w : World) (hG : Glob w) (h : geyserlaw08_ParamsPrimes.f k a0 = some r) :
    Calls Tryd.prog 3 #[.int .i64 a0] w fun e w' => e = .returned (.bool r) ∧ Below w.heap.size w w' := by
  have hu23 := Tryd.underlying23
  have HG := Aside0.mk hG
  clear hG
  have HB := Aside0.mk (Below.refl w.heap.size w)
  have H : ((params_Prime.f k a0).bind fun bt132 => ((IsPrime.f a0).bind fun t134 => ((geyserref08_IsPrime.f k a0).bind fun t135 => (if (t134 != t135) = true then (some false) else (if a0 > 65521 then ((tells.f bt132.2 1 (⟨#[112, 97, 114, 97, 109, 115, 46, 80, 114, 105, 109, 101]⟩ : ByteArray)).bind fun t136 => (if t136 = true then (if bt132.1 = 0 then ((geyserlaw08_awake.f k).bind fun t137 => (some t137)) else (some false)) else (some false))) else (if bt132.2.isNone = true then ((geyserref08_Prime.f k a0).bind fun t139 => (if bt132.1 = t139 then ((geyserlaw08_awake.f k).bind fun t140 => (some t140)) else (some false))) else (some false))))))) = some r := h
  clear h
  replace H := Option.bind_eq_some_iff.mp H
  obtain ⟨⟨t132, t133⟩, A20, H⟩ := H
  replace H : ((IsPrime.f a0).bind fun t134 => ((geyserref08_IsPrime.f k a0).bind fun t135 => (if (t134 != t135) = true then (some false) else (if a0 > 65521 then ((tells.f t133 1 (⟨#[112, 97, 114, 97, 109, 115, 46, 80, 114, 105, 109, 101]⟩ : ByteArray)).bind fun t136 => (if t136 = true then (if t132 = 0 then ((geyserlaw08_awake.f k).bind fun t137 => (some t137)) else (some false)) else (some false))) else (if t133.isNone = true then ((geyserref08_Prime.f k a0).bind fun t139 => (if t132 = t139 then ((geyserlaw08_awake.f k).bind fun t140 => (some t140)) else (some false))) else (some false)))))) = some r := H
  have A2 := Aside0.mk A20
  clear A20
  replace H := Option.bind_eq_some_iff.mp H
  obtain ⟨t134, A30, H⟩ := H
  replace H : ((geyserref08_IsPrime.f k a0).bind fun t135 => (if (t134 != t135) = true then (some false) else (if a0 > 65521 then ((tells.f t133 1 (⟨#[112, 97, 114, 97, 109, 115, 46, 80, 114, 105, 109, 101]⟩ : ByteArray)).bind fun t136 => (if t136 = true then (if t132 = 0 then ((geyserlaw08_awake.f k).bind fun t137 => (some t137)) else (some false)) else (some false))) else (if t133.isNone = true then ((geyserref08_Prime.f k a0).bind fun t139 => (if t132 = t139 then ((geyserlaw08_awake.f k).bind fun t140 => (some t140)) else (some false))) else (some false))))) = some r := H
  have A3 := Aside0.mk A30
  clear A30
  replace H := Option.bind_eq_some_iff.mp H
  obtain ⟨t135, A40, H⟩ := H
  replace H : (if (t134 != t135) = true then (some false) else (if a0 > 65521 then ((tells.f t133 1 (⟨#[112, 97, 114, 97, 109, 115, 46, 80, 114, 105, 109, 101]⟩ : ByteArray)).bind fun t136 => (if t136 = true then (if t132 = 0 then ((geyserlaw08_awake.f k).bind fun t137 => (some t137)) else (some false)) else (some false))) else (if t133.isNone = true then ((geyserref08_Prime.f k a0).bind fun t139 => (if t132 = t139 then ((geyserlaw08_awake.f k).bind fun t140 => (some t140)) else (some false))) else (some false)))) = some r := H
  have A4 := Aside0.mk A40
  clear A40
  by_cases c5 : (t134 != t135) = true
  · rw [if_pos c5] at H
    have c5b0 : (t134 != t135) = true := c5
    (try (have c5b1 : decide (t134 = t135) = false := by simpa using c5))
    (try (have c5b2 : (t134 == t135) = false := by simpa using c5))
    (try (have c5b3 : ¬ (t134 = t135) := by simpa using c5))
    clear c5
    obtain rfl := Option.some.inj H
    go_enter Tryd.func3, Tryd.ntmps3
    go_wp2_with (first | ((with_reducible refine gate_callee (f := 6) rfl ?_); refine goesL_ (some 7) rfl rfl Tryd.func6 (by kernel_rfl) rfl #[.int .i64 a0] rfl (by (try simp only [List.map_toArray, List.map_cons, List.map_nil]); first | done | rfl | (simp only [List.length_drop, List.length_take]; rfl)) ?_; (with_reducible refine (params_Prime.calls k a0 t132 t133 _ A2.out).mono ?_); rintro e w6 ⟨ev_t133, rfl, he0, hb⟩; refine ⟨_, rfl, ?_⟩; have n0_ := Aside0.mk (below_step (by repeat (first | (with_reducible first | exact HB.out | apply below_alloc | apply pw_below_drewN | apply below_drew1) | exact HB.out)) hb); clear HB; have HB := n0_; clear n0_; (try clear hb); (try clear hb2); (try clear hk); (try clear hi); have HE_t133 := Aside0.mk he0; clear he0) | ((with_reducible refine gate_callee (f := 7) rfl ?_); refine goesL_ (some 11) rfl rfl Tryd.func7 (by kernel_rfl) rfl #[.int .i64 a0] rfl (by (try simp only [List.map_toArray, List.map_cons, List.map_nil]); first | done | rfl | (simp only [List.length_drop, List.length_take]; rfl)) ?_; (with_reducible refine (IsPrime.calls a0 t134 _ A3.out).mono ?_); rintro e w' ⟨rfl, ⟨nd, rfl⟩⟩; refine ⟨_, rfl, ?_⟩) | ((with_reducible refine gate_callee (f := 8) rfl ?_); refine goesL_ (some 13) rfl rfl Tryd.func8 (by kernel_rfl) rfl #[.int .i64 a0] rfl (by (try simp only [List.map_toArray, List.map_cons, List.map_nil]); first | done | rfl | (simp only [List.length_drop, List.length_take]; rfl)) ?_; (with_reducible refine (geyserref08_IsPrime.calls k a0 t135 _ A4.out).mono ?_); rintro e w' ⟨rfl, ⟨nd, rfl⟩⟩; refine ⟨_, rfl, ?_⟩))
    go_ret
    exact ⟨by first | rfl | (simp [errW_none, errW_some] <;> rfl) | (simp [*, errW_none, errW_some] <;> rfl), by repeat (first | (with_reducible first | exact HB.out | apply below_alloc | apply pw_below_drewN | apply below_drew1) | exact HB.out)⟩
  · rw [if_neg c5] at H
    have c5b0 : (t134 != t135) = false := by simpa using c5
    (try (have c5b1 : decide (t134 = t135) = true := by simpa using c5))
    (try (have c5b2 : (t134 == t135) = true := by simpa using c5))
    clear c5
    by_cases c7 : a0 > 65521
    · rw [if_pos c7] at H
      have c7b0 : decide (65521 < a0) = true := decide_eq_true c7
      clear c7
      replace H := Option.bind_eq_some_iff.mp H
      obtain ⟨t136, A80, H⟩ := H
      replace H : (if t136 = true then (if t132 = 0 then ((geyserlaw08_awake.f k).bind fun t137 => (some t137)) else (some false)) else (some false)) = some r := H
      have A8 := Aside0.mk A80
      clear A80
      by_cases c9 : t136 = true
      · subst c9
        have H1 : (if t132 = 0 then ((geyserlaw08_awake.f k).bind fun t137 => (some t137)) else (some false)) = some r := by rw [if_pos rfl] at H; exact H
        clear H
        have H := H1
        clear H1
        by_cases c10 : t132 = 0
        · rw [if_pos c10] at H
          have c10b0 : (t132 == 0) = true := beq_iff_eq.mpr c10
          have c10b1 : (t132 != 0) = false := bne_eq_false_iff_eq.mpr c10
          clear c10
          replace H := Option.bind_eq_some_iff.mp H
          obtain ⟨t137, A110, H⟩ := H
          replace H : (some t137) = some r := H
          have A11 := Aside0.mk A110
          clear A110
          obtain rfl := Option.some.inj H
          go_enter Tryd.func3, Tryd.ntmps3
          go_wp2_with (first | ((with_reducible refine gate_callee (f := 6) rfl ?_); refine goesL_ (some 7) rfl rfl Tryd.func6 (by kernel_rfl) rfl #[.int .i64 a0] rfl (by (try simp only [List.map_toArray, List.map_cons, List.map_nil]); first | done | rfl | (simp only [List.length_drop, List.length_take]; rfl)) ?_; (with_reducible refine (params_Prime.calls k a0 t132 t133 _ A2.out).mono ?_); rintro e w12 ⟨ev_t133, rfl, he0, hb⟩; refine ⟨_, rfl, ?_⟩; have n0_ := Aside0.mk (below_step (by repeat (first | (with_reducible first | exact HB.out | apply below_alloc | apply pw_below_drewN | apply below_drew1) | exact HB.out)) hb); clear HB; have HB := n0_; clear n0_; (try clear hb); (try clear hb2); (try clear hk); (try clear hi); have HE_t133 := Aside0.mk he0; clear he0) | ((with_reducible refine gate_callee (f := 7) rfl ?_); refine goesL_ (some 11) rfl rfl Tryd.func7 (by kernel_rfl) rfl #[.int .i64 a0] rfl (by (try simp only [List.map_toArray, List.map_cons, List.map_nil]); first | done | rfl | (simp only [List.length_drop, List.length_take]; rfl)) ?_; (with_reducible refine (IsPrime.calls a0 t134 _ A3.out).mono ?_); rintro e w' ⟨rfl, ⟨nd, rfl⟩⟩; refine ⟨_, rfl, ?_⟩) | ((with_reducible refine gate_callee (f := 8) rfl ?_); refine goesL_ (some 13) rfl rfl Tryd.func8 (by kernel_rfl) rfl #[.int .i64 a0] rfl (by (try simp only [List.map_toArray, List.map_cons, List.map_nil]); first | done | rfl | (simp only [List.length_drop, List.length_take]; rfl)) ?_; (with_reducible refine (geyserref08_IsPrime.calls k a0 t135 _ A4.out).mono ?_); rintro e w' ⟨rfl, ⟨nd, rfl⟩⟩; refine ⟨_, rfl, ?_⟩) | (go_at_call 9; (with_reducible refine (tells.calls _ t133 1 (⟨#[112, 97, 114, 97, 109, 115, 46, 80, 114, 105, 109, 101]⟩ : ByteArray) true _ ?side1 ?side2 A8.out).mono ?_); (case side1 => repeat (first | (with_reducible exact HE_t133.out) | (with_reducible exact ErR_none _) | (with_reducible exact Aside0.out (by assumption)) | (with_reducible apply ErR_drew) | (with_reducible apply ErR_drewN) | (with_reducible apply ErR_alloc) | (with_reducible refine ErR_set (by repeat (first | (with_reducible refine NF_blk (Aside0.out (by assumption)) (by decide)) | (with_reducible apply NF_set) | (with_reducible apply NF_drew) | (with_reducible apply NF_drewN) | (with_reducible apply NF_alloc))) ?_) | exact HE_t133.out | apply ErR_drew | apply ErR_drewN | apply ErR_alloc)); (case side2 => exact Glob_below HG.out (by repeat (first | (with_reducible first | exact HB.out | apply below_alloc | apply pw_below_drewN | apply below_drew1) | exact HB.out))); rintro e w13 ⟨rfl, hb⟩; (try (have nE_ := Aside0.mk (ErR_below hb (by repeat (first | (with_reducible exact HE_t133.out) | (with_reducible exact ErR_none _) | (with_reducible exact Aside0.out (by assumption)) | (with_reducible apply ErR_drew) | (with_reducible apply ErR_drewN) | (with_reducible apply ErR_alloc) | (with_reducible refine ErR_set (by repeat (first | (with_reducible refine NF_blk (Aside0.out (by assumption)) (by decide)) | (with_reducible apply NF_set) | (with_reducible apply NF_drew) | (with_reducible apply NF_drewN) | (with_reducible apply NF_alloc))) ?_) | exact HE_t133.out | apply ErR_drew | apply ErR_drewN | apply ErR_alloc))); clear HE_t133; have HE_t133 := nE_; clear nE_)); have n0_ := Aside0.mk (below_step (by repeat (first | (with_reducible first | exact HB.out | apply below_alloc | apply pw_below_drewN | apply below_drew1) | exact HB.out)) hb); clear HB; have HB := n0_; clear n0_; (try clear hb); (try clear hb2); (try clear hk); (try clear hi)) | (go_at_call 10; (with_reducible refine (geyserlaw08_awake.calls k  t137 _ A11.out).mono ?_); rintro e w14 ⟨rfl, hb⟩; (try (have nE_ := Aside0.mk (ErR_below hb (by repeat (first | (with_reducible exact HE_t133.out) | (with_reducible exact ErR_none _) | (with_reducible exact Aside0.out (by assumption)) | (with_reducible apply ErR_drew) | (with_reducible apply ErR_drewN) | (with_reducible apply ErR_alloc) | (with_reducible refine ErR_set (by repeat (first | (with_reducible refine NF_blk (Aside0.out (by assumption)) (by decide)) | (with_reducible apply NF_set) | (with_reducible apply NF_drew) | (with_reducible apply NF_drewN) | (with_reducible apply NF_alloc))) ?_) | exact HE_t133.out | apply ErR_drew | apply ErR_drewN | apply ErR_alloc))); clear HE_t133; have HE_t133 := nE_; clear nE_)); have n0_ := Aside0.mk (below_step (by repeat (first | (with_reducible first | exact HB.out | apply below_alloc | apply pw_below_drewN | apply below_drew1) | exact HB.out)) hb); clear HB; have HB := n0_; clear n0_; (try clear hb); (try clear hb2); (try clear hk); (try clear hi)))
          go_ret
          exact ⟨by first | rfl | (simp [errW_none, errW_some] <;> rfl) | (simp [*, errW_none, errW_some] <;> rfl), by repeat (first | (with_reducible first | exact HB.out | apply below_alloc | apply pw_below_drewN | apply below_drew1) | exact HB.out)⟩
        · rw [if_neg c10] at H
          have c10b0 : (t132 == 0) = false := beq_eq_false_iff_ne.mpr c10
          have c10b1 : (t132 != 0) = true := bne_iff_ne.mpr c10
          obtain rfl := Option.some.inj H
          go_enter Tryd.func3, Tryd.ntmps3
          go_wp2_with (first | ((with_reducible refine gate_callee (f := 6) rfl ?_); refine goesL_ (some 7) rfl rfl Tryd.func6 (by kernel_rfl) rfl #[.int .i64 a0] rfl (by (try simp only [List.map_toArray, List.map_cons, List.map_nil]); first | done | rfl | (simp only [List.length_drop, List.length_take]; rfl)) ?_; (with_reducible refine (params_Prime.calls k a0 t132 t133 _ A2.out).mono ?_); rintro e w15 ⟨ev_t133, rfl, he0, hb⟩; refine ⟨_, rfl, ?_⟩; have n0_ := Aside0.mk (below_step (by repeat (first | (with_reducible first | exact HB.out | apply below_alloc | apply pw_below_drewN | apply below_drew1) | exact HB.out)) hb); clear HB; have HB := n0_; clear n0_; (try clear hb); (try clear hb2); (try clear hk); (try clear hi); have HE_t133 := Aside0.mk he0; clear he0) | ((with_reducible refine gate_callee (f := 7) rfl ?_); refine goesL_ (some 11) rfl rfl Tryd.func7 (by kernel_rfl) rfl #[.int .i64 a0] rfl (by (try simp only [List.map_toArray, List.map_cons, List.map_nil]); first | done | rfl | (simp only [List.length_drop, List.length_take]; rfl)) ?_; (with_reducible refine (IsPrime.calls a0 t134 _ A3.out).mono ?_); rintro e w' ⟨rfl, ⟨nd, rfl⟩⟩; refine ⟨_, rfl, ?_⟩) | ((with_reducible refine gate_callee (f := 8) rfl ?_); refine goesL_ (some 13) rfl rfl Tryd.func8 (by kernel_rfl) rfl #[.int .i64 a0] rfl (by (try simp only [List.map_toArray, List.map_cons, List.map_nil]); first | done | rfl | (simp only [List.length_drop, List.length_take]; rfl)) ?_; (with_reducible refine (geyserref08_IsPrime.calls k a0 t135 _ A4.out).mono ?_); rintro e w' ⟨rfl, ⟨nd, rfl⟩⟩; refine ⟨_, rfl, ?_⟩) | (go_at_call 9; (with_reducible refine (tells.calls _ t133 1 (⟨#[112, 97, 114, 97, 109, 115, 46, 80, 114, 105, 109, 101]⟩ : ByteArray) true _ ?side1 ?side2 A8.out).mono ?_); (case side1 => repeat (first | (with_reducible exact HE_t133.out) | (with_reducible exact ErR_none _) | (with_reducible exact Aside0.out (by assumption)) | (with_reducible apply ErR_drew) | (with_reducible apply ErR_drewN) | (with_reducible apply ErR_alloc) | (with_reducible refine ErR_set (by repeat (first | (with_reducible refine NF_blk (Aside0.out (by assumption)) (by decide)) | (with_reducible apply NF_set) | (with_reducible apply NF_drew) | (with_reducible apply NF_drewN) | (with_reducible apply NF_alloc))) ?_) | exact HE_t133.out | apply ErR_drew | apply ErR_drewN | apply ErR_alloc)); (case side2 => exact Glob_below HG.out (by repeat (first | (with_reducible first | exact HB.out | apply below_alloc | apply pw_below_drewN | apply below_drew1) | exact HB.out))); rintro e w16 ⟨rfl, hb⟩; (try (have nE_ := Aside0.mk (ErR_below hb (by repeat (first | (with_reducible exact HE_t133.out) | (with_reducible exact ErR_none _) | (with_reducible exact Aside0.out (by assumption)) | (with_reducible apply ErR_drew) | (with_reducible apply ErR_drewN) | (with_reducible apply ErR_alloc) | (with_reducible refine ErR_set (by repeat (first | (with_reducible refine NF_blk (Aside0.out (by assumption)) (by decide)) | (with_reducible apply NF_set) | (with_reducible apply NF_drew) | (with_reducible apply NF_drewN) | (with_reducible apply NF_alloc))) ?_) | exact HE_t133.out | apply ErR_drew | apply ErR_drewN | apply ErR_alloc))); clear HE_t133; have HE_t133 := nE_; clear nE_)); have n0_ := Aside0.mk (below_step (by repeat (first | (with_reducible first | exact HB.out | apply below_alloc | apply pw_below_drewN | apply below_drew1) | exact HB.out)) hb); clear HB; have HB := n0_; clear n0_; (try clear hb); (try clear hb2); (try clear hk); (try clear hi)))
          go_ret
          exact ⟨by first | rfl | (simp [errW_none, errW_some] <;> rfl) | (simp [*, errW_none, errW_some] <;> rfl), by repeat (first | (with_reducible first | exact HB.out | apply below_alloc | apply pw_below_drewN | apply below_drew1) | exact HB.out)⟩
      · replace c9 := Bool.eq_false_iff.mpr c9
        subst c9
        have H1 : (some false) = some r := by rw [if_neg (show ¬ (false = true) by decide)] at H; exact H
        clear H
        have H := H1
        clear H1
        obtain rfl := Option.some.inj H
        go_enter Tryd.func3, Tryd.ntmps3
        go_wp2_with (first | ((with_reducible refine gate_callee (f := 6) rfl ?_); refine goesL_ (some 7) rfl rfl Tryd.func6 (by kernel_rfl) rfl #[.int .i64 a0] rfl (by (try simp only [List.map_toArray, List.map_cons, List.map_nil]); first | done | rfl | (simp only [List.length_drop, List.length_take]; rfl)) ?_; (with_reducible refine (params_Prime.calls k a0 t132 t133 _ A2.out).mono ?_); rintro e w17 ⟨ev_t133, rfl, he0, hb⟩; refine ⟨_, rfl, ?_⟩; have n0_ := Aside0.mk (below_step (by repeat (first | (with_reducible first | exact HB.out | apply below_alloc | apply pw_below_drewN | apply below_drew1) | exact HB.out)) hb); clear HB; have HB := n0_; clear n0_; (try clear hb); (try clear hb2); (try clear hk); (try clear hi); have HE_t133 := Aside0.mk he0; clear he0) | ((with_reducible refine gate_callee (f := 7) rfl ?_); refine goesL_ (some 11) rfl rfl Tryd.func7 (by kernel_rfl) rfl #[.int .i64 a0] rfl (by (try simp only [List.map_toArray, List.map_cons, List.map_nil]); first | done | rfl | (simp only [List.length_drop, List.length_take]; rfl)) ?_; (with_reducible refine (IsPrime.calls a0 t134 _ A3.out).mono ?_); rintro e w' ⟨rfl, ⟨nd, rfl⟩⟩; refine ⟨_, rfl, ?_⟩) | ((with_reducible refine gate_callee (f := 8) rfl ?_); refine goesL_ (some 13) rfl rfl Tryd.func8 (by kernel_rfl) rfl #[.int .i64 a0] rfl (by (try simp only [List.map_toArray, List.map_cons, List.map_nil]); first | done | rfl | (simp only [List.length_drop, List.length_take]; rfl)) ?_; (with_reducible refine (geyserref08_IsPrime.calls k a0 t135 _ A4.out).mono ?_); rintro e w' ⟨rfl, ⟨nd, rfl⟩⟩; refine ⟨_, rfl, ?_⟩) | (go_at_call 9; (with_reducible refine (tells.calls _ t133 1 (⟨#[112, 97, 114, 97, 109, 115, 46, 80, 114, 105, 109, 101]⟩ : ByteArray) false _ ?side1 ?side2 A8.out).mono ?_); (case side1 => repeat (first | (with_reducible exact HE_t133.out) | (with_reducible exact ErR_none _) | (with_reducible exact Aside0.out (by assumption)) | (with_reducible apply ErR_drew) | (with_reducible apply ErR_drewN) | (with_reducible apply ErR_alloc) | (with_reducible refine ErR_set (by repeat (first | (with_reducible refine NF_blk (Aside0.out (by assumption)) (by decide)) | (with_reducible apply NF_set) | (with_reducible apply NF_drew) | (with_reducible apply NF_drewN) | (with_reducible apply NF_alloc))) ?_) | exact HE_t133.out | apply ErR_drew | apply ErR_drewN | apply ErR_alloc)); (case side2 => exact Glob_below HG.out (by repeat (first | (with_reducible first | exact HB.out | apply below_alloc | apply pw_below_drewN | apply below_drew1) | exact HB.out))); rintro e w18 ⟨rfl, hb⟩; (try (have nE_ := Aside0.mk (ErR_below hb (by repeat (first | (with_reducible exact HE_t133.out) | (with_reducible exact ErR_none _) | (with_reducible exact Aside0.out (by assumption)) | (with_reducible apply ErR_drew) | (with_reducible apply ErR_drewN) | (with_reducible apply ErR_alloc) | (with_reducible refine ErR_set (by repeat (first | (with_reducible refine NF_blk (Aside0.out (by assumption)) (by decide)) | (with_reducible apply NF_set) | (with_reducible apply NF_drew) | (with_reducible apply NF_drewN) | (with_reducible apply NF_alloc))) ?_) | exact HE_t133.out | apply ErR_drew | apply ErR_drewN | apply ErR_alloc))); clear HE_t133; have HE_t133 := nE_; clear nE_)); have n0_ := Aside0.mk (below_step (by repeat (first | (with_reducible first | exact HB.out | apply below_alloc | apply pw_below_drewN | apply below_drew1) | exact HB.out)) hb); clear HB; have HB := n0_; clear n0_; (try clear hb); (try clear hb2); (try clear hk); (try clear hi)))
        go_ret
        exact ⟨by first | rfl | (simp [errW_none, errW_some] <;> rfl) | (simp [*, errW_none, errW_some] <;> rfl), by repeat (first | (with_reducible first | exact HB.out | apply below_alloc | apply pw_below_drewN | apply below_drew1) | exact HB.out)⟩
    · rw [if_neg c7] at H
      have c7b0 : decide (65521 < a0) = false := decide_eq_false c7
      clear c7
      rcases t133 with _ | q138
      · have H1 : ((geyserref08_Prime.f k a0).bind fun t139 => (if t132 = t139 then ((geyserlaw08_awake.f k).bind fun t140 => (some t140)) else (some false))) = some r := by rw [if_pos (show (none : Option Er).isNone = true by rfl)] at H; exact H
        clear H
        have H := H1
        clear H1
        try simp only [errW_none, errW_some]
        skip
        replace H := Option.bind_eq_some_iff.mp H
        obtain ⟨t139, A190, H⟩ := H
        replace H : (if t132 = t139 then ((geyserlaw08_awake.f k).bind fun t140 => (some t140)) else (some false)) = some r := H
        have A19 := Aside0.mk A190
        clear A190
        by_cases c20 : t132 = t139
        · rw [if_pos c20] at H
          have c20b0 : (t132 == t139) = true := beq_iff_eq.mpr c20
          have c20b1 : (t132 != t139) = false := bne_eq_false_iff_eq.mpr c20
          clear c20
          replace H := Option.bind_eq_some_iff.mp H
          obtain ⟨t140, A210, H⟩ := H
          replace H : (some t140) = some r := H
          have A21 := Aside0.mk A210
          clear A210
          obtain rfl := Option.some.inj H
          go_enter Tryd.func3, Tryd.ntmps3
          go_wp2_with (first | ((with_reducible refine gate_callee (f := 6) rfl ?_); refine goesL_ (some 7) rfl rfl Tryd.func6 (by kernel_rfl) rfl #[.int .i64 a0] rfl (by (try simp only [List.map_toArray, List.map_cons, List.map_nil]); first | done | rfl | (simp only [List.length_drop, List.length_take]; rfl)) ?_; (with_reducible refine (params_Prime.calls k a0 t132 none _ A2.out).mono ?_); rintro e w22 ⟨ez0, rfl, he0, hb⟩; refine ⟨_, rfl, ?_⟩; have n0_ := Aside0.mk (below_step (by repeat (first | (with_reducible first | exact HB.out | apply below_alloc | apply pw_below_drewN | apply below_drew1) | exact HB.out)) hb); clear HB; have HB := n0_; clear n0_; (try clear hb); (try clear hb2); (try clear hk); (try clear hi); obtain rfl := ErR_nil he0; clear he0) | ((with_reducible refine gate_callee (f := 7) rfl ?_); refine goesL_ (some 11) rfl rfl Tryd.func7 (by kernel_rfl) rfl #[.int .i64 a0] rfl (by (try simp only [List.map_toArray, List.map_cons, List.map_nil]); first | done | rfl | (simp only [List.length_drop, List.length_take]; rfl)) ?_; (with_reducible refine (IsPrime.calls a0 t134 _ A3.out).mono ?_); rintro e w' ⟨rfl, ⟨nd, rfl⟩⟩; refine ⟨_, rfl, ?_⟩) | ((with_reducible refine gate_callee (f := 8) rfl ?_); refine goesL_ (some 13) rfl rfl Tryd.func8 (by kernel_rfl) rfl #[.int .i64 a0] rfl (by (try simp only [List.map_toArray, List.map_cons, List.map_nil]); first | done | rfl | (simp only [List.length_drop, List.length_take]; rfl)) ?_; (with_reducible refine (geyserref08_IsPrime.calls k a0 t135 _ A4.out).mono ?_); rintro e w' ⟨rfl, ⟨nd, rfl⟩⟩; refine ⟨_, rfl, ?_⟩) | (go_at_call 11; (with_reducible refine (geyserref08_Prime.calls k a0 t139 _ A19.out).mono ?_); rintro e w23 ⟨rfl, hb⟩; have n0_ := Aside0.mk (below_step (by repeat (first | (with_reducible first | exact HB.out | apply below_alloc | apply pw_below_drewN | apply below_drew1) | exact HB.out)) hb); clear HB; have HB := n0_; clear n0_; (try clear hb); (try clear hb2); (try clear hk); (try clear hi)) | (go_at_call 10; (with_reducible refine (geyserlaw08_awake.calls k  t140 _ A21.out).mono ?_); rintro e w24 ⟨rfl, hb⟩; have n0_ := Aside0.mk (below_step (by repeat (first | (with_reducible first | exact HB.out | apply below_alloc | apply pw_below_drewN | apply below_drew1) | exact HB.out)) hb); clear HB; have HB := n0_; clear n0_; (try clear hb); (try clear hb2); (try clear hk); (try clear hi)))
          go_ret
          exact ⟨by first | rfl | (simp [errW_none, errW_some] <;> rfl) | (simp [*, errW_none, errW_some] <;> rfl), by repeat (first | (with_reducible first | exact HB.out | apply below_alloc | apply pw_below_drewN | apply below_drew1) | exact HB.out)⟩
        · rw [if_neg c20] at H
          have c20b0 : (t132 == t139) = false := beq_eq_false_iff_ne.mpr c20
          have c20b1 : (t132 != t139) = true := bne_iff_ne.mpr c20
          obtain rfl := Option.some.inj H
          go_enter Tryd.func3, Tryd.ntmps3
          go_wp2_with (first | ((with_reducible refine gate_callee (f := 6) rfl ?_); refine goesL_ (some 7) rfl rfl Tryd.func6 (by kernel_rfl) rfl #[.int .i64 a0] rfl (by (try simp only [List.map_toArray, List.map_cons, List.map_nil]); first | done | rfl | (simp only [List.length_drop, List.length_take]; rfl)) ?_; (with_reducible refine (params_Prime.calls k a0 t132 none _ A2.out).mono ?_); rintro e w25 ⟨ez0, rfl, he0, hb⟩; refine ⟨_, rfl, ?_⟩; have n0_ := Aside0.mk (below_step (by repeat (first | (with_reducible first | exact HB.out | apply below_alloc | apply pw_below_drewN | apply below_drew1) | exact HB.out)) hb); clear HB; have HB := n0_; clear n0_; (try clear hb); (try clear hb2); (try clear hk); (try clear hi); obtain rfl := ErR_nil he0; clear he0) | ((with_reducible refine gate_callee (f := 7) rfl ?_); refine goesL_ (some 11) rfl rfl Tryd.func7 (by kernel_rfl) rfl #[.int .i64 a0] rfl (by (try simp only [List.map_toArray, List.map_cons, List.map_nil]); first | done | rfl | (simp only [List.length_drop, List.length_take]; rfl)) ?_; (with_reducible refine (IsPrime.calls a0 t134 _ A3.out).mono ?_); rintro e w' ⟨rfl, ⟨nd, rfl⟩⟩; refine ⟨_, rfl, ?_⟩) | ((with_reducible refine gate_callee (f := 8) rfl ?_); refine goesL_ (some 13) rfl rfl Tryd.func8 (by kernel_rfl) rfl #[.int .i64 a0] rfl (by (try simp only [List.map_toArray, List.map_cons, List.map_nil]); first | done | rfl | (simp only [List.length_drop, List.length_take]; rfl)) ?_; (with_reducible refine (geyserref08_IsPrime.calls k a0 t135 _ A4.out).mono ?_); rintro e w' ⟨rfl, ⟨nd, rfl⟩⟩; refine ⟨_, rfl, ?_⟩) | (go_at_call 11; (with_reducible refine (geyserref08_Prime.calls k a0 t139 _ A19.out).mono ?_); rintro e w26 ⟨rfl, hb⟩; have n0_ := Aside0.mk (below_step (by repeat (first | (with_reducible first | exact HB.out | apply below_alloc | apply pw_below_drewN | apply below_drew1) | exact HB.out)) hb); clear HB; have HB := n0_; clear n0_; (try clear hb); (try clear hb2); (try clear hk); (try clear hi)))
          go_ret
          exact ⟨by first | rfl | (simp [errW_none, errW_some] <;> rfl) | (simp [*, errW_none, errW_some] <;> rfl), by repeat (first | (with_reducible first | exact HB.out | apply below_alloc | apply pw_below_drewN | apply below_drew1) | exact HB.out)⟩
      · have H1 : (some false) = some r := by rw [if_neg (show ¬ (some q138).isNone = true by simp)] at H; exact H
        clear H
        have H := H1
        clear H1
        try simp only [errW_none, errW_some]
        skip
        obtain rfl := Option.some.inj H
        go_enter Tryd.func3, Tryd.ntmps3
        go_wp2_with (first | ((with_reducible refine gate_callee (f := 6) rfl ?_); refine goesL_ (some 7) rfl rfl Tryd.func6 (by kernel_rfl) rfl #[.int .i64 a0] rfl (by (try simp only [List.map_toArray, List.map_cons, List.map_nil]); first | done | rfl | (simp only [List.length_drop, List.length_take]; rfl)) ?_; (with_reducible refine (params_Prime.calls k a0 t132 (some q138) _ A2.out).mono ?_); rintro e w27 ⟨ez0, rfl, he0, hb⟩; refine ⟨_, rfl, ?_⟩; have n0_ := Aside0.mk (below_step (by repeat (first | (with_reducible first | exact HB.out | apply below_alloc | apply pw_below_drewN | apply below_drew1) | exact HB.out)) hb); clear HB; have HB := n0_; clear n0_; (try clear hb); (try clear hb2); (try clear hk); (try clear hi); obtain ⟨ad_q138, rfl⟩ := ErR_ptr he0; have HE_q138 := Aside0.mk he0; clear he0) | ((with_reducible refine gate_callee (f := 7) rfl ?_); refine goesL_ (some 11) rfl rfl Tryd.func7 (by kernel_rfl) rfl #[.int .i64 a0] rfl (by (try simp only [List.map_toArray, List.map_cons, List.map_nil]); first | done | rfl | (simp only [List.length_drop, List.length_take]; rfl)) ?_; (with_reducible refine (IsPrime.calls a0 t134 _ A3.out).mono ?_); rintro e w' ⟨rfl, ⟨nd, rfl⟩⟩; refine ⟨_, rfl, ?_⟩) | ((with_reducible refine gate_callee (f := 8) rfl ?_); refine goesL_ (some 13) rfl rfl Tryd.func8 (by kernel_rfl) rfl #[.int .i64 a0] rfl (by (try simp only [List.map_toArray, List.map_cons, List.map_nil]); first | done | rfl | (simp only [List.length_drop, List.length_take]; rfl)) ?_; (with_reducible refine (geyserref08_IsPrime.calls k a0 t135 _ A4.out).mono ?_); rintro e w' ⟨rfl, ⟨nd, rfl⟩⟩; refine ⟨_, rfl, ?_⟩))
        go_ret
        exact ⟨by first | rfl | (simp [errW_none, errW_some] <;> rfl) | (simp [*, errW_none, errW_some] <;> rfl), by repeat (first | (with_reducible first | exact HB.out | apply below_alloc | apply pw_below_drewN | apply below_drew1) | exact HB.out)⟩

/-- THE ONE PURE STATEMENT of geyserlaw08_ParamsPrimes: yours. -/
def geyserlaw08_ParamsPrimes.Pure : Prop := ∀ (a0 : Int), (Lit.int .i64 a0).wf = true → ∃ k, geyserlaw08_ParamsPrimes.f k a0 = some true
theorem geyserlaw08_ParamsPrimes.walk (P : geyserlaw08_ParamsPrimes.Pure) (a0 : Int) (w : World) (w0 : (Lit.int .i64 a0).wf = true) (hG : Glob w) :
    Calls Tryd.prog 3 #[.int .i64 a0] w fun e w' => e = .returned (.bool true) ∧ Below w.heap.size w w' := by
  obtain ⟨k, h⟩ := P a0 w0
  refine (geyserlaw08_ParamsPrimes.calls k a0 true w hG h).mono ?_
  rintro e w' ⟨rfl, hd⟩
  exact ⟨rfl, hd⟩

end Go.Proofs.YtnlkeeaoknbmbaaDoor.QParamsPrimes
