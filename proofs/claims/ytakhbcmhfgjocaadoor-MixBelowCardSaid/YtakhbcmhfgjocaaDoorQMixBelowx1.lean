-- Written by a program of this session out of the translation. Lean checks it.
import Derived.Test.YtakhbcmhfgjocaaDoorQMixBelowx0
namespace Go.Proofs.YtakhbcmhfgjocaaDoor.QMixBelow
open Go.RowKit Go.Proofs.YtakhbcmhfgjocaaDoor.Er Go.Proofs.YtakhbcmhfgjocaaDoor.As Go.Proofs.YtakhbcmhfgjocaaDoor.Tells Go.Proofs.YtakhbcmhfgjocaaDoorW.PrintWords Go.Proofs.YtakhbcmhfgjocaaDoorW.PrintLast Go.Proofs.YtakhbcmhfgjocaaDoorW.PrintMore
attribute [local go_sem] max2_int min2_int max_two min_two max_three min_three max_four min_four   -- for this text's walks alone
set_option linter.unusedVariables false
set_option linter.unusedSimpArgs false

/-! ### mix_Mix: function 12 -/
def mix_Mix.f (a0 : Int) (a1 : Int) : Option (Int) := some (Go.bits .xor .u32 (((Go.bits .xor .u32 (((Go.bits .xor .u32 (((a0 * 2654435761) + a1) % 4294967296) ((((a0 * 2654435761) + a1) % 4294967296) / 65536)) * 2246822507) % 4294967296) ((((Go.bits .xor .u32 (((a0 * 2654435761) + a1) % 4294967296) ((((a0 * 2654435761) + a1) % 4294967296) / 65536)) * 2246822507) % 4294967296) / 8192)) * 3266489909) % 4294967296) ((((Go.bits .xor .u32 (((Go.bits .xor .u32 (((a0 * 2654435761) + a1) % 4294967296) ((((a0 * 2654435761) + a1) % 4294967296) / 65536)) * 2246822507) % 4294967296) ((((Go.bits .xor .u32 (((a0 * 2654435761) + a1) % 4294967296) ((((a0 * 2654435761) + a1) % 4294967296) / 65536)) * 2246822507) % 4294967296) / 8192)) * 3266489909) % 4294967296) / 65536))
set_option maxHeartbeats 8000000 in
set_option maxRecDepth 100000 in
theorem mix_Mix.calls (a0 : Int) (a1 : Int) (r : Int) (w : World) (h : mix_Mix.f a0 a1 = some r) :
    Calls Tryd.prog 12 #[.int .u32 a0, .int .u32 a1] w fun e w' => e = .returned (.int .u32 r) ∧ Drawn0 w w' := by
  have H : (some (Go.bits .xor .u32 (((Go.bits .xor .u32 (((Go.bits .xor .u32 (((a0 * 2654435761) + a1) % 4294967296) ((((a0 * 2654435761) + a1) % 4294967296) / 65536)) * 2246822507) % 4294967296) ((((Go.bits .xor .u32 (((a0 * 2654435761) + a1) % 4294967296) ((((a0 * 2654435761) + a1) % 4294967296) / 65536)) * 2246822507) % 4294967296) / 8192)) * 3266489909) % 4294967296) ((((Go.bits .xor .u32 (((Go.bits .xor .u32 (((a0 * 2654435761) + a1) % 4294967296) ((((a0 * 2654435761) + a1) % 4294967296) / 65536)) * 2246822507) % 4294967296) ((((Go.bits .xor .u32 (((a0 * 2654435761) + a1) % 4294967296) ((((a0 * 2654435761) + a1) % 4294967296) / 65536)) * 2246822507) % 4294967296) / 8192)) * 3266489909) % 4294967296) / 65536))) = some r := h
  clear h
  obtain rfl := Option.some.inj H
  go_enter Tryd.func12, Tryd.ntmps12
  go_wp2
  go_ret
  exact ⟨by first | rfl | (simp; done) | (simp [*]; done), by repeat (first | exact Drawn0.refl _ | apply Drawn0.step)⟩

/-! ### mix_Below: function 5 -/
def mix_Below.j0 : Nat → Int → Int → Int → Bool → Option (Int × Option Er)
  | 0, _, _, _, _ => none
  | k + 1, x0, x1, x2, x13 => if x13 = true then ((fault_New.f (⟨#[109, 105, 120, 46, 66, 101, 108, 111, 119]⟩ : ByteArray) 1).bind fun t101 => (some (0, t101))) else ((mix_Mix.f x0 x1).bind fun t102 => (if ((x2) % 4294967296) = 0 then (none) else (some (wrap64 (Int.tmod t102 ((x2) % 4294967296)), none))))
def mix_Below.f (k : Nat) (a0 : Int) (a1 : Int) (a2 : Int) : Option (Int × Option Er) := if a2 < 1 then (mix_Below.j0 k a0 a1 a2 true) else (mix_Below.j0 k a0 a1 a2 (decide (a2 > 1048576)))
theorem mix_Below.mono_l : ∀ k, (∀ y0 y1 y2 y3, LeO (mix_Below.j0 k y0 y1 y2 y3) (mix_Below.j0 (k + 1) y0 y1 y2 y3))
  | 0 => fun _ _ _ _ r h => by simp [mix_Below.j0] at h
  | k + 1 => by
    have ih0 := mix_Below.mono_l k
    · intro y0 y1 y2 y3
      unfold mix_Below.j0
      repeat' first
      | (with_reducible exact ih0 _ _ _ _)
      | (with_reducible exact LeO.refl _)
      | (with_reducible exact LeO.none _)
      | (with_reducible refine LeO.ite ?_ ?_)
      | (with_reducible refine LeO.bind ?_ (fun _ => ?_))
      | exact ih0 _ _ _ _
      | exact LeO.none _
      | refine LeO.ite ?_ ?_
      | refine LeO.bind ?_ (fun _ => ?_)
theorem mix_Below.mono : ∀ a0 a1 a2 k, LeO (mix_Below.f k a0 a1 a2) (mix_Below.f (k + 1) a0 a1 a2) := by
  intro a0 a1 a2 k
  have ih0 := mix_Below.mono_l k
  unfold mix_Below.f
  repeat' first
      | (with_reducible exact ih0 _ _ _ _)
      | (with_reducible exact LeO.refl _)
      | (with_reducible exact LeO.none _)
      | (with_reducible refine LeO.ite ?_ ?_)
      | (with_reducible refine LeO.bind ?_ (fun _ => ?_))
      | exact ih0 _ _ _ _
      | exact LeO.none _
      | refine LeO.ite ?_ ?_
      | refine LeO.bind ?_ (fun _ => ?_)
set_option maxHeartbeats 8000000 in
set_option maxRecDepth 100000 in
theorem mix_Below.calls (k : Nat) (a0 : Int) (a1 : Int) (a2 : Int) (r1 : Int) (r2 : Option Er) (w : World) (h : mix_Below.f k a0 a1 a2 = some (r1, r2)) :
    Calls Tryd.prog 5 #[.int .u32 a0, .int .u32 a1, .int .i64 a2] w fun e w' => ∃ e1_ : Value, e = .returned (.tuple #[.int .i64 r1, e1_]) ∧ ErR w' e1_ r2 ∧ Below w.heap.size w w' := by
  have HB := Aside0.mk (Below.refl w.heap.size w)
  have H : (if a2 < 1 then (mix_Below.j0 k a0 a1 a2 true) else (mix_Below.j0 k a0 a1 a2 (decide (a2 > 1048576)))) = some (r1, r2) := h
  clear h
  have HC4 := Aside0.mk H
  clear H
  go_enter Tryd.func5, Tryd.ntmps5
  go_upto_region 1 with (fail)
  go_cut [13] (fun v13 wc => ∃ (kq : Nat) (x13_3 : Bool), v13 = .bool x13_3 ∧ Aside0 (mix_Below.j0 kq a0 a1 a2 x13_3 = some (r1, r2)) ∧ Aside0 (kq ≤ k) ∧ Aside0 (Below w.heap.size w wc))
  case first =>
    have H := HC4.out
    clear HC4
    by_cases c5 : a2 < 1
    · rw [if_pos c5] at H
      have c5b0 : decide (a2 < 1) = true := decide_eq_true c5
      clear c5
      (first | rw [c5b0] | (simp only [i64_w, i32_w]; rw [c5b0]) | skip)
      have H' := Aside0.mk H
      clear H
      go_wp2
      go_meet
      case rel => exact ⟨_, (true), (by first | rfl | (simp; done) | (simp [*]; done)), H', ⟨by first | omega | exact Nat.le_refl _⟩, ⟨by repeat (first | (with_reducible first | exact HB.out | apply below_alloc | apply pw_below_drewN | apply below_drew1) | exact HB.out)⟩⟩
    · rw [if_neg c5] at H
      have c5b0 : decide (a2 < 1) = false := decide_eq_false c5
      clear c5
      (first | rw [c5b0] | (simp only [i64_w, i32_w]; rw [c5b0]) | skip)
      have H' := Aside0.mk H
      clear H
      go_wp2
      go_meet
      case rel => exact ⟨_, (decide (a2 > 1048576)), (by first | rfl | (simp; done) | (simp [*]; done)), H', ⟨by first | omega | exact Nat.le_refl _⟩, ⟨by repeat (first | (with_reducible first | exact HB.out | apply below_alloc | apply pw_below_drewN | apply below_drew1) | exact HB.out)⟩⟩
  case rest =>
    clear HC4
    try clear p2
    try clear c5
    try clear c5b0
    obtain ⟨kq, x13_3, rfl, HA, HJ3, HB⟩ := hcut
    cases kq with
    | zero => exact absurd HA.out (by simp [mix_Below.j0])
    | succ kj3 =>
      have H := HA.out
      clear HA
      simp only [mix_Below.j0] at H
      by_cases c6 : x13_3 = true
      · subst c6
        have H1 : ((fault_New.f (⟨#[109, 105, 120, 46, 66, 101, 108, 111, 119]⟩ : ByteArray) 1).bind fun t101 => (some (0, t101))) = some (r1, r2) := by rw [if_pos rfl] at H; exact H
        clear H
        have H := H1
        clear H1
        replace H := Option.bind_eq_some_iff.mp H
        obtain ⟨t101, A70, H⟩ := H
        replace H : (some (0, t101)) = some (r1, r2) := H
        have A7 := Aside0.mk A70
        clear A70
        simp only [Option.some.injEq, Prod.mk.injEq] at H
        obtain ⟨rfl, rfl⟩ := H
        go_wp2_with (first | ((with_reducible refine gate_callee (f := 11) rfl ?_); refine goesL_ (some 14) rfl rfl Tryd.func11 (by kernel_rfl) rfl #[.string (⟨#[109, 105, 120, 46, 66, 101, 108, 111, 119]⟩ : ByteArray), .int .i64 1] rfl (by (try simp only [List.map_toArray, List.map_cons, List.map_nil]); first | done | rfl | (simp only [List.length_drop, List.length_take]; rfl)) ?_; (with_reducible refine (fault_New.calls (⟨#[109, 105, 120, 46, 66, 101, 108, 111, 119]⟩ : ByteArray) 1 t101 _ A7.out).mono ?_); rintro e w8 ⟨ev_t101, rfl, he0, hb⟩; refine ⟨_, rfl, ?_⟩; have n0_ := Aside0.mk (below_step (by repeat (first | (with_reducible first | exact HB.out | apply below_alloc | apply pw_below_drewN | apply below_drew1) | exact HB.out)) hb); clear HB; have HB := n0_; clear n0_; (try clear hb); (try clear hb2); (try clear hk); (try clear hi); have HE_t101 := Aside0.mk he0; clear he0))
        go_ret2
        exact ⟨_, by first | rfl | (simp [errW_none, errW_some] <;> rfl) | (simp [*, errW_none, errW_some] <;> rfl), (by repeat (first | exact HE_t101.out | exact HE_t101.out | apply ErR_drew | apply ErR_drewN | apply ErR_alloc)), by repeat (first | (with_reducible first | exact HB.out | apply below_alloc | apply pw_below_drewN | apply below_drew1) | exact HB.out)⟩
      · replace c6 := Bool.eq_false_iff.mpr c6
        subst c6
        have H1 : ((mix_Mix.f a0 a1).bind fun t102 => (if ((a2) % 4294967296) = 0 then (none) else (some (wrap64 (Int.tmod t102 ((a2) % 4294967296)), none)))) = some (r1, r2) := by rw [if_neg (show ¬ (false = true) by decide)] at H; exact H
        clear H
        have H := H1
        clear H1
        replace H := Option.bind_eq_some_iff.mp H
        obtain ⟨t102, A90, H⟩ := H
        replace H : (if ((a2) % 4294967296) = 0 then (none) else (some (wrap64 (Int.tmod t102 ((a2) % 4294967296)), none))) = some (r1, r2) := H
        have A9 := Aside0.mk A90
        clear A90
        by_cases c10 : ((a2) % 4294967296) = 0
        · rw [if_pos c10] at H
          exact absurd H (by simp)
        · rw [if_neg c10] at H
          have c10b0 : (((a2) % 4294967296) == 0) = false := beq_eq_false_iff_ne.mpr c10
          have c10b1 : (((a2) % 4294967296) != 0) = true := bne_iff_ne.mpr c10
          simp only [Option.some.injEq, Prod.mk.injEq] at H
          obtain ⟨rfl, rfl⟩ := H
          go_wp2_with (first | ((with_reducible refine gate_callee (f := 12) rfl ?_); refine goesL_ (some 17) rfl rfl Tryd.func12 (by kernel_rfl) rfl #[.int .u32 a0, .int .u32 a1] rfl (by (try simp only [List.map_toArray, List.map_cons, List.map_nil]); first | done | rfl | (simp only [List.length_drop, List.length_take]; rfl)) ?_; (with_reducible refine (mix_Mix.calls a0 a1 t102 _ A9.out).mono ?_); rintro e w' ⟨rfl, ⟨nd, rfl⟩⟩; refine ⟨_, rfl, ?_⟩))
          go_ret2
          exact ⟨_, by first | rfl | (simp [errW_none, errW_some] <;> rfl) | (simp [*, errW_none, errW_some] <;> rfl), (by exact ErR_none _), by repeat (first | (with_reducible first | exact HB.out | apply below_alloc | apply pw_below_drewN | apply below_drew1) | exact HB.out)⟩

/-! ### geyserref06_Check: function 6 -/
def geyserref06_Check.f (a0 : Int) : Option (Int) := if a0 < 1 then (some 1) else (if a0 > 1048576 then (some 1) else (some 0))
set_option maxHeartbeats 8000000 in
set_option maxRecDepth 100000 in
theorem geyserref06_Check.calls (a0 : Int) (r : Int) (w : World) (h : geyserref06_Check.f a0 = some r) :
    Calls Tryd.prog 6 #[.int .i64 a0] w fun e w' => e = .returned (.int .i64 r) ∧ Drawn0 w w' := by
  have H : (if a0 < 1 then (some 1) else (if a0 > 1048576 then (some 1) else (some 0))) = some r := h
  clear h
  by_cases c2 : a0 < 1
  · rw [if_pos c2] at H
    have c2b0 : decide (a0 < 1) = true := decide_eq_true c2
    clear c2
    obtain rfl := Option.some.inj H
    go_enter Tryd.func6, Tryd.ntmps6
    go_wp2
    go_ret
    exact ⟨by first | rfl | (simp; done) | (simp [*]; done), by repeat (first | exact Drawn0.refl _ | apply Drawn0.step)⟩
  · rw [if_neg c2] at H
    have c2b0 : decide (a0 < 1) = false := decide_eq_false c2
    clear c2
    by_cases c3 : a0 > 1048576
    · rw [if_pos c3] at H
      have c3b0 : decide (1048576 < a0) = true := decide_eq_true c3
      clear c3
      obtain rfl := Option.some.inj H
      go_enter Tryd.func6, Tryd.ntmps6
      go_wp2
      go_ret
      exact ⟨by first | rfl | (simp; done) | (simp [*]; done), by repeat (first | exact Drawn0.refl _ | apply Drawn0.step)⟩
    · rw [if_neg c3] at H
      have c3b0 : decide (1048576 < a0) = false := decide_eq_false c3
      clear c3
      obtain rfl := Option.some.inj H
      go_enter Tryd.func6, Tryd.ntmps6
      go_wp2
      go_ret
      exact ⟨by first | rfl | (simp; done) | (simp [*]; done), by repeat (first | exact Drawn0.refl _ | apply Drawn0.step)⟩

/-! ### mix_inverse: function 21 -/
def mix_inverse.l0 : Nat → Int → Int → Int → Option (Int)
  | 0, _, _, _ => none
  | k + 1, x0, x3, x5 => if x5 < 4 then (mix_inverse.l0 k x0 ((x3 * ((2 - (x0 * x3)) % 4294967296)) % 4294967296) (wrap64 (x5 + 1))) else (some x3)
def mix_inverse.f (k : Nat) (a0 : Int) : Option (Int) := mix_inverse.l0 k a0 a0 0
theorem mix_inverse.mono_l : ∀ k, (∀ y0 y1 y2, LeO (mix_inverse.l0 k y0 y1 y2) (mix_inverse.l0 (k + 1) y0 y1 y2))
  | 0 => fun _ _ _ r h => by simp [mix_inverse.l0] at h
  | k + 1 => by
    have ih0 := mix_inverse.mono_l k
    · intro y0 y1 y2
      unfold mix_inverse.l0
      repeat' first
      | (with_reducible exact ih0 _ _ _)
      | (with_reducible exact LeO.refl _)
      | (with_reducible exact LeO.none _)
      | (with_reducible refine LeO.ite ?_ ?_)
      | (with_reducible refine LeO.bind ?_ (fun _ => ?_))
      | exact ih0 _ _ _
      | exact LeO.none _
      | refine LeO.ite ?_ ?_
      | refine LeO.bind ?_ (fun _ => ?_)
theorem mix_inverse.mono : ∀ a0 k, LeO (mix_inverse.f k a0) (mix_inverse.f (k + 1) a0) := by
  intro a0 k
  have ih0 := mix_inverse.mono_l k
  unfold mix_inverse.f
  repeat' first
      | (with_reducible exact ih0 _ _ _)
      | (with_reducible exact LeO.refl _)
      | (with_reducible exact LeO.none _)
      | (with_reducible refine LeO.ite ?_ ?_)
      | (with_reducible refine LeO.bind ?_ (fun _ => ?_))
      | exact ih0 _ _ _
      | exact LeO.none _
      | refine LeO.ite ?_ ?_
      | refine LeO.bind ?_ (fun _ => ?_)
set_option maxHeartbeats 8000000 in
set_option maxRecDepth 100000 in
theorem mix_inverse.calls (k : Nat) (a0 : Int) (r : Int) (w : World) (h : mix_inverse.f k a0 = some r) :
    Calls Tryd.prog 21 #[.int .u32 a0] w fun e w' => e = .returned (.int .u32 r) ∧ Drawn0 w w' := by
  have H : (mix_inverse.l0 k a0 a0 0) = some r := h
  clear h
  have H' := Aside0.mk H
  clear H
  go_enter Tryd.func21, Tryd.ntmps21
  go_wp2
  go_loopg [3, 5] k (fun kq v3 v5 w' => ∃ (x3_1 : Int) (x5_1 : Int), v3 = .int .u32 x3_1 ∧ v5 = .int .i64 x5_1 ∧ Aside0 (mix_inverse.l0 kq a0 x3_1 x5_1 = some r) ∧ Aside0 (kq ≤ k) ∧ Drawn0 w w')
  case atStart => exact ⟨(a0), (0), (by first | rfl | (simp; done) | (simp [*]; done)), (by first | rfl | (simp; done) | (simp [*]; done)), H', ⟨Nat.le_refl _⟩, by repeat (first | exact Drawn0.refl _ | apply Drawn0.step)⟩
  case round =>
    clear H'
    obtain ⟨x3_1, x5_1, rfl, rfl, HA, HK1, ⟨m1, rfl⟩⟩ := hrel
    cases gk with
    | zero => exact absurd HA.out (by simp [mix_inverse.l0])
    | succ k1 =>
      have H := HA.out
      clear HA
      simp only [mix_inverse.l0] at H
      by_cases c2 : x5_1 < 4
      · rw [if_pos c2] at H
        have c2b0 : decide (x5_1 < 4) = true := decide_eq_true c2
        clear c2
        have H' := Aside0.mk H
        clear H
        go_wp2
        go_roundg k1
        case measure => have := HK1.out; omega
        case rel => exact ⟨((x3_1 * ((2 - (a0 * x3_1)) % 4294967296)) % 4294967296), (wrap64 (x5_1 + 1)), (by first | rfl | (simp; done) | (simp [*]; done)), (by first | rfl | (simp; done) | (simp [*]; done)), H', ⟨by have := HK1.out; omega⟩, by repeat (first | exact Drawn0.refl _ | apply Drawn0.step)⟩
      · rw [if_neg c2] at H
        have c2b0 : decide (x5_1 < 4) = false := decide_eq_false c2
        clear c2
        obtain rfl := Option.some.inj H
        go_wp2
        go_ret
        exact ⟨by first | rfl | (simp; done) | (simp [*]; done), by repeat (first | exact Drawn0.refl _ | apply Drawn0.step)⟩

/-! ### mix_Unmix: function 14 -/
def mix_Unmix.f (k : Nat) (a0 : Int) (a1 : Int) : Option (Int) := (mix_inverse.f k 3266489909).bind fun t103 => ((mix_inverse.f k 2246822507).bind fun t104 => ((mix_inverse.f k 2654435761).bind fun t105 => (some (((((Go.bits .xor .u32 (((Go.bits .xor .u32 (((Go.bits .xor .u32 a0 (a0 / 65536)) * t103) % 4294967296) (Go.bits .xor .u32 ((((Go.bits .xor .u32 a0 (a0 / 65536)) * t103) % 4294967296) / 8192) ((((Go.bits .xor .u32 a0 (a0 / 65536)) * t103) % 4294967296) / 67108864))) * t104) % 4294967296) ((((Go.bits .xor .u32 (((Go.bits .xor .u32 a0 (a0 / 65536)) * t103) % 4294967296) (Go.bits .xor .u32 ((((Go.bits .xor .u32 a0 (a0 / 65536)) * t103) % 4294967296) / 8192) ((((Go.bits .xor .u32 a0 (a0 / 65536)) * t103) % 4294967296) / 67108864))) * t104) % 4294967296) / 65536)) - a1) % 4294967296) * t105) % 4294967296))))
theorem mix_Unmix.mono : ∀ a0 a1 k, LeO (mix_Unmix.f k a0 a1) (mix_Unmix.f (k + 1) a0 a1) := by
  intro a0 a1 k
  unfold mix_Unmix.f
  repeat' first
      | (with_reducible exact mix_inverse.mono _ _)
      | (with_reducible exact LeO.refl _)
      | (with_reducible exact LeO.none _)
      | (with_reducible refine LeO.ite ?_ ?_)
      | (with_reducible refine LeO.bind ?_ (fun _ => ?_))
      | exact mix_inverse.mono _ _
      | exact LeO.none _
      | refine LeO.ite ?_ ?_
      | refine LeO.bind ?_ (fun _ => ?_)
set_option maxHeartbeats 8000000 in
set_option maxRecDepth 100000 in
theorem mix_Unmix.calls (k : Nat) (a0 : Int) (a1 : Int) (r : Int) (w : World) (h : mix_Unmix.f k a0 a1 = some r) :
    Calls Tryd.prog 14 #[.int .u32 a0, .int .u32 a1] w fun e w' => e = .returned (.int .u32 r) ∧ Drawn0 w w' := by
  have H : ((mix_inverse.f k 3266489909).bind fun t103 => ((mix_inverse.f k 2246822507).bind fun t104 => ((mix_inverse.f k 2654435761).bind fun t105 => (some (((((Go.bits .xor .u32 (((Go.bits .xor .u32 (((Go.bits .xor .u32 a0 (a0 / 65536)) * t103) % 4294967296) (Go.bits .xor .u32 ((((Go.bits .xor .u32 a0 (a0 / 65536)) * t103) % 4294967296) / 8192) ((((Go.bits .xor .u32 a0 (a0 / 65536)) * t103) % 4294967296) / 67108864))) * t104) % 4294967296) ((((Go.bits .xor .u32 (((Go.bits .xor .u32 a0 (a0 / 65536)) * t103) % 4294967296) (Go.bits .xor .u32 ((((Go.bits .xor .u32 a0 (a0 / 65536)) * t103) % 4294967296) / 8192) ((((Go.bits .xor .u32 a0 (a0 / 65536)) * t103) % 4294967296) / 67108864))) * t104) % 4294967296) / 65536)) - a1) % 4294967296) * t105) % 4294967296))))) = some r := h
  clear h
  replace H := Option.bind_eq_some_iff.mp H
  obtain ⟨t103, A30, H⟩ := H
  replace H : ((mix_inverse.f k 2246822507).bind fun t104 => ((mix_inverse.f k 2654435761).bind fun t105 => (some (((((Go.bits .xor .u32 (((Go.bits .xor .u32 (((Go.bits .xor .u32 a0 (a0 / 65536)) * t103) % 4294967296) (Go.bits .xor .u32 ((((Go.bits .xor .u32 a0 (a0 / 65536)) * t103) % 4294967296) / 8192) ((((Go.bits .xor .u32 a0 (a0 / 65536)) * t103) % 4294967296) / 67108864))) * t104) % 4294967296) ((((Go.bits .xor .u32 (((Go.bits .xor .u32 a0 (a0 / 65536)) * t103) % 4294967296) (Go.bits .xor .u32 ((((Go.bits .xor .u32 a0 (a0 / 65536)) * t103) % 4294967296) / 8192) ((((Go.bits .xor .u32 a0 (a0 / 65536)) * t103) % 4294967296) / 67108864))) * t104) % 4294967296) / 65536)) - a1) % 4294967296) * t105) % 4294967296)))) = some r := H
  have A3 := Aside0.mk A30
  clear A30
  replace H := Option.bind_eq_some_iff.mp H
  obtain ⟨t104, A40, H⟩ := H
  replace H : ((mix_inverse.f k 2654435761).bind fun t105 => (some (((((Go.bits .xor .u32 (((Go.bits .xor .u32 (((Go.bits .xor .u32 a0 (a0 / 65536)) * t103) % 4294967296) (Go.bits .xor .u32 ((((Go.bits .xor .u32 a0 (a0 / 65536)) * t103) % 4294967296) / 8192) ((((Go.bits .xor .u32 a0 (a0 / 65536)) * t103) % 4294967296) / 67108864))) * t104) % 4294967296) ((((Go.bits .xor .u32 (((Go.bits .xor .u32 a0 (a0 / 65536)) * t103) % 4294967296) (Go.bits .xor .u32 ((((Go.bits .xor .u32 a0 (a0 / 65536)) * t103) % 4294967296) / 8192) ((((Go.bits .xor .u32 a0 (a0 / 65536)) * t103) % 4294967296) / 67108864))) * t104) % 4294967296) / 65536)) - a1) % 4294967296) * t105) % 4294967296))) = some r := H
  have A4 := Aside0.mk A40
  clear A40
  replace H := Option.bind_eq_some_iff.mp H
  obtain ⟨t105, A50, H⟩ := H
  replace H : (some (((((Go.bits .xor .u32 (((Go.bits .xor .u32 (((Go.bits .xor .u32 a0 (a0 / 65536)) * t103) % 4294967296) (Go.bits .xor .u32 ((((Go.bits .xor .u32 a0 (a0 / 65536)) * t103) % 4294967296) / 8192) ((((Go.bits .xor .u32 a0 (a0 / 65536)) * t103) % 4294967296) / 67108864))) * t104) % 4294967296) ((((Go.bits .xor .u32 (((Go.bits .xor .u32 a0 (a0 / 65536)) * t103) % 4294967296) (Go.bits .xor .u32 ((((Go.bits .xor .u32 a0 (a0 / 65536)) * t103) % 4294967296) / 8192) ((((Go.bits .xor .u32 a0 (a0 / 65536)) * t103) % 4294967296) / 67108864))) * t104) % 4294967296) / 65536)) - a1) % 4294967296) * t105) % 4294967296)) = some r := H
  have A5 := Aside0.mk A50
  clear A50
  obtain rfl := Option.some.inj H
  go_enter Tryd.func14, Tryd.ntmps14
  go_wp2_with (first | ((with_reducible refine gate_callee (f := 21) rfl ?_); refine goesL_ (some 10) rfl rfl Tryd.func21 (by kernel_rfl) rfl #[.int .u32 3266489909] rfl (by (try simp only [List.map_toArray, List.map_cons, List.map_nil]); first | done | rfl | (simp only [List.length_drop, List.length_take]; rfl)) ?_; (with_reducible refine (mix_inverse.calls k 3266489909 t103 _ A3.out).mono ?_); rintro e w' ⟨rfl, ⟨nd, rfl⟩⟩; refine ⟨_, rfl, ?_⟩) | ((with_reducible refine gate_callee (f := 21) rfl ?_); refine goesL_ (some 20) rfl rfl Tryd.func21 (by kernel_rfl) rfl #[.int .u32 2246822507] rfl (by (try simp only [List.map_toArray, List.map_cons, List.map_nil]); first | done | rfl | (simp only [List.length_drop, List.length_take]; rfl)) ?_; (with_reducible refine (mix_inverse.calls k 2246822507 t104 _ A4.out).mono ?_); rintro e w' ⟨rfl, ⟨nd, rfl⟩⟩; refine ⟨_, rfl, ?_⟩) | ((with_reducible refine gate_callee (f := 21) rfl ?_); refine goesL_ (some 29) rfl rfl Tryd.func21 (by kernel_rfl) rfl #[.int .u32 2654435761] rfl (by (try simp only [List.map_toArray, List.map_cons, List.map_nil]); first | done | rfl | (simp only [List.length_drop, List.length_take]; rfl)) ?_; (with_reducible refine (mix_inverse.calls k 2654435761 t105 _ A5.out).mono ?_); rintro e w' ⟨rfl, ⟨nd, rfl⟩⟩; refine ⟨_, rfl, ?_⟩))
  go_ret
  exact ⟨by first | rfl | (simp; done) | (simp [*]; done), by repeat (first | exact Drawn0.refl _ | apply Drawn0.step)⟩

/-! ### geyserlaw06_awake: function 8 -/
def geyserlaw06_awake.f (k : Nat)  : Option (Bool) := (mix_Mix.f 0 0).bind fun t106 => (if t106 = 0 then ((mix_Mix.f 7 9).bind fun t107 => (if t107 = 0 then (some false) else ((mix_Unmix.f k t107 9).bind fun t108 => (some (t108 == 7))))) else (some false))
theorem geyserlaw06_awake.mono : ∀ k, LeO (geyserlaw06_awake.f k ) (geyserlaw06_awake.f (k + 1) ) := by
  intro  k
  unfold geyserlaw06_awake.f
  repeat' first
      | (with_reducible exact mix_Unmix.mono _ _ _)
      | (with_reducible exact LeO.refl _)
      | (with_reducible exact LeO.none _)
      | (with_reducible refine LeO.ite ?_ ?_)
      | (with_reducible refine LeO.bind ?_ (fun _ => ?_))
      | exact mix_Unmix.mono _ _ _
      | exact LeO.none _
      | refine LeO.ite ?_ ?_
      | refine LeO.bind ?_ (fun _ => ?_)
set_option maxHeartbeats 8000000 in
set_option maxRecDepth 100000 in
theorem geyserlaw06_awake.calls (k : Nat)  (r : Bool) (w : World) (h : geyserlaw06_awake.f k  = some r) :
    Calls Tryd.prog 8 #[] w fun e w' => e = .returned (.bool r) ∧ Drawn0 w w' := by
  have H : ((mix_Mix.f 0 0).bind fun t106 => (if t106 = 0 then ((mix_Mix.f 7 9).bind fun t107 => (if t107 = 0 then (some false) else ((mix_Unmix.f k t107 9).bind fun t108 => (some (t108 == 7))))) else (some false))) = some r := h
  clear h
  replace H := Option.bind_eq_some_iff.mp H
  obtain ⟨t106, A10, H⟩ := H
  replace H : (if t106 = 0 then ((mix_Mix.f 7 9).bind fun t107 => (if t107 = 0 then (some false) else ((mix_Unmix.f k t107 9).bind fun t108 => (some (t108 == 7))))) else (some false)) = some r := H
  have A1 := Aside0.mk A10
  clear A10
  by_cases c2 : t106 = 0
  · rw [if_pos c2] at H
    have c2b0 : (t106 == 0) = true := beq_iff_eq.mpr c2
    have c2b1 : (t106 != 0) = false := bne_eq_false_iff_eq.mpr c2
    clear c2
    replace H := Option.bind_eq_some_iff.mp H
    obtain ⟨t107, A30, H⟩ := H
    replace H : (if t107 = 0 then (some false) else ((mix_Unmix.f k t107 9).bind fun t108 => (some (t108 == 7)))) = some r := H
    have A3 := Aside0.mk A30
    clear A30
    by_cases c4 : t107 = 0
    · rw [if_pos c4] at H
      have c4b0 : (t107 == 0) = true := beq_iff_eq.mpr c4
      have c4b1 : (t107 != 0) = false := bne_eq_false_iff_eq.mpr c4
      clear c4
      obtain rfl := Option.some.inj H
      go_enter Tryd.func8, Tryd.ntmps8
      go_wp2_with (first | ((with_reducible refine gate_callee (f := 12) rfl ?_); refine goesL_ (some 1) rfl rfl Tryd.func12 (by kernel_rfl) rfl #[.int .u32 0, .int .u32 0] rfl (by (try simp only [List.map_toArray, List.map_cons, List.map_nil]); first | done | rfl | (simp only [List.length_drop, List.length_take]; rfl)) ?_; (with_reducible refine (mix_Mix.calls 0 0 t106 _ A1.out).mono ?_); rintro e w' ⟨rfl, ⟨nd, rfl⟩⟩; refine ⟨_, rfl, ?_⟩) | (go_at_call 12; (with_reducible refine (mix_Mix.calls 7 9 t107 _ A3.out).mono ?_); rintro e w' ⟨rfl, ⟨nd, rfl⟩⟩))
      go_ret
      exact ⟨by first | rfl | (simp; done) | (simp [*]; done), by repeat (first | exact Drawn0.refl _ | apply Drawn0.step)⟩
    · rw [if_neg c4] at H
      have c4b0 : (t107 == 0) = false := beq_eq_false_iff_ne.mpr c4
      have c4b1 : (t107 != 0) = true := bne_iff_ne.mpr c4
      replace H := Option.bind_eq_some_iff.mp H
      obtain ⟨t108, A50, H⟩ := H
      replace H : (some (t108 == 7)) = some r := H
      have A5 := Aside0.mk A50
      clear A50
      obtain rfl := Option.some.inj H
      go_enter Tryd.func8, Tryd.ntmps8
      go_wp2_with (first | ((with_reducible refine gate_callee (f := 12) rfl ?_); refine goesL_ (some 1) rfl rfl Tryd.func12 (by kernel_rfl) rfl #[.int .u32 0, .int .u32 0] rfl (by (try simp only [List.map_toArray, List.map_cons, List.map_nil]); first | done | rfl | (simp only [List.length_drop, List.length_take]; rfl)) ?_; (with_reducible refine (mix_Mix.calls 0 0 t106 _ A1.out).mono ?_); rintro e w' ⟨rfl, ⟨nd, rfl⟩⟩; refine ⟨_, rfl, ?_⟩) | (go_at_call 12; (with_reducible refine (mix_Mix.calls 7 9 t107 _ A3.out).mono ?_); rintro e w' ⟨rfl, ⟨nd, rfl⟩⟩) | (go_at_call 14; (with_reducible refine (mix_Unmix.calls k t107 9 t108 _ A5.out).mono ?_); rintro e w' ⟨rfl, ⟨nd, rfl⟩⟩))
      go_ret
      exact ⟨by first | rfl | (simp; done) | (simp [*]; done), by repeat (first | exact Drawn0.refl _ | apply Drawn0.step)⟩
  · rw [if_neg c2] at H
    have c2b0 : (t106 == 0) = false := beq_eq_false_iff_ne.mpr c2
    have c2b1 : (t106 != 0) = true := bne_iff_ne.mpr c2
    obtain rfl := Option.some.inj H
    go_enter Tryd.func8, Tryd.ntmps8
    go_wp2_with (first | ((with_reducible refine gate_callee (f := 12) rfl ?_); refine goesL_ (some 1) rfl rfl Tryd.func12 (by kernel_rfl) rfl #[.int .u32 0, .int .u32 0] rfl (by (try simp only [List.map_toArray, List.map_cons, List.map_nil]); first | done | rfl | (simp only [List.length_drop, List.length_take]; rfl)) ?_; (with_reducible refine (mix_Mix.calls 0 0 t106 _ A1.out).mono ?_); rintro e w' ⟨rfl, ⟨nd, rfl⟩⟩; refine ⟨_, rfl, ?_⟩))
    go_ret
    exact ⟨by first | rfl | (simp; done) | (simp [*]; done), by repeat (first | exact Drawn0.refl _ | apply Drawn0.step)⟩

/-! ### geyserref06_times: function 22 -/
def geyserref06_times.f (a0 : Int) (a1 : Int) : Option (Int) := some (Int.tmod (IntKind.u64.wrap ((IntKind.u64.wrap (a0 * (Int.tmod a1 65536))) + (IntKind.u64.wrap ((Int.tmod (IntKind.u64.wrap (a0 * (IntKind.u64.wrap (Int.tdiv a1 65536)))) 4294967296) * 65536)))) 4294967296)
set_option maxHeartbeats 8000000 in
set_option maxRecDepth 100000 in
theorem geyserref06_times.calls (a0 : Int) (a1 : Int) (r : Int) (w : World) (h : geyserref06_times.f a0 a1 = some r) :
    Calls Tryd.prog 22 #[.int .u64 a0, .int .u64 a1] w fun e w' => e = .returned (.int .u64 r) ∧ Drawn0 w w' := by
  have H : (some (Int.tmod (IntKind.u64.wrap ((IntKind.u64.wrap (a0 * (Int.tmod a1 65536))) + (IntKind.u64.wrap ((Int.tmod (IntKind.u64.wrap (a0 * (IntKind.u64.wrap (Int.tdiv a1 65536)))) 4294967296) * 65536)))) 4294967296)) = some r := h
  clear h
  obtain rfl := Option.some.inj H
  go_enter Tryd.func22, Tryd.ntmps22
  go_wp2
  go_ret
  exact ⟨by first | rfl | (simp; done) | (simp [*]; done), by repeat (first | exact Drawn0.refl _ | apply Drawn0.step)⟩

/-! ### geyserref06_fold: function 23 -/
def geyserref06_fold.f (a0 : Int) (a1 : Int) : Option (Int) := if 0 ≤ a1 then (some (Go.bits .xor .u64 a0 (shr .u64 a0 a1))) else (none)
set_option maxHeartbeats 8000000 in
set_option maxRecDepth 100000 in
theorem geyserref06_fold.calls (a0 : Int) (a1 : Int) (r : Int) (w : World) (h : geyserref06_fold.f a0 a1 = some r) :
    Calls Tryd.prog 23 #[.int .u64 a0, .int .u64 a1] w fun e w' => e = .returned (.int .u64 r) ∧ Drawn0 w w' := by
  have H : (if 0 ≤ a1 then (some (Go.bits .xor .u64 a0 (shr .u64 a0 a1))) else (none)) = some r := h
  clear h
  by_cases c3 : 0 ≤ a1
  · rw [if_pos c3] at H
    have c3b0 := eq_true c3
    have c3b1 : decide (0 ≤ a1) = true := decide_eq_true c3
    clear c3
    obtain ⟨ji4, hji4⟩ : ∃ j_ : Int, (shr .u64 a0 a1) = j_ := ⟨_, rfl⟩
    replace H : (some (Go.bits .xor .u64 a0 (ji4))) = some r := by first | (rw [hji4] at H; exact H) | (simp only [hji4] at H ⊢; exact H)
    have hji4_ : (a0 / 2 ^ min a1.toNat 64) = ji4 := hji4
    have hji4z : a1 ≤ 64 → (a0 / 2 ^ a1.toNat) = ji4 := shr_small hji4
    obtain rfl := Option.some.inj H
    go_enter Tryd.func23, Tryd.ntmps23
    go_wp2
    go_ret
    exact ⟨by first | rfl | (simp; done) | (simp only [← hji4] <;> (first | rfl | simp)) | (simp [*]; done), by repeat (first | exact Drawn0.refl _ | apply Drawn0.step)⟩
  · rw [if_neg c3] at H
    exact absurd H (by simp)

/-! ### geyserref06_Mix: function 15 -/
def geyserref06_Mix.f (a0 : Int) (a1 : Int) : Option (Int) := (geyserref06_times.f (IntKind.u64.wrap (a0)) 2654435761).bind fun t109 => ((geyserref06_fold.f (Int.tmod (IntKind.u64.wrap (t109 + (IntKind.u64.wrap (a1)))) 4294967296) 16).bind fun t110 => ((geyserref06_times.f t110 2246822507).bind fun t111 => ((geyserref06_fold.f t111 13).bind fun t112 => ((geyserref06_times.f t112 3266489909).bind fun t113 => ((geyserref06_fold.f t113 16).bind fun t114 => (some ((t114) % 4294967296)))))))
set_option maxHeartbeats 8000000 in
set_option maxRecDepth 100000 in
theorem geyserref06_Mix.calls (a0 : Int) (a1 : Int) (r : Int) (w : World) (h : geyserref06_Mix.f a0 a1 = some r) :
    Calls Tryd.prog 15 #[.int .u32 a0, .int .u32 a1] w fun e w' => e = .returned (.int .u32 r) ∧ Drawn0 w w' := by
  have H : ((geyserref06_times.f (IntKind.u64.wrap (a0)) 2654435761).bind fun t109 => ((geyserref06_fold.f (Int.tmod (IntKind.u64.wrap (t109 + (IntKind.u64.wrap (a1)))) 4294967296) 16).bind fun t110 => ((geyserref06_times.f t110 2246822507).bind fun t111 => ((geyserref06_fold.f t111 13).bind fun t112 => ((geyserref06_times.f t112 3266489909).bind fun t113 => ((geyserref06_fold.f t113 16).bind fun t114 => (some ((t114) % 4294967296)))))))) = some r := h
  clear h
  replace H := Option.bind_eq_some_iff.mp H
  obtain ⟨t109, A30, H⟩ := H
  replace H : ((geyserref06_fold.f (Int.tmod (IntKind.u64.wrap (t109 + (IntKind.u64.wrap (a1)))) 4294967296) 16).bind fun t110 => ((geyserref06_times.f t110 2246822507).bind fun t111 => ((geyserref06_fold.f t111 13).bind fun t112 => ((geyserref06_times.f t112 3266489909).bind fun t113 => ((geyserref06_fold.f t113 16).bind fun t114 => (some ((t114) % 4294967296))))))) = some r := H
  have A3 := Aside0.mk A30
  clear A30
  replace H := Option.bind_eq_some_iff.mp H
  obtain ⟨t110, A40, H⟩ := H
  replace H : ((geyserref06_times.f t110 2246822507).bind fun t111 => ((geyserref06_fold.f t111 13).bind fun t112 => ((geyserref06_times.f t112 3266489909).bind fun t113 => ((geyserref06_fold.f t113 16).bind fun t114 => (some ((t114) % 4294967296)))))) = some r := H
  have A4 := Aside0.mk A40
  clear A40
  replace H := Option.bind_eq_some_iff.mp H
  obtain ⟨t111, A50, H⟩ := H
  replace H : ((geyserref06_fold.f t111 13).bind fun t112 => ((geyserref06_times.f t112 3266489909).bind fun t113 => ((geyserref06_fold.f t113 16).bind fun t114 => (some ((t114) % 4294967296))))) = some r := H
  have A5 := Aside0.mk A50
  clear A50
  replace H := Option.bind_eq_some_iff.mp H
  obtain ⟨t112, A60, H⟩ := H
  replace H : ((geyserref06_times.f t112 3266489909).bind fun t113 => ((geyserref06_fold.f t113 16).bind fun t114 => (some ((t114) % 4294967296)))) = some r := H
  have A6 := Aside0.mk A60
  clear A60
  replace H := Option.bind_eq_some_iff.mp H
  obtain ⟨t113, A70, H⟩ := H
  replace H : ((geyserref06_fold.f t113 16).bind fun t114 => (some ((t114) % 4294967296))) = some r := H
  have A7 := Aside0.mk A70
  clear A70
  replace H := Option.bind_eq_some_iff.mp H
  obtain ⟨t114, A80, H⟩ := H
  replace H : (some ((t114) % 4294967296)) = some r := H
  have A8 := Aside0.mk A80
  clear A80
  obtain rfl := Option.some.inj H
  go_enter Tryd.func15, Tryd.ntmps15
  go_wp2_with (first | ((with_reducible refine gate_callee (f := 22) rfl ?_); refine goesL_ (some 8) rfl rfl Tryd.func22 (by kernel_rfl) rfl #[.int .u64 (IntKind.u64.wrap (a0)), .int .u64 2654435761] rfl (by (try simp only [List.map_toArray, List.map_cons, List.map_nil]); first | done | rfl | (simp only [List.length_drop, List.length_take]; rfl)) ?_; (with_reducible refine (geyserref06_times.calls (IntKind.u64.wrap (a0)) 2654435761 t109 _ A3.out).mono ?_); rintro e w' ⟨rfl, ⟨nd, rfl⟩⟩; refine ⟨_, rfl, ?_⟩) | ((with_reducible refine gate_callee (f := 23) rfl ?_); refine goesL_ (some 14) rfl rfl Tryd.func23 (by kernel_rfl) rfl #[.int .u64 (Int.tmod (IntKind.u64.wrap (t109 + (IntKind.u64.wrap (a1)))) 4294967296), .int .u64 16] rfl (by (try simp only [List.map_toArray, List.map_cons, List.map_nil]); first | done | rfl | (simp only [List.length_drop, List.length_take]; rfl)) ?_; (with_reducible refine (geyserref06_fold.calls (Int.tmod (IntKind.u64.wrap (t109 + (IntKind.u64.wrap (a1)))) 4294967296) 16 t110 _ A4.out).mono ?_); rintro e w' ⟨rfl, ⟨nd, rfl⟩⟩; refine ⟨_, rfl, ?_⟩) | ((with_reducible refine gate_callee (f := 22) rfl ?_); refine goesL_ (some 15) rfl rfl Tryd.func22 (by kernel_rfl) rfl #[.int .u64 t110, .int .u64 2246822507] rfl (by (try simp only [List.map_toArray, List.map_cons, List.map_nil]); first | done | rfl | (simp only [List.length_drop, List.length_take]; rfl)) ?_; (with_reducible refine (geyserref06_times.calls t110 2246822507 t111 _ A5.out).mono ?_); rintro e w' ⟨rfl, ⟨nd, rfl⟩⟩; refine ⟨_, rfl, ?_⟩) | ((with_reducible refine gate_callee (f := 23) rfl ?_); refine goesL_ (some 17) rfl rfl Tryd.func23 (by kernel_rfl) rfl #[.int .u64 t111, .int .u64 13] rfl (by (try simp only [List.map_toArray, List.map_cons, List.map_nil]); first | done | rfl | (simp only [List.length_drop, List.length_take]; rfl)) ?_; (with_reducible refine (geyserref06_fold.calls t111 13 t112 _ A6.out).mono ?_); rintro e w' ⟨rfl, ⟨nd, rfl⟩⟩; refine ⟨_, rfl, ?_⟩) | ((with_reducible refine gate_callee (f := 22) rfl ?_); refine goesL_ (some 18) rfl rfl Tryd.func22 (by kernel_rfl) rfl #[.int .u64 t112, .int .u64 3266489909] rfl (by (try simp only [List.map_toArray, List.map_cons, List.map_nil]); first | done | rfl | (simp only [List.length_drop, List.length_take]; rfl)) ?_; (with_reducible refine (geyserref06_times.calls t112 3266489909 t113 _ A7.out).mono ?_); rintro e w' ⟨rfl, ⟨nd, rfl⟩⟩; refine ⟨_, rfl, ?_⟩) | ((with_reducible refine gate_callee (f := 23) rfl ?_); refine goesL_ (some 20) rfl rfl Tryd.func23 (by kernel_rfl) rfl #[.int .u64 t113, .int .u64 16] rfl (by (try simp only [List.map_toArray, List.map_cons, List.map_nil]); first | done | rfl | (simp only [List.length_drop, List.length_take]; rfl)) ?_; (with_reducible refine (geyserref06_fold.calls t113 16 t114 _ A8.out).mono ?_); rintro e w' ⟨rfl, ⟨nd, rfl⟩⟩; refine ⟨_, rfl, ?_⟩))
  go_ret
  exact ⟨by first | rfl | (simp; done) | (simp [*]; done), by repeat (first | exact Drawn0.refl _ | apply Drawn0.step)⟩

/-! ### geyserref06_Below: function 9 -/
def geyserref06_Below.f (a0 : Int) (a1 : Int) (a2 : Int) : Option (Int) := (geyserref06_Mix.f a0 a1).bind fun t115 => (if (IntKind.u64.wrap (a2)) = 0 then (none) else (some (wrap64 (Int.tmod (IntKind.u64.wrap (t115)) (IntKind.u64.wrap (a2))))))
set_option maxHeartbeats 8000000 in
set_option maxRecDepth 100000 in
theorem geyserref06_Below.calls (a0 : Int) (a1 : Int) (a2 : Int) (r : Int) (w : World) (h : geyserref06_Below.f a0 a1 a2 = some r) :
    Calls Tryd.prog 9 #[.int .u32 a0, .int .u32 a1, .int .i64 a2] w fun e w' => e = .returned (.int .i64 r) ∧ Drawn0 w w' := by
  have H : ((geyserref06_Mix.f a0 a1).bind fun t115 => (if (IntKind.u64.wrap (a2)) = 0 then (none) else (some (wrap64 (Int.tmod (IntKind.u64.wrap (t115)) (IntKind.u64.wrap (a2))))))) = some r := h
  clear h
  replace H := Option.bind_eq_some_iff.mp H
  obtain ⟨t115, A40, H⟩ := H
  replace H : (if (IntKind.u64.wrap (a2)) = 0 then (none) else (some (wrap64 (Int.tmod (IntKind.u64.wrap (t115)) (IntKind.u64.wrap (a2)))))) = some r := H
  have A4 := Aside0.mk A40
  clear A40
  by_cases c5 : (IntKind.u64.wrap (a2)) = 0
  · rw [if_pos c5] at H
    exact absurd H (by simp)
  · rw [if_neg c5] at H
    have c5b0 : ((IntKind.u64.wrap (a2)) == 0) = false := beq_eq_false_iff_ne.mpr c5
    have c5b1 : ((IntKind.u64.wrap (a2)) != 0) = true := bne_iff_ne.mpr c5
    obtain rfl := Option.some.inj H
    go_enter Tryd.func9, Tryd.ntmps9
    go_wp2_with (first | ((with_reducible refine gate_callee (f := 15) rfl ?_); refine goesL_ (some 9) rfl rfl Tryd.func15 (by kernel_rfl) rfl #[.int .u32 a0, .int .u32 a1] rfl (by (try simp only [List.map_toArray, List.map_cons, List.map_nil]); first | done | rfl | (simp only [List.length_drop, List.length_take]; rfl)) ?_; (with_reducible refine (geyserref06_Mix.calls a0 a1 t115 _ A4.out).mono ?_); rintro e w' ⟨rfl, ⟨nd, rfl⟩⟩; refine ⟨_, rfl, ?_⟩))
    go_ret
    exact ⟨by first | rfl | (simp; done) | (simp [*]; done), by repeat (first | exact Drawn0.refl _ | apply Drawn0.step)⟩

/-! ### geyserlaw06_MixBelow: function 3 -/
def geyserlaw06_MixBelow.f (k : Nat) (a0 : Int) (a1 : Int) (a2 : Int) : Option (Bool) := (mix_Below.f k a0 a1 a2).bind fun bt116 => ((geyserref06_Check.f a2).bind fun t118 => ((tells.f bt116.2 t118 (⟨#[109, 105, 120, 46, 66, 101, 108, 111, 119]⟩ : ByteArray)).bind fun t119 => (if t119 = true then (if t118 = 0 then ((geyserref06_Below.f a0 a1 a2).bind fun t120 => (if bt116.1 = t120 then (if bt116.1 ≥ 0 then (if bt116.1 < a2 then ((geyserlaw06_awake.f k).bind fun t121 => (some t121)) else (some false)) else (some false)) else (some false))) else (if bt116.1 = 0 then ((geyserlaw06_awake.f k).bind fun t122 => (some t122)) else (some false))) else (some false))))
theorem geyserlaw06_MixBelow.mono : ∀ a0 a1 a2 k, LeO (geyserlaw06_MixBelow.f k a0 a1 a2) (geyserlaw06_MixBelow.f (k + 1) a0 a1 a2) := by
  intro a0 a1 a2 k
  unfold geyserlaw06_MixBelow.f
  repeat' first
      | (with_reducible exact geyserlaw06_awake.mono _)
      | (with_reducible exact mix_Below.mono _ _ _ _)
      | (with_reducible exact LeO.refl _)
      | (with_reducible exact LeO.none _)
      | (with_reducible refine LeO.ite ?_ ?_)
      | (with_reducible refine LeO.bind ?_ (fun _ => ?_))
      | exact geyserlaw06_awake.mono _
      | exact mix_Below.mono _ _ _ _
      | exact LeO.none _
      | refine LeO.ite ?_ ?_
      | refine LeO.bind ?_ (fun _ => ?_)
set_option maxHeartbeats 8000000 in
set_option maxRecDepth 100000 in
theorem geyserlaw06_MixBelow.calls (k : Nat) (a0 : Int) (a1 : Int) (a2 : Int) (r : Bool) (w : World) (hG : Glob w) (h : geyserlaw06_MixBelow.f k a0 a1 a2 = some r) :
    Calls Tryd.prog 3 #[.int .u32 a0, .int .u32 a1, .int .i64 a2] w fun e w' => e = .returned (.bool r) ∧ Below w.heap.size w w' := by
  have HG := Aside0.mk hG
  clear hG
  have HB := Aside0.mk (Below.refl w.heap.size w)
  have H : ((mix_Below.f k a0 a1 a2).bind fun bt116 => ((geyserref06_Check.f a2).bind fun t118 => ((tells.f bt116.2 t118 (⟨#[109, 105, 120, 46, 66, 101, 108, 111, 119]⟩ : ByteArray)).bind fun t119 => (if t119 = true then (if t118 = 0 then ((geyserref06_Below.f a0 a1 a2).bind fun t120 => (if bt116.1 = t120 then (if bt116.1 ≥ 0 then (if bt116.1 < a2 then ((geyserlaw06_awake.f k).bind fun t121 => (some t121)) else (some false)) else (some false)) else (some false))) else (if bt116.1 = 0 then ((geyserlaw06_awake.f k).bind fun t122 => (some t122)) else (some false))) else (some false))))) = some r := h
  clear h
  replace H := Option.bind_eq_some_iff.mp H
  obtain ⟨⟨t116, t117⟩, A40, H⟩ := H
  replace H : ((geyserref06_Check.f a2).bind fun t118 => ((tells.f t117 t118 (⟨#[109, 105, 120, 46, 66, 101, 108, 111, 119]⟩ : ByteArray)).bind fun t119 => (if t119 = true then (if t118 = 0 then ((geyserref06_Below.f a0 a1 a2).bind fun t120 => (if t116 = t120 then (if t116 ≥ 0 then (if t116 < a2 then ((geyserlaw06_awake.f k).bind fun t121 => (some t121)) else (some false)) else (some false)) else (some false))) else (if t116 = 0 then ((geyserlaw06_awake.f k).bind fun t122 => (some t122)) else (some false))) else (some false)))) = some r := H
  have A4 := Aside0.mk A40
  clear A40
  replace H := Option.bind_eq_some_iff.mp H
  obtain ⟨t118, A50, H⟩ := H
  replace H : ((tells.f t117 t118 (⟨#[109, 105, 120, 46, 66, 101, 108, 111, 119]⟩ : ByteArray)).bind fun t119 => (if t119 = true then (if t118 = 0 then ((geyserref06_Below.f a0 a1 a2).bind fun t120 => (if t116 = t120 then (if t116 ≥ 0 then (if t116 < a2 then ((geyserlaw06_awake.f k).bind fun t121 => (some t121)) else (some false)) else (some false)) else (some false))) else (if t116 = 0 then ((geyserlaw06_awake.f k).bind fun t122 => (some t122)) else (some false))) else (some false))) = some r := H
  have A5 := Aside0.mk A50
  clear A50
  replace H := Option.bind_eq_some_iff.mp H
  obtain ⟨t119, A60, H⟩ := H
  replace H : (if t119 = true then (if t118 = 0 then ((geyserref06_Below.f a0 a1 a2).bind fun t120 => (if t116 = t120 then (if t116 ≥ 0 then (if t116 < a2 then ((geyserlaw06_awake.f k).bind fun t121 => (some t121)) else (some false)) else (some false)) else (some false))) else (if t116 = 0 then ((geyserlaw06_awake.f k).bind fun t122 => (some t122)) else (some false))) else (some false)) = some r := H
  have A6 := Aside0.mk A60
  clear A60
  by_cases c7 : t119 = true
  · subst c7
    have H1 : (if t118 = 0 then ((geyserref06_Below.f a0 a1 a2).bind fun t120 => (if t116 = t120 then (if t116 ≥ 0 then (if t116 < a2 then ((geyserlaw06_awake.f k).bind fun t121 => (some t121)) else (some false)) else (some false)) else (some false))) else (if t116 = 0 then ((geyserlaw06_awake.f k).bind fun t122 => (some t122)) else (some false))) = some r := by rw [if_pos rfl] at H; exact H
    clear H
    have H := H1
    clear H1
    by_cases c8 : t118 = 0
    · rw [if_pos c8] at H
      have c8b0 : (t118 == 0) = true := beq_iff_eq.mpr c8
      have c8b1 : (t118 != 0) = false := bne_eq_false_iff_eq.mpr c8
      clear c8
      replace H := Option.bind_eq_some_iff.mp H
      obtain ⟨t120, A90, H⟩ := H
      replace H : (if t116 = t120 then (if t116 ≥ 0 then (if t116 < a2 then ((geyserlaw06_awake.f k).bind fun t121 => (some t121)) else (some false)) else (some false)) else (some false)) = some r := H
      have A9 := Aside0.mk A90
      clear A90
      by_cases c10 : t116 = t120
      · rw [if_pos c10] at H
        have c10b0 : (t116 == t120) = true := beq_iff_eq.mpr c10
        have c10b1 : (t116 != t120) = false := bne_eq_false_iff_eq.mpr c10
        clear c10
        by_cases c11 : t116 ≥ 0
        · rw [if_pos c11] at H
          have c11b0 : decide (0 ≤ t116) = true := decide_eq_true c11
          clear c11
          by_cases c12 : t116 < a2
          · rw [if_pos c12] at H
            have c12b0 : decide (t116 < a2) = true := decide_eq_true c12
            clear c12
            replace H := Option.bind_eq_some_iff.mp H
            obtain ⟨t121, A130, H⟩ := H
            replace H : (some t121) = some r := H
            have A13 := Aside0.mk A130
            clear A130
            obtain rfl := Option.some.inj H
            go_enter Tryd.func3, Tryd.ntmps3
            go_wp2_with (first | ((with_reducible refine gate_callee (f := 5) rfl ?_); refine goesL_ (some 14) rfl rfl Tryd.func5 (by kernel_rfl) rfl #[.int .u32 a0, .int .u32 a1, .int .i64 a2] rfl (by (try simp only [List.map_toArray, List.map_cons, List.map_nil]); first | done | rfl | (simp only [List.length_drop, List.length_take]; rfl)) ?_; (with_reducible refine (mix_Below.calls k a0 a1 a2 t116 t117 _ A4.out).mono ?_); rintro e w14 ⟨ev_t117, rfl, he0, hb⟩; refine ⟨_, rfl, ?_⟩; have n0_ := Aside0.mk (below_step (by repeat (first | (with_reducible first | exact HB.out | apply below_alloc | apply pw_below_drewN | apply below_drew1) | exact HB.out)) hb); clear HB; have HB := n0_; clear n0_; (try clear hb); (try clear hb2); (try clear hk); (try clear hi); have HE_t117 := Aside0.mk he0; clear he0) | ((with_reducible refine gate_callee (f := 6) rfl ?_); refine goesL_ (some 18) rfl rfl Tryd.func6 (by kernel_rfl) rfl #[.int .i64 a2] rfl (by (try simp only [List.map_toArray, List.map_cons, List.map_nil]); first | done | rfl | (simp only [List.length_drop, List.length_take]; rfl)) ?_; (with_reducible refine (geyserref06_Check.calls a2 t118 _ A5.out).mono ?_); rintro e w' ⟨rfl, ⟨nd, rfl⟩⟩; refine ⟨_, rfl, ?_⟩) | (go_at_call 7; (with_reducible refine (tells.calls _ t117 t118 (⟨#[109, 105, 120, 46, 66, 101, 108, 111, 119]⟩ : ByteArray) true _ ?side1 ?side2 A6.out).mono ?_); (case side1 => repeat (first | exact HE_t117.out | exact HE_t117.out | apply ErR_drew | apply ErR_drewN | apply ErR_alloc)); (case side2 => exact Glob_below HG.out (by repeat (first | (with_reducible first | exact HB.out | apply below_alloc | apply pw_below_drewN | apply below_drew1) | exact HB.out))); rintro e w15 ⟨rfl, hb⟩; (try (have nE_ := Aside0.mk (ErR_below hb (by repeat (first | exact HE_t117.out | apply ErR_drew | apply ErR_drewN | apply ErR_alloc))); clear HE_t117; have HE_t117 := nE_; clear nE_)); have n0_ := Aside0.mk (below_step (by repeat (first | (with_reducible first | exact HB.out | apply below_alloc | apply pw_below_drewN | apply below_drew1) | exact HB.out)) hb); clear HB; have HB := n0_; clear n0_; (try clear hb); (try clear hb2); (try clear hk); (try clear hi)) | ((with_reducible refine gate_callee (f := 9) rfl ?_); refine goesL_ (some 34) rfl rfl Tryd.func9 (by kernel_rfl) rfl #[.int .u32 a0, .int .u32 a1, .int .i64 a2] rfl (by (try simp only [List.map_toArray, List.map_cons, List.map_nil]); first | done | rfl | (simp only [List.length_drop, List.length_take]; rfl)) ?_; (with_reducible refine (geyserref06_Below.calls a0 a1 a2 t120 _ A9.out).mono ?_); rintro e w' ⟨rfl, ⟨nd, rfl⟩⟩; refine ⟨_, rfl, ?_⟩) | (go_at_call 8; (with_reducible refine (geyserlaw06_awake.calls k  t121 _ A13.out).mono ?_); rintro e w' ⟨rfl, ⟨nd, rfl⟩⟩))
            go_ret
            exact ⟨by first | rfl | (simp [errW_none, errW_some] <;> rfl) | (simp [*, errW_none, errW_some] <;> rfl), by repeat (first | (with_reducible first | exact HB.out | apply below_alloc | apply pw_below_drewN | apply below_drew1) | exact HB.out)⟩
          · rw [if_neg c12] at H
            have c12b0 : decide (t116 < a2) = false := decide_eq_false c12
            clear c12
            obtain rfl := Option.some.inj H
            go_enter Tryd.func3, Tryd.ntmps3
            go_wp2_with (first | ((with_reducible refine gate_callee (f := 5) rfl ?_); refine goesL_ (some 14) rfl rfl Tryd.func5 (by kernel_rfl) rfl #[.int .u32 a0, .int .u32 a1, .int .i64 a2] rfl (by (try simp only [List.map_toArray, List.map_cons, List.map_nil]); first | done | rfl | (simp only [List.length_drop, List.length_take]; rfl)) ?_; (with_reducible refine (mix_Below.calls k a0 a1 a2 t116 t117 _ A4.out).mono ?_); rintro e w16 ⟨ev_t117, rfl, he0, hb⟩; refine ⟨_, rfl, ?_⟩; have n0_ := Aside0.mk (below_step (by repeat (first | (with_reducible first | exact HB.out | apply below_alloc | apply pw_below_drewN | apply below_drew1) | exact HB.out)) hb); clear HB; have HB := n0_; clear n0_; (try clear hb); (try clear hb2); (try clear hk); (try clear hi); have HE_t117 := Aside0.mk he0; clear he0) | ((with_reducible refine gate_callee (f := 6) rfl ?_); refine goesL_ (some 18) rfl rfl Tryd.func6 (by kernel_rfl) rfl #[.int .i64 a2] rfl (by (try simp only [List.map_toArray, List.map_cons, List.map_nil]); first | done | rfl | (simp only [List.length_drop, List.length_take]; rfl)) ?_; (with_reducible refine (geyserref06_Check.calls a2 t118 _ A5.out).mono ?_); rintro e w' ⟨rfl, ⟨nd, rfl⟩⟩; refine ⟨_, rfl, ?_⟩) | (go_at_call 7; (with_reducible refine (tells.calls _ t117 t118 (⟨#[109, 105, 120, 46, 66, 101, 108, 111, 119]⟩ : ByteArray) true _ ?side1 ?side2 A6.out).mono ?_); (case side1 => repeat (first | exact HE_t117.out | exact HE_t117.out | apply ErR_drew | apply ErR_drewN | apply ErR_alloc)); (case side2 => exact Glob_below HG.out (by repeat (first | (with_reducible first | exact HB.out | apply below_alloc | apply pw_below_drewN | apply below_drew1) | exact HB.out))); rintro e w17 ⟨rfl, hb⟩; (try (have nE_ := Aside0.mk (ErR_below hb (by repeat (first | exact HE_t117.out | apply ErR_drew | apply ErR_drewN | apply ErR_alloc))); clear HE_t117; have HE_t117 := nE_; clear nE_)); have n0_ := Aside0.mk (below_step (by repeat (first | (with_reducible first | exact HB.out | apply below_alloc | apply pw_below_drewN | apply below_drew1) | exact HB.out)) hb); clear HB; have HB := n0_; clear n0_; (try clear hb); (try clear hb2); (try clear hk); (try clear hi)) | ((with_reducible refine gate_callee (f := 9) rfl ?_); refine goesL_ (some 34) rfl rfl Tryd.func9 (by kernel_rfl) rfl #[.int .u32 a0, .int .u32 a1, .int .i64 a2] rfl (by (try simp only [List.map_toArray, List.map_cons, List.map_nil]); first | done | rfl | (simp only [List.length_drop, List.length_take]; rfl)) ?_; (with_reducible refine (geyserref06_Below.calls a0 a1 a2 t120 _ A9.out).mono ?_); rintro e w' ⟨rfl, ⟨nd, rfl⟩⟩; refine ⟨_, rfl, ?_⟩))
            go_ret
            exact ⟨by first | rfl | (simp [errW_none, errW_some] <;> rfl) | (simp [*, errW_none, errW_some] <;> rfl), by repeat (first | (with_reducible first | exact HB.out | apply below_alloc | apply pw_below_drewN | apply below_drew1) | exact HB.out)⟩
        · rw [if_neg c11] at H
          have c11b0 : decide (0 ≤ t116) = false := decide_eq_false c11
          clear c11
          obtain rfl := Option.some.inj H
          go_enter Tryd.func3, Tryd.ntmps3
          go_wp2_with (first | ((with_reducible refine gate_callee (f := 5) rfl ?_); refine goesL_ (some 14) rfl rfl Tryd.func5 (by kernel_rfl) rfl #[.int .u32 a0, .int .u32 a1, .int .i64 a2] rfl (by (try simp only [List.map_toArray, List.map_cons, List.map_nil]); first | done | rfl | (simp only [List.length_drop, List.length_take]; rfl)) ?_; (with_reducible refine (mix_Below.calls k a0 a1 a2 t116 t117 _ A4.out).mono ?_); rintro e w18 ⟨ev_t117, rfl, he0, hb⟩; refine ⟨_, rfl, ?_⟩; have n0_ := Aside0.mk (below_step (by repeat (first | (with_reducible first | exact HB.out | apply below_alloc | apply pw_below_drewN | apply below_drew1) | exact HB.out)) hb); clear HB; have HB := n0_; clear n0_; (try clear hb); (try clear hb2); (try clear hk); (try clear hi); have HE_t117 := Aside0.mk he0; clear he0) | ((with_reducible refine gate_callee (f := 6) rfl ?_); refine goesL_ (some 18) rfl rfl Tryd.func6 (by kernel_rfl) rfl #[.int .i64 a2] rfl (by (try simp only [List.map_toArray, List.map_cons, List.map_nil]); first | done | rfl | (simp only [List.length_drop, List.length_take]; rfl)) ?_; (with_reducible refine (geyserref06_Check.calls a2 t118 _ A5.out).mono ?_); rintro e w' ⟨rfl, ⟨nd, rfl⟩⟩; refine ⟨_, rfl, ?_⟩) | (go_at_call 7; (with_reducible refine (tells.calls _ t117 t118 (⟨#[109, 105, 120, 46, 66, 101, 108, 111, 119]⟩ : ByteArray) true _ ?side1 ?side2 A6.out).mono ?_); (case side1 => repeat (first | exact HE_t117.out | exact HE_t117.out | apply ErR_drew | apply ErR_drewN | apply ErR_alloc)); (case side2 => exact Glob_below HG.out (by repeat (first | (with_reducible first | exact HB.out | apply below_alloc | apply pw_below_drewN | apply below_drew1) | exact HB.out))); rintro e w19 ⟨rfl, hb⟩; (try (have nE_ := Aside0.mk (ErR_below hb (by repeat (first | exact HE_t117.out | apply ErR_drew | apply ErR_drewN | apply ErR_alloc))); clear HE_t117; have HE_t117 := nE_; clear nE_)); have n0_ := Aside0.mk (below_step (by repeat (first | (with_reducible first | exact HB.out | apply below_alloc | apply pw_below_drewN | apply below_drew1) | exact HB.out)) hb); clear HB; have HB := n0_; clear n0_; (try clear hb); (try clear hb2); (try clear hk); (try clear hi)) | ((with_reducible refine gate_callee (f := 9) rfl ?_); refine goesL_ (some 34) rfl rfl Tryd.func9 (by kernel_rfl) rfl #[.int .u32 a0, .int .u32 a1, .int .i64 a2] rfl (by (try simp only [List.map_toArray, List.map_cons, List.map_nil]); first | done | rfl | (simp only [List.length_drop, List.length_take]; rfl)) ?_; (with_reducible refine (geyserref06_Below.calls a0 a1 a2 t120 _ A9.out).mono ?_); rintro e w' ⟨rfl, ⟨nd, rfl⟩⟩; refine ⟨_, rfl, ?_⟩))
          go_ret
          exact ⟨by first | rfl | (simp [errW_none, errW_some] <;> rfl) | (simp [*, errW_none, errW_some] <;> rfl), by repeat (first | (with_reducible first | exact HB.out | apply below_alloc | apply pw_below_drewN | apply below_drew1) | exact HB.out)⟩
      · rw [if_neg c10] at H
        have c10b0 : (t116 == t120) = false := beq_eq_false_iff_ne.mpr c10
        have c10b1 : (t116 != t120) = true := bne_iff_ne.mpr c10
        obtain rfl := Option.some.inj H
        go_enter Tryd.func3, Tryd.ntmps3
        go_wp2_with (first | ((with_reducible refine gate_callee (f := 5) rfl ?_); refine goesL_ (some 14) rfl rfl Tryd.func5 (by kernel_rfl) rfl #[.int .u32 a0, .int .u32 a1, .int .i64 a2] rfl (by (try simp only [List.map_toArray, List.map_cons, List.map_nil]); first | done | rfl | (simp only [List.length_drop, List.length_take]; rfl)) ?_; (with_reducible refine (mix_Below.calls k a0 a1 a2 t116 t117 _ A4.out).mono ?_); rintro e w20 ⟨ev_t117, rfl, he0, hb⟩; refine ⟨_, rfl, ?_⟩; have n0_ := Aside0.mk (below_step (by repeat (first | (with_reducible first | exact HB.out | apply below_alloc | apply pw_below_drewN | apply below_drew1) | exact HB.out)) hb); clear HB; have HB := n0_; clear n0_; (try clear hb); (try clear hb2); (try clear hk); (try clear hi); have HE_t117 := Aside0.mk he0; clear he0) | ((with_reducible refine gate_callee (f := 6) rfl ?_); refine goesL_ (some 18) rfl rfl Tryd.func6 (by kernel_rfl) rfl #[.int .i64 a2] rfl (by (try simp only [List.map_toArray, List.map_cons, List.map_nil]); first | done | rfl | (simp only [List.length_drop, List.length_take]; rfl)) ?_; (with_reducible refine (geyserref06_Check.calls a2 t118 _ A5.out).mono ?_); rintro e w' ⟨rfl, ⟨nd, rfl⟩⟩; refine ⟨_, rfl, ?_⟩) | (go_at_call 7; (with_reducible refine (tells.calls _ t117 t118 (⟨#[109, 105, 120, 46, 66, 101, 108, 111, 119]⟩ : ByteArray) true _ ?side1 ?side2 A6.out).mono ?_); (case side1 => repeat (first | exact HE_t117.out | exact HE_t117.out | apply ErR_drew | apply ErR_drewN | apply ErR_alloc)); (case side2 => exact Glob_below HG.out (by repeat (first | (with_reducible first | exact HB.out | apply below_alloc | apply pw_below_drewN | apply below_drew1) | exact HB.out))); rintro e w21 ⟨rfl, hb⟩; (try (have nE_ := Aside0.mk (ErR_below hb (by repeat (first | exact HE_t117.out | apply ErR_drew | apply ErR_drewN | apply ErR_alloc))); clear HE_t117; have HE_t117 := nE_; clear nE_)); have n0_ := Aside0.mk (below_step (by repeat (first | (with_reducible first | exact HB.out | apply below_alloc | apply pw_below_drewN | apply below_drew1) | exact HB.out)) hb); clear HB; have HB := n0_; clear n0_; (try clear hb); (try clear hb2); (try clear hk); (try clear hi)) | ((with_reducible refine gate_callee (f := 9) rfl ?_); refine goesL_ (some 34) rfl rfl Tryd.func9 (by kernel_rfl) rfl #[.int .u32 a0, .int .u32 a1, .int .i64 a2] rfl (by (try simp only [List.map_toArray, List.map_cons, List.map_nil]); first | done | rfl | (simp only [List.length_drop, List.length_take]; rfl)) ?_; (with_reducible refine (geyserref06_Below.calls a0 a1 a2 t120 _ A9.out).mono ?_); rintro e w' ⟨rfl, ⟨nd, rfl⟩⟩; refine ⟨_, rfl, ?_⟩))
        go_ret
        exact ⟨by first | rfl | (simp [errW_none, errW_some] <;> rfl) | (simp [*, errW_none, errW_some] <;> rfl), by repeat (first | (with_reducible first | exact HB.out | apply below_alloc | apply pw_below_drewN | apply below_drew1) | exact HB.out)⟩
    · rw [if_neg c8] at H
      have c8b0 : (t118 == 0) = false := beq_eq_false_iff_ne.mpr c8
      have c8b1 : (t118 != 0) = true := bne_iff_ne.mpr c8
      by_cases c22 : t116 = 0
      · rw [if_pos c22] at H
        have c22b0 : (t116 == 0) = true := beq_iff_eq.mpr c22
        have c22b1 : (t116 != 0) = false := bne_eq_false_iff_eq.mpr c22
        clear c22
        replace H := Option.bind_eq_some_iff.mp H
        obtain ⟨t122, A230, H⟩ := H
        replace H : (some t122) = some r := H
        have A23 := Aside0.mk A230
        clear A230
        obtain rfl := Option.some.inj H
        go_enter Tryd.func3, Tryd.ntmps3
        go_wp2_with (first | ((with_reducible refine gate_callee (f := 5) rfl ?_); refine goesL_ (some 14) rfl rfl Tryd.func5 (by kernel_rfl) rfl #[.int .u32 a0, .int .u32 a1, .int .i64 a2] rfl (by (try simp only [List.map_toArray, List.map_cons, List.map_nil]); first | done | rfl | (simp only [List.length_drop, List.length_take]; rfl)) ?_; (with_reducible refine (mix_Below.calls k a0 a1 a2 t116 t117 _ A4.out).mono ?_); rintro e w24 ⟨ev_t117, rfl, he0, hb⟩; refine ⟨_, rfl, ?_⟩; have n0_ := Aside0.mk (below_step (by repeat (first | (with_reducible first | exact HB.out | apply below_alloc | apply pw_below_drewN | apply below_drew1) | exact HB.out)) hb); clear HB; have HB := n0_; clear n0_; (try clear hb); (try clear hb2); (try clear hk); (try clear hi); have HE_t117 := Aside0.mk he0; clear he0) | ((with_reducible refine gate_callee (f := 6) rfl ?_); refine goesL_ (some 18) rfl rfl Tryd.func6 (by kernel_rfl) rfl #[.int .i64 a2] rfl (by (try simp only [List.map_toArray, List.map_cons, List.map_nil]); first | done | rfl | (simp only [List.length_drop, List.length_take]; rfl)) ?_; (with_reducible refine (geyserref06_Check.calls a2 t118 _ A5.out).mono ?_); rintro e w' ⟨rfl, ⟨nd, rfl⟩⟩; refine ⟨_, rfl, ?_⟩) | (go_at_call 7; (with_reducible refine (tells.calls _ t117 t118 (⟨#[109, 105, 120, 46, 66, 101, 108, 111, 119]⟩ : ByteArray) true _ ?side1 ?side2 A6.out).mono ?_); (case side1 => repeat (first | exact HE_t117.out | exact HE_t117.out | apply ErR_drew | apply ErR_drewN | apply ErR_alloc)); (case side2 => exact Glob_below HG.out (by repeat (first | (with_reducible first | exact HB.out | apply below_alloc | apply pw_below_drewN | apply below_drew1) | exact HB.out))); rintro e w25 ⟨rfl, hb⟩; (try (have nE_ := Aside0.mk (ErR_below hb (by repeat (first | exact HE_t117.out | apply ErR_drew | apply ErR_drewN | apply ErR_alloc))); clear HE_t117; have HE_t117 := nE_; clear nE_)); have n0_ := Aside0.mk (below_step (by repeat (first | (with_reducible first | exact HB.out | apply below_alloc | apply pw_below_drewN | apply below_drew1) | exact HB.out)) hb); clear HB; have HB := n0_; clear n0_; (try clear hb); (try clear hb2); (try clear hk); (try clear hi)) | (go_at_call 8; (with_reducible refine (geyserlaw06_awake.calls k  t122 _ A23.out).mono ?_); rintro e w' ⟨rfl, ⟨nd, rfl⟩⟩))
        go_ret
        exact ⟨by first | rfl | (simp [errW_none, errW_some] <;> rfl) | (simp [*, errW_none, errW_some] <;> rfl), by repeat (first | (with_reducible first | exact HB.out | apply below_alloc | apply pw_below_drewN | apply below_drew1) | exact HB.out)⟩
      · rw [if_neg c22] at H
        have c22b0 : (t116 == 0) = false := beq_eq_false_iff_ne.mpr c22
        have c22b1 : (t116 != 0) = true := bne_iff_ne.mpr c22
        obtain rfl := Option.some.inj H
        go_enter Tryd.func3, Tryd.ntmps3
        go_wp2_with (first | ((with_reducible refine gate_callee (f := 5) rfl ?_); refine goesL_ (some 14) rfl rfl Tryd.func5 (by kernel_rfl) rfl #[.int .u32 a0, .int .u32 a1, .int .i64 a2] rfl (by (try simp only [List.map_toArray, List.map_cons, List.map_nil]); first | done | rfl | (simp only [List.length_drop, List.length_take]; rfl)) ?_; (with_reducible refine (mix_Below.calls k a0 a1 a2 t116 t117 _ A4.out).mono ?_); rintro e w26 ⟨ev_t117, rfl, he0, hb⟩; refine ⟨_, rfl, ?_⟩; have n0_ := Aside0.mk (below_step (by repeat (first | (with_reducible first | exact HB.out | apply below_alloc | apply pw_below_drewN | apply below_drew1) | exact HB.out)) hb); clear HB; have HB := n0_; clear n0_; (try clear hb); (try clear hb2); (try clear hk); (try clear hi); have HE_t117 := Aside0.mk he0; clear he0) | ((with_reducible refine gate_callee (f := 6) rfl ?_); refine goesL_ (some 18) rfl rfl Tryd.func6 (by kernel_rfl) rfl #[.int .i64 a2] rfl (by (try simp only [List.map_toArray, List.map_cons, List.map_nil]); first | done | rfl | (simp only [List.length_drop, List.length_take]; rfl)) ?_; (with_reducible refine (geyserref06_Check.calls a2 t118 _ A5.out).mono ?_); rintro e w' ⟨rfl, ⟨nd, rfl⟩⟩; refine ⟨_, rfl, ?_⟩) | (go_at_call 7; (with_reducible refine (tells.calls _ t117 t118 (⟨#[109, 105, 120, 46, 66, 101, 108, 111, 119]⟩ : ByteArray) true _ ?side1 ?side2 A6.out).mono ?_); (case side1 => repeat (first | exact HE_t117.out | exact HE_t117.out | apply ErR_drew | apply ErR_drewN | apply ErR_alloc)); (case side2 => exact Glob_below HG.out (by repeat (first | (with_reducible first | exact HB.out | apply below_alloc | apply pw_below_drewN | apply below_drew1) | exact HB.out))); rintro e w27 ⟨rfl, hb⟩; (try (have nE_ := Aside0.mk (ErR_below hb (by repeat (first | exact HE_t117.out | apply ErR_drew | apply ErR_drewN | apply ErR_alloc))); clear HE_t117; have HE_t117 := nE_; clear nE_)); have n0_ := Aside0.mk (below_step (by repeat (first | (with_reducible first | exact HB.out | apply below_alloc | apply pw_below_drewN | apply below_drew1) | exact HB.out)) hb); clear HB; have HB := n0_; clear n0_; (try clear hb); (try clear hb2); (try clear hk); (try clear hi)))
        go_ret
        exact ⟨by first | rfl | (simp [errW_none, errW_some] <;> rfl) | (simp [*, errW_none, errW_some] <;> rfl), by repeat (first | (with_reducible first | exact HB.out | apply below_alloc | apply pw_below_drewN | apply below_drew1) | exact HB.out)⟩
  · replace c7 := Bool.eq_false_iff.mpr c7
    subst c7
    have H1 : (some false) = some r := by rw [if_neg (show ¬ (false = true) by decide)] at H; exact H
    clear H
    have H := H1
    clear H1
    obtain rfl := Option.some.inj H
    go_enter Tryd.func3, Tryd.ntmps3
    go_wp2_with (first | ((with_reducible refine gate_callee (f := 5) rfl ?_); refine goesL_ (some 14) rfl rfl Tryd.func5 (by kernel_rfl) rfl #[.int .u32 a0, .int .u32 a1, .int .i64 a2] rfl (by (try simp only [List.map_toArray, List.map_cons, List.map_nil]); first | done | rfl | (simp only [List.length_drop, List.length_take]; rfl)) ?_; (with_reducible refine (mix_Below.calls k a0 a1 a2 t116 t117 _ A4.out).mono ?_); rintro e w28 ⟨ev_t117, rfl, he0, hb⟩; refine ⟨_, rfl, ?_⟩; have n0_ := Aside0.mk (below_step (by repeat (first | (with_reducible first | exact HB.out | apply below_alloc | apply pw_below_drewN | apply below_drew1) | exact HB.out)) hb); clear HB; have HB := n0_; clear n0_; (try clear hb); (try clear hb2); (try clear hk); (try clear hi); have HE_t117 := Aside0.mk he0; clear he0) | ((with_reducible refine gate_callee (f := 6) rfl ?_); refine goesL_ (some 18) rfl rfl Tryd.func6 (by kernel_rfl) rfl #[.int .i64 a2] rfl (by (try simp only [List.map_toArray, List.map_cons, List.map_nil]); first | done | rfl | (simp only [List.length_drop, List.length_take]; rfl)) ?_; (with_reducible refine (geyserref06_Check.calls a2 t118 _ A5.out).mono ?_); rintro e w' ⟨rfl, ⟨nd, rfl⟩⟩; refine ⟨_, rfl, ?_⟩) | (go_at_call 7; (with_reducible refine (tells.calls _ t117 t118 (⟨#[109, 105, 120, 46, 66, 101, 108, 111, 119]⟩ : ByteArray) false _ ?side1 ?side2 A6.out).mono ?_); (case side1 => repeat (first | exact HE_t117.out | exact HE_t117.out | apply ErR_drew | apply ErR_drewN | apply ErR_alloc)); (case side2 => exact Glob_below HG.out (by repeat (first | (with_reducible first | exact HB.out | apply below_alloc | apply pw_below_drewN | apply below_drew1) | exact HB.out))); rintro e w29 ⟨rfl, hb⟩; (try (have nE_ := Aside0.mk (ErR_below hb (by repeat (first | exact HE_t117.out | apply ErR_drew | apply ErR_drewN | apply ErR_alloc))); clear HE_t117; have HE_t117 := nE_; clear nE_)); have n0_ := Aside0.mk (below_step (by repeat (first | (with_reducible first | exact HB.out | apply below_alloc | apply pw_below_drewN | apply below_drew1) | exact HB.out)) hb); clear HB; have HB := n0_; clear n0_; (try clear hb); (try clear hb2); (try clear hk); (try clear hi)))
    go_ret
    exact ⟨by first | rfl | (simp [errW_none, errW_some] <;> rfl) | (simp [*, errW_none, errW_some] <;> rfl), by repeat (first | (with_reducible first | exact HB.out | apply below_alloc | apply pw_below_drewN | apply below_drew1) | exact HB.out)⟩

/-- THE ONE PURE STATEMENT of geyserlaw06_MixBelow: yours. -/
def geyserlaw06_MixBelow.Pure : Prop := ∀ (a0 : Int) (a1 : Int) (a2 : Int), (Lit.int .u32 a0).wf = true → (Lit.int .u32 a1).wf = true → (Lit.int .i64 a2).wf = true → ∃ k, geyserlaw06_MixBelow.f k a0 a1 a2 = some true
theorem geyserlaw06_MixBelow.walk (P : geyserlaw06_MixBelow.Pure) (a0 : Int) (a1 : Int) (a2 : Int) (w : World) (w0 : (Lit.int .u32 a0).wf = true) (w1 : (Lit.int .u32 a1).wf = true) (w2 : (Lit.int .i64 a2).wf = true) (hG : Glob w) :
    Calls Tryd.prog 3 #[.int .u32 a0, .int .u32 a1, .int .i64 a2] w fun e w' => e = .returned (.bool true) ∧ Below w.heap.size w w' := by
  obtain ⟨k, h⟩ := P a0 a1 a2 w0 w1 w2
  refine (geyserlaw06_MixBelow.calls k a0 a1 a2 true w hG h).mono ?_
  rintro e w' ⟨rfl, hd⟩
  exact ⟨rfl, hd⟩

end Go.Proofs.YtakhbcmhfgjocaaDoor.QMixBelow
