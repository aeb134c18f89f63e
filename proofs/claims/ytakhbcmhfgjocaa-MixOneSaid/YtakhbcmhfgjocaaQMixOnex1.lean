-- Written by a program of this session out of the translation. Lean checks it.
import Derived.Test.YtakhbcmhfgjocaaQMixOnex0
namespace Go.Proofs.Ytakhbcmhfgjocaa.QMixOne
open Go.RowKit Go.Proofs.YtakhbcmhfgjocaaW.PrintWords Go.Proofs.YtakhbcmhfgjocaaW.PrintLast Go.Proofs.YtakhbcmhfgjocaaW.PrintMore
attribute [local go_sem] max2_int min2_int max_two min_two max_three min_three max_four min_four   -- for this text's walks alone

/-! ### mix_Mix: function 6 -/
def mix_Mix.f (a0 : Int) (a1 : Int) : Option (Int) := some (Go.bits .xor .u32 (((Go.bits .xor .u32 (((Go.bits .xor .u32 ((((a0 * 2654435761) % 4294967296) + a1) % 4294967296) (((((a0 * 2654435761) % 4294967296) + a1) % 4294967296) / 65536)) * 2246822507) % 4294967296) ((((Go.bits .xor .u32 ((((a0 * 2654435761) % 4294967296) + a1) % 4294967296) (((((a0 * 2654435761) % 4294967296) + a1) % 4294967296) / 65536)) * 2246822507) % 4294967296) / 8192)) * 3266489909) % 4294967296) ((((Go.bits .xor .u32 (((Go.bits .xor .u32 ((((a0 * 2654435761) % 4294967296) + a1) % 4294967296) (((((a0 * 2654435761) % 4294967296) + a1) % 4294967296) / 65536)) * 2246822507) % 4294967296) ((((Go.bits .xor .u32 ((((a0 * 2654435761) % 4294967296) + a1) % 4294967296) (((((a0 * 2654435761) % 4294967296) + a1) % 4294967296) / 65536)) * 2246822507) % 4294967296) / 8192)) * 3266489909) % 4294967296) / 65536))
set_option maxHeartbeats 8000000 in
set_option maxRecDepth 100000 in
theorem mix_Mix.calls (a0 : Int) (a1 : Int) (r : Int) (w : World) (h : mix_Mix.f a0 a1 = some r) :
    Calls Try.prog 6 #[.int .u32 a0, .int .u32 a1] w fun e w' => e = .returned (.int .u32 r) ∧ Drawn0 w w' := by
  have H : (some (Go.bits .xor .u32 (((Go.bits .xor .u32 (((Go.bits .xor .u32 ((((a0 * 2654435761) % 4294967296) + a1) % 4294967296) (((((a0 * 2654435761) % 4294967296) + a1) % 4294967296) / 65536)) * 2246822507) % 4294967296) ((((Go.bits .xor .u32 ((((a0 * 2654435761) % 4294967296) + a1) % 4294967296) (((((a0 * 2654435761) % 4294967296) + a1) % 4294967296) / 65536)) * 2246822507) % 4294967296) / 8192)) * 3266489909) % 4294967296) ((((Go.bits .xor .u32 (((Go.bits .xor .u32 ((((a0 * 2654435761) % 4294967296) + a1) % 4294967296) (((((a0 * 2654435761) % 4294967296) + a1) % 4294967296) / 65536)) * 2246822507) % 4294967296) ((((Go.bits .xor .u32 ((((a0 * 2654435761) % 4294967296) + a1) % 4294967296) (((((a0 * 2654435761) % 4294967296) + a1) % 4294967296) / 65536)) * 2246822507) % 4294967296) / 8192)) * 3266489909) % 4294967296) / 65536))) = some r := h
  clear h
  obtain rfl := Option.some.inj H
  go_enter Try.func6, Try.ntmps6
  go_wp2
  go_ret
  exact ⟨by first | rfl | (simp; done) | (simp [*]; done), by repeat (first | exact Drawn0.refl _ | apply Drawn0.step)⟩

/-! ### mix_inverse: function 12 -/
def mix_inverse.l0 : Nat → Int → Int → Int → Option (Int)
  | 0, _, _, _ => none
  | k + 1, x0, x3, x5 => if x5 < 4 then (mix_inverse.l0 k x0 ((x3 * ((2 - ((x0 * x3) % 4294967296)) % 4294967296)) % 4294967296) (wrap64 (x5 + 1))) else (some x3)
def mix_inverse.f (k : Nat) (a0 : Int) : Option (Int) := mix_inverse.l0 k a0 a0 0
theorem mix_inverse.mono_l : ∀ k, (∀ y0 y1 y2, LeO (mix_inverse.l0 k y0 y1 y2) (mix_inverse.l0 (k + 1) y0 y1 y2))
  | 0 => fun _ _ _ r h => by simp [mix_inverse.l0] at h
  | k + 1 => by
    have ih0 := mix_inverse.mono_l k
    · intro y0 y1 y2
      unfold mix_inverse.l0
      repeat' first
      | (with_reducible exact ih0 _ _ _)
      | (with_reducible exact LeO.refl _)
      | (with_reducible exact LeO.none _)
      | (with_reducible refine LeO.ite ?_ ?_)
      | (with_reducible refine LeO.bind ?_ (fun _ => ?_))
      | exact ih0 _ _ _
      | exact LeO.none _
      | refine LeO.ite ?_ ?_
      | refine LeO.bind ?_ (fun _ => ?_)
theorem mix_inverse.mono : ∀ a0 k, LeO (mix_inverse.f k a0) (mix_inverse.f (k + 1) a0) := by
  intro a0 k
  have ih0 := mix_inverse.mono_l k
  unfold mix_inverse.f
  repeat' first
      | (with_reducible exact ih0 _ _ _)
      | (with_reducible exact LeO.refl _)
      | (with_reducible exact LeO.none _)
      | (with_reducible refine LeO.ite ?_ ?_)
      | (with_reducible refine LeO.bind ?_ (fun _ => ?_))
      | exact ih0 _ _ _
      | exact LeO.none _
      | refine LeO.ite ?_ ?_
      | refine LeO.bind ?_ (fun _ => ?_)
set_option maxHeartbeats 8000000 in
set_option maxRecDepth 100000 in
theorem mix_inverse.calls (k : Nat) (a0 : Int) (r : Int) (w : World) (h : mix_inverse.f k a0 = some r) :
    Calls Try.prog 12 #[.int .u32 a0] w fun e w' => e = .returned (.int .u32 r) ∧ Drawn0 w w' := by
  have H : (mix_inverse.l0 k a0 a0 0) = some r := h
  clear h
  have H' := Aside0.mk H
  clear H
  go_enter Try.func12, Try.ntmps12
  go_wp2
  go_loopg [3, 5] k (fun kq v3 v5 w' => ∃ (x3_1 : Int) (x5_1 : Int), v3 = .int .u32 x3_1 ∧ v5 = .int .i64 x5_1 ∧ Aside0 (mix_inverse.l0 kq a0 x3_1 x5_1 = some r) ∧ Aside0 (kq ≤ k) ∧ Drawn0 w w')
  case atStart => exact ⟨(a0), (0), (by first | rfl | (simp; done) | (simp [*]; done)), (by first | rfl | (simp; done) | (simp [*]; done)), H', ⟨Nat.le_refl _⟩, by repeat (first | exact Drawn0.refl _ | apply Drawn0.step)⟩
  case round =>
    clear H'
    try clear c1
    obtain ⟨x3_1, x5_1, rfl, rfl, HA, HK1, ⟨m1, rfl⟩⟩ := hrel
    cases gk with
    | zero => exact absurd HA.out (by simp [mix_inverse.l0])
    | succ k1 =>
      have H := HA.out
      clear HA
      simp only [mix_inverse.l0] at H
      by_cases c2 : x5_1 < 4
      · rw [if_pos c2] at H
        have c2b0 : decide (x5_1 < 4) = true := decide_eq_true c2
        clear c2
        have H' := Aside0.mk H
        clear H
        go_wp2
        go_roundg k1
        case measure => have := HK1.out; omega
        case rel => exact ⟨((x3_1 * ((2 - ((a0 * x3_1) % 4294967296)) % 4294967296)) % 4294967296), (wrap64 (x5_1 + 1)), (by first | rfl | (simp; done) | (simp [*]; done)), (by first | rfl | (simp; done) | (simp [*]; done)), H', ⟨by have := HK1.out; omega⟩, by repeat (first | exact Drawn0.refl _ | apply Drawn0.step)⟩
      · rw [if_neg c2] at H
        have c2b0 : decide (x5_1 < 4) = false := decide_eq_false c2
        clear c2
        obtain rfl := Option.some.inj H
        go_wp2
        go_ret
        exact ⟨by first | rfl | (simp; done) | (simp [*]; done), by repeat (first | exact Drawn0.refl _ | apply Drawn0.step)⟩

/-! ### mix_Unmix: function 9 -/
def mix_Unmix.f (k : Nat) (a0 : Int) (a1 : Int) : Option (Int) := (mix_inverse.f k 3266489909).bind fun t101 => ((mix_inverse.f k 2246822507).bind fun t102 => ((mix_inverse.f k 2654435761).bind fun t103 => (some (((((Go.bits .xor .u32 (((Go.bits .xor .u32 (((Go.bits .xor .u32 a0 (a0 / 65536)) * t101) % 4294967296) (Go.bits .xor .u32 ((((Go.bits .xor .u32 a0 (a0 / 65536)) * t101) % 4294967296) / 8192) ((((Go.bits .xor .u32 a0 (a0 / 65536)) * t101) % 4294967296) / 67108864))) * t102) % 4294967296) ((((Go.bits .xor .u32 (((Go.bits .xor .u32 a0 (a0 / 65536)) * t101) % 4294967296) (Go.bits .xor .u32 ((((Go.bits .xor .u32 a0 (a0 / 65536)) * t101) % 4294967296) / 8192) ((((Go.bits .xor .u32 a0 (a0 / 65536)) * t101) % 4294967296) / 67108864))) * t102) % 4294967296) / 65536)) - a1) % 4294967296) * t103) % 4294967296))))
theorem mix_Unmix.mono : ∀ a0 a1 k, LeO (mix_Unmix.f k a0 a1) (mix_Unmix.f (k + 1) a0 a1) := by
  intro a0 a1 k
  unfold mix_Unmix.f
  repeat' first
      | (with_reducible exact mix_inverse.mono _ _)
      | (with_reducible exact LeO.refl _)
      | (with_reducible exact LeO.none _)
      | (with_reducible refine LeO.ite ?_ ?_)
      | (with_reducible refine LeO.bind ?_ (fun _ => ?_))
      | exact mix_inverse.mono _ _
      | exact LeO.none _
      | refine LeO.ite ?_ ?_
      | refine LeO.bind ?_ (fun _ => ?_)
set_option maxHeartbeats 8000000 in
set_option maxRecDepth 100000 in
theorem mix_Unmix.calls (k : Nat) (a0 : Int) (a1 : Int) (r : Int) (w : World) (h : mix_Unmix.f k a0 a1 = some r) :
    Calls Try.prog 9 #[.int .u32 a0, .int .u32 a1] w fun e w' => e = .returned (.int .u32 r) ∧ Drawn0 w w' := by
  have H : ((mix_inverse.f k 3266489909).bind fun t101 => ((mix_inverse.f k 2246822507).bind fun t102 => ((mix_inverse.f k 2654435761).bind fun t103 => (some (((((Go.bits .xor .u32 (((Go.bits .xor .u32 (((Go.bits .xor .u32 a0 (a0 / 65536)) * t101) % 4294967296) (Go.bits .xor .u32 ((((Go.bits .xor .u32 a0 (a0 / 65536)) * t101) % 4294967296) / 8192) ((((Go.bits .xor .u32 a0 (a0 / 65536)) * t101) % 4294967296) / 67108864))) * t102) % 4294967296) ((((Go.bits .xor .u32 (((Go.bits .xor .u32 a0 (a0 / 65536)) * t101) % 4294967296) (Go.bits .xor .u32 ((((Go.bits .xor .u32 a0 (a0 / 65536)) * t101) % 4294967296) / 8192) ((((Go.bits .xor .u32 a0 (a0 / 65536)) * t101) % 4294967296) / 67108864))) * t102) % 4294967296) / 65536)) - a1) % 4294967296) * t103) % 4294967296))))) = some r := h
  clear h
  replace H := Option.bind_eq_some_iff.mp H
  obtain ⟨t101, A30, H⟩ := H
  replace H : ((mix_inverse.f k 2246822507).bind fun t102 => ((mix_inverse.f k 2654435761).bind fun t103 => (some (((((Go.bits .xor .u32 (((Go.bits .xor .u32 (((Go.bits .xor .u32 a0 (a0 / 65536)) * t101) % 4294967296) (Go.bits .xor .u32 ((((Go.bits .xor .u32 a0 (a0 / 65536)) * t101) % 4294967296) / 8192) ((((Go.bits .xor .u32 a0 (a0 / 65536)) * t101) % 4294967296) / 67108864))) * t102) % 4294967296) ((((Go.bits .xor .u32 (((Go.bits .xor .u32 a0 (a0 / 65536)) * t101) % 4294967296) (Go.bits .xor .u32 ((((Go.bits .xor .u32 a0 (a0 / 65536)) * t101) % 4294967296) / 8192) ((((Go.bits .xor .u32 a0 (a0 / 65536)) * t101) % 4294967296) / 67108864))) * t102) % 4294967296) / 65536)) - a1) % 4294967296) * t103) % 4294967296)))) = some r := H
  have A3 := Aside0.mk A30
  clear A30
  replace H := Option.bind_eq_some_iff.mp H
  obtain ⟨t102, A40, H⟩ := H
  replace H : ((mix_inverse.f k 2654435761).bind fun t103 => (some (((((Go.bits .xor .u32 (((Go.bits .xor .u32 (((Go.bits .xor .u32 a0 (a0 / 65536)) * t101) % 4294967296) (Go.bits .xor .u32 ((((Go.bits .xor .u32 a0 (a0 / 65536)) * t101) % 4294967296) / 8192) ((((Go.bits .xor .u32 a0 (a0 / 65536)) * t101) % 4294967296) / 67108864))) * t102) % 4294967296) ((((Go.bits .xor .u32 (((Go.bits .xor .u32 a0 (a0 / 65536)) * t101) % 4294967296) (Go.bits .xor .u32 ((((Go.bits .xor .u32 a0 (a0 / 65536)) * t101) % 4294967296) / 8192) ((((Go.bits .xor .u32 a0 (a0 / 65536)) * t101) % 4294967296) / 67108864))) * t102) % 4294967296) / 65536)) - a1) % 4294967296) * t103) % 4294967296))) = some r := H
  have A4 := Aside0.mk A40
  clear A40
  replace H := Option.bind_eq_some_iff.mp H
  obtain ⟨t103, A50, H⟩ := H
  replace H : (some (((((Go.bits .xor .u32 (((Go.bits .xor .u32 (((Go.bits .xor .u32 a0 (a0 / 65536)) * t101) % 4294967296) (Go.bits .xor .u32 ((((Go.bits .xor .u32 a0 (a0 / 65536)) * t101) % 4294967296) / 8192) ((((Go.bits .xor .u32 a0 (a0 / 65536)) * t101) % 4294967296) / 67108864))) * t102) % 4294967296) ((((Go.bits .xor .u32 (((Go.bits .xor .u32 a0 (a0 / 65536)) * t101) % 4294967296) (Go.bits .xor .u32 ((((Go.bits .xor .u32 a0 (a0 / 65536)) * t101) % 4294967296) / 8192) ((((Go.bits .xor .u32 a0 (a0 / 65536)) * t101) % 4294967296) / 67108864))) * t102) % 4294967296) / 65536)) - a1) % 4294967296) * t103) % 4294967296)) = some r := H
  have A5 := Aside0.mk A50
  clear A50
  obtain rfl := Option.some.inj H
  go_enter Try.func9, Try.ntmps9
  go_wp2_with (first | ((with_reducible refine gate_callee (f := 12) rfl ?_); refine goesL_ (some 10) rfl rfl Try.func12 (by kernel_rfl) rfl #[.int .u32 3266489909] rfl (by (try simp only [List.map_toArray, List.map_cons, List.map_nil]); first | done | rfl | (simp only [List.length_drop, List.length_take]; rfl)) ?_; (with_reducible refine (mix_inverse.calls k 3266489909 t101 _ A3.out).mono ?_); rintro e w' ⟨rfl, ⟨nd, rfl⟩⟩; refine ⟨_, rfl, ?_⟩) | ((with_reducible refine gate_callee (f := 12) rfl ?_); refine goesL_ (some 20) rfl rfl Try.func12 (by kernel_rfl) rfl #[.int .u32 2246822507] rfl (by (try simp only [List.map_toArray, List.map_cons, List.map_nil]); first | done | rfl | (simp only [List.length_drop, List.length_take]; rfl)) ?_; (with_reducible refine (mix_inverse.calls k 2246822507 t102 _ A4.out).mono ?_); rintro e w' ⟨rfl, ⟨nd, rfl⟩⟩; refine ⟨_, rfl, ?_⟩) | ((with_reducible refine gate_callee (f := 12) rfl ?_); refine goesL_ (some 29) rfl rfl Try.func12 (by kernel_rfl) rfl #[.int .u32 2654435761] rfl (by (try simp only [List.map_toArray, List.map_cons, List.map_nil]); first | done | rfl | (simp only [List.length_drop, List.length_take]; rfl)) ?_; (with_reducible refine (mix_inverse.calls k 2654435761 t103 _ A5.out).mono ?_); rintro e w' ⟨rfl, ⟨nd, rfl⟩⟩; refine ⟨_, rfl, ?_⟩))
  go_ret
  exact ⟨by first | rfl | (simp; done) | (simp [*]; done), by repeat (first | exact Drawn0.refl _ | apply Drawn0.step)⟩

/-! ### geyserlaw06_awake: function 8 -/
def geyserlaw06_awake.f (k : Nat)  : Option (Bool) := (mix_Mix.f 0 0).bind fun t104 => (if t104 = 0 then ((mix_Mix.f 7 9).bind fun t105 => (if t105 = 0 then (some false) else ((mix_Unmix.f k t105 9).bind fun t106 => (some (t106 == 7))))) else (some false))
theorem geyserlaw06_awake.mono : ∀ k, LeO (geyserlaw06_awake.f k ) (geyserlaw06_awake.f (k + 1) ) := by
  intro  k
  unfold geyserlaw06_awake.f
  repeat' first
      | (with_reducible exact mix_Unmix.mono _ _ _)
      | (with_reducible exact LeO.refl _)
      | (with_reducible exact LeO.none _)
      | (with_reducible refine LeO.ite ?_ ?_)
      | (with_reducible refine LeO.bind ?_ (fun _ => ?_))
      | exact mix_Unmix.mono _ _ _
      | exact LeO.none _
      | refine LeO.ite ?_ ?_
      | refine LeO.bind ?_ (fun _ => ?_)
set_option maxHeartbeats 8000000 in
set_option maxRecDepth 100000 in
theorem geyserlaw06_awake.calls (k : Nat)  (r : Bool) (w : World) (h : geyserlaw06_awake.f k  = some r) :
    Calls Try.prog 8 #[] w fun e w' => e = .returned (.bool r) ∧ Drawn0 w w' := by
  have H : ((mix_Mix.f 0 0).bind fun t104 => (if t104 = 0 then ((mix_Mix.f 7 9).bind fun t105 => (if t105 = 0 then (some false) else ((mix_Unmix.f k t105 9).bind fun t106 => (some (t106 == 7))))) else (some false))) = some r := h
  clear h
  replace H := Option.bind_eq_some_iff.mp H
  obtain ⟨t104, A10, H⟩ := H
  replace H : (if t104 = 0 then ((mix_Mix.f 7 9).bind fun t105 => (if t105 = 0 then (some false) else ((mix_Unmix.f k t105 9).bind fun t106 => (some (t106 == 7))))) else (some false)) = some r := H
  have A1 := Aside0.mk A10
  clear A10
  by_cases c2 : t104 = 0
  · rw [if_pos c2] at H
    have c2b0 : (t104 == 0) = true := beq_iff_eq.mpr c2
    have c2b1 : (t104 != 0) = false := bne_eq_false_iff_eq.mpr c2
    clear c2
    replace H := Option.bind_eq_some_iff.mp H
    obtain ⟨t105, A30, H⟩ := H
    replace H : (if t105 = 0 then (some false) else ((mix_Unmix.f k t105 9).bind fun t106 => (some (t106 == 7)))) = some r := H
    have A3 := Aside0.mk A30
    clear A30
    by_cases c4 : t105 = 0
    · rw [if_pos c4] at H
      have c4b0 : (t105 == 0) = true := beq_iff_eq.mpr c4
      have c4b1 : (t105 != 0) = false := bne_eq_false_iff_eq.mpr c4
      clear c4
      obtain rfl := Option.some.inj H
      go_enter Try.func8, Try.ntmps8
      go_wp2_with (first | ((with_reducible refine gate_callee (f := 6) rfl ?_); refine goesL_ (some 1) rfl rfl Try.func6 (by kernel_rfl) rfl #[.int .u32 0, .int .u32 0] rfl (by (try simp only [List.map_toArray, List.map_cons, List.map_nil]); first | done | rfl | (simp only [List.length_drop, List.length_take]; rfl)) ?_; (with_reducible refine (mix_Mix.calls 0 0 t104 _ A1.out).mono ?_); rintro e w' ⟨rfl, ⟨nd, rfl⟩⟩; refine ⟨_, rfl, ?_⟩) | (go_at_call 6; (with_reducible refine (mix_Mix.calls 7 9 t105 _ A3.out).mono ?_); rintro e w' ⟨rfl, ⟨nd, rfl⟩⟩))
      go_ret
      exact ⟨by first | rfl | (simp; done) | (simp [*]; done), by repeat (first | exact Drawn0.refl _ | apply Drawn0.step)⟩
    · rw [if_neg c4] at H
      have c4b0 : (t105 == 0) = false := beq_eq_false_iff_ne.mpr c4
      have c4b1 : (t105 != 0) = true := bne_iff_ne.mpr c4
      replace H := Option.bind_eq_some_iff.mp H
      obtain ⟨t106, A50, H⟩ := H
      replace H : (some (t106 == 7)) = some r := H
      have A5 := Aside0.mk A50
      clear A50
      obtain rfl := Option.some.inj H
      go_enter Try.func8, Try.ntmps8
      go_wp2_with (first | ((with_reducible refine gate_callee (f := 6) rfl ?_); refine goesL_ (some 1) rfl rfl Try.func6 (by kernel_rfl) rfl #[.int .u32 0, .int .u32 0] rfl (by (try simp only [List.map_toArray, List.map_cons, List.map_nil]); first | done | rfl | (simp only [List.length_drop, List.length_take]; rfl)) ?_; (with_reducible refine (mix_Mix.calls 0 0 t104 _ A1.out).mono ?_); rintro e w' ⟨rfl, ⟨nd, rfl⟩⟩; refine ⟨_, rfl, ?_⟩) | (go_at_call 6; (with_reducible refine (mix_Mix.calls 7 9 t105 _ A3.out).mono ?_); rintro e w' ⟨rfl, ⟨nd, rfl⟩⟩) | (go_at_call 9; (with_reducible refine (mix_Unmix.calls k t105 9 t106 _ A5.out).mono ?_); rintro e w' ⟨rfl, ⟨nd, rfl⟩⟩))
      go_ret
      exact ⟨by first | rfl | (simp; done) | (simp [*]; done), by repeat (first | exact Drawn0.refl _ | apply Drawn0.step)⟩
  · rw [if_neg c2] at H
    have c2b0 : (t104 == 0) = false := beq_eq_false_iff_ne.mpr c2
    have c2b1 : (t104 != 0) = true := bne_iff_ne.mpr c2
    obtain rfl := Option.some.inj H
    go_enter Try.func8, Try.ntmps8
    go_wp2_with (first | ((with_reducible refine gate_callee (f := 6) rfl ?_); refine goesL_ (some 1) rfl rfl Try.func6 (by kernel_rfl) rfl #[.int .u32 0, .int .u32 0] rfl (by (try simp only [List.map_toArray, List.map_cons, List.map_nil]); first | done | rfl | (simp only [List.length_drop, List.length_take]; rfl)) ?_; (with_reducible refine (mix_Mix.calls 0 0 t104 _ A1.out).mono ?_); rintro e w' ⟨rfl, ⟨nd, rfl⟩⟩; refine ⟨_, rfl, ?_⟩))
    go_ret
    exact ⟨by first | rfl | (simp; done) | (simp [*]; done), by repeat (first | exact Drawn0.refl _ | apply Drawn0.step)⟩

/-! ### geyserlaw06_MixOne: function 5 -/
def geyserlaw06_MixOne.f (k : Nat) (a0 : Int) (a1 : Int) (a2 : Int) : Option (Bool) := (mix_Mix.f a0 a2).bind fun t107 => ((mix_Mix.f a1 a2).bind fun t108 => (if ((t107 == t108) == (a0 == a1)) = true then ((geyserlaw06_awake.f k).bind fun t109 => (some t109)) else (some false)))
theorem geyserlaw06_MixOne.mono : ∀ a0 a1 a2 k, LeO (geyserlaw06_MixOne.f k a0 a1 a2) (geyserlaw06_MixOne.f (k + 1) a0 a1 a2) := by
  intro a0 a1 a2 k
  unfold geyserlaw06_MixOne.f
  repeat' first
      | (with_reducible exact geyserlaw06_awake.mono _)
      | (with_reducible exact LeO.refl _)
      | (with_reducible exact LeO.none _)
      | (with_reducible refine LeO.ite ?_ ?_)
      | (with_reducible refine LeO.bind ?_ (fun _ => ?_))
      | exact geyserlaw06_awake.mono _
      | exact LeO.none _
      | refine LeO.ite ?_ ?_
      | refine LeO.bind ?_ (fun _ => ?_)
set_option maxHeartbeats 8000000 in
set_option maxRecDepth 100000 in
theorem geyserlaw06_MixOne.calls (k : Nat) (a0 : Int) (a1 : Int) (a2 : Int) (r : Bool) (w : World) (h : geyserlaw06_MixOne.f k a0 a1 a2 = some r) :
    Calls Try.prog 5 #[.int .u32 a0, .int .u32 a1, .int .u32 a2] w fun e w' => e = .returned (.bool r) ∧ Drawn0 w w' := by
  have H : ((mix_Mix.f a0 a2).bind fun t107 => ((mix_Mix.f a1 a2).bind fun t108 => (if ((t107 == t108) == (a0 == a1)) = true then ((geyserlaw06_awake.f k).bind fun t109 => (some t109)) else (some false)))) = some r := h
  clear h
  replace H := Option.bind_eq_some_iff.mp H
  obtain ⟨t107, A40, H⟩ := H
  replace H : ((mix_Mix.f a1 a2).bind fun t108 => (if ((t107 == t108) == (a0 == a1)) = true then ((geyserlaw06_awake.f k).bind fun t109 => (some t109)) else (some false))) = some r := H
  have A4 := Aside0.mk A40
  clear A40
  replace H := Option.bind_eq_some_iff.mp H
  obtain ⟨t108, A50, H⟩ := H
  replace H : (if ((t107 == t108) == (a0 == a1)) = true then ((geyserlaw06_awake.f k).bind fun t109 => (some t109)) else (some false)) = some r := H
  have A5 := Aside0.mk A50
  clear A50
  by_cases c6 : ((t107 == t108) == (a0 == a1)) = true
  · rw [if_pos c6] at H
    have c6b0 : ((t107 == t108) == (a0 == a1)) = true := c6
    (try (have c6b1 : decide ((t107 == t108) = (a0 == a1)) = true := by simpa using c6))
    (try (have c6b2 : ((t107 == t108) == (a0 == a1)) = true := by simpa using c6))
    clear c6
    replace H := Option.bind_eq_some_iff.mp H
    obtain ⟨t109, A70, H⟩ := H
    replace H : (some t109) = some r := H
    have A7 := Aside0.mk A70
    clear A70
    obtain rfl := Option.some.inj H
    go_enter Try.func5, Try.ntmps5
    go_wp2_with (first | ((with_reducible refine gate_callee (f := 6) rfl ?_); refine goesL_ (some 9) rfl rfl Try.func6 (by kernel_rfl) rfl #[.int .u32 a0, .int .u32 a2] rfl (by (try simp only [List.map_toArray, List.map_cons, List.map_nil]); first | done | rfl | (simp only [List.length_drop, List.length_take]; rfl)) ?_; (with_reducible refine (mix_Mix.calls a0 a2 t107 _ A4.out).mono ?_); rintro e w' ⟨rfl, ⟨nd, rfl⟩⟩; refine ⟨_, rfl, ?_⟩) | ((with_reducible refine gate_callee (f := 6) rfl ?_); refine goesL_ (some 12) rfl rfl Try.func6 (by kernel_rfl) rfl #[.int .u32 a1, .int .u32 a2] rfl (by (try simp only [List.map_toArray, List.map_cons, List.map_nil]); first | done | rfl | (simp only [List.length_drop, List.length_take]; rfl)) ?_; (with_reducible refine (mix_Mix.calls a1 a2 t108 _ A5.out).mono ?_); rintro e w' ⟨rfl, ⟨nd, rfl⟩⟩; refine ⟨_, rfl, ?_⟩) | (go_at_call 8; (with_reducible refine (geyserlaw06_awake.calls k  t109 _ A7.out).mono ?_); rintro e w' ⟨rfl, ⟨nd, rfl⟩⟩))
    go_ret
    exact ⟨by first | rfl | (simp; done) | (simp [*]; done), by repeat (first | exact Drawn0.refl _ | apply Drawn0.step)⟩
  · rw [if_neg c6] at H
    have c6b0 : ((t107 == t108) == (a0 == a1)) = false := by simpa using c6
    (try (have c6b1 : decide ((t107 == t108) = (a0 == a1)) = false := by simpa using c6))
    (try (have c6b2 : ((t107 == t108) == (a0 == a1)) = false := by simpa using c6))
    (try (have c6b3 : ¬ ((t107 == t108) = (a0 == a1)) := by simpa using c6))
    clear c6
    obtain rfl := Option.some.inj H
    go_enter Try.func5, Try.ntmps5
    go_wp2_with (first | ((with_reducible refine gate_callee (f := 6) rfl ?_); refine goesL_ (some 9) rfl rfl Try.func6 (by kernel_rfl) rfl #[.int .u32 a0, .int .u32 a2] rfl (by (try simp only [List.map_toArray, List.map_cons, List.map_nil]); first | done | rfl | (simp only [List.length_drop, List.length_take]; rfl)) ?_; (with_reducible refine (mix_Mix.calls a0 a2 t107 _ A4.out).mono ?_); rintro e w' ⟨rfl, ⟨nd, rfl⟩⟩; refine ⟨_, rfl, ?_⟩) | ((with_reducible refine gate_callee (f := 6) rfl ?_); refine goesL_ (some 12) rfl rfl Try.func6 (by kernel_rfl) rfl #[.int .u32 a1, .int .u32 a2] rfl (by (try simp only [List.map_toArray, List.map_cons, List.map_nil]); first | done | rfl | (simp only [List.length_drop, List.length_take]; rfl)) ?_; (with_reducible refine (mix_Mix.calls a1 a2 t108 _ A5.out).mono ?_); rintro e w' ⟨rfl, ⟨nd, rfl⟩⟩; refine ⟨_, rfl, ?_⟩))
    go_ret
    exact ⟨by first | rfl | (simp; done) | (simp [*]; done), by repeat (first | exact Drawn0.refl _ | apply Drawn0.step)⟩

/-- THE ONE PURE STATEMENT of geyserlaw06_MixOne: yours. -/
def geyserlaw06_MixOne.Pure : Prop := ∀ (a0 : Int) (a1 : Int) (a2 : Int), (Lit.int .u32 a0).wf = true → (Lit.int .u32 a1).wf = true → (Lit.int .u32 a2).wf = true → ∃ k, geyserlaw06_MixOne.f k a0 a1 a2 = some true
theorem geyserlaw06_MixOne.walk (P : geyserlaw06_MixOne.Pure) (a0 : Int) (a1 : Int) (a2 : Int) (w : World) (w0 : (Lit.int .u32 a0).wf = true) (w1 : (Lit.int .u32 a1).wf = true) (w2 : (Lit.int .u32 a2).wf = true) :
    Calls Try.prog 5 #[.int .u32 a0, .int .u32 a1, .int .u32 a2] w fun e w' => e = .returned (.bool true) ∧ Below w.heap.size w w' := by
  obtain ⟨k, h⟩ := P a0 a1 a2 w0 w1 w2
  refine (geyserlaw06_MixOne.calls k a0 a1 a2 true w h).mono ?_
  rintro e w' ⟨rfl, hd⟩
  exact ⟨rfl, hd.below⟩

end Go.Proofs.Ytakhbcmhfgjocaa.QMixOne
