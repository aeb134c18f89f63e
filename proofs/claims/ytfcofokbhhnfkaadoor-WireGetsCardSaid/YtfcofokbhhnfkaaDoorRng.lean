/- wire.in and wire.ranges by their contracts. Printed by mkrng.py. -/
import Derived.Test.YtfcofokbhhnfkaaDoorPkm
namespace Go.Proofs.YtfcofokbhhnfkaaDoor.Byt
set_option linter.unusedSimpArgs false
set_option linter.unusedVariables false
open Go.RowKit Go.Deep Go.Proofs.YtfcofokbhhnfkaaDoor.Er Go.Proofs.YtfcofokbhhnfkaaDoorW.PrintWords Go.Proofs.YtfcofokbhhnfkaaDoorW.PrintLast
theorem in_calls (a b c : Int) (r : Bool) (w : World) (h : decide (b ≤ a ∧ a ≤ c) = r) : Calls Tryd.prog 53 #[.int .i64 a, .int .i64 b, .int .i64 c] w fun e w' => e = .returned (.bool r) ∧ w' = w := by
  by_cases h1 : b ≤ a
  · have c1 : decide (b ≤ a) = true := decide_eq_true h1
    have HI : Hid (decide (a ≤ c) = r) := Lib.hid (by rw [← h]; simp [h1])
    clear h h1
    go_enter Tryd.func53, Tryd.ntmps53
    go_wp2
    go_ret
    exact ⟨by rw [HI.out]; rfl, rfl⟩
  · have c1 : decide (b ≤ a) = false := decide_eq_false h1
    have HI : Hid (false = r) := Lib.hid (by rw [← h]; simp [h1])
    clear h h1
    go_enter Tryd.func53, Tryd.ntmps53
    go_wp2
    go_ret
    exact ⟨by rw [HI.out]; rfl, rfl⟩
set_option maxHeartbeats 16000000 in
set_option maxRecDepth 100000 in
theorem ranges_calls (p : Pk) (A : Option Addr) (L c : Nat) (w : World) : Calls Tryd.prog 38 #[pkV p (.slice A L c)] w fun e w' => e = .returned (.bool (decide (RangeOk p))) ∧ Below w.heap.size w w' := by
  obtain ⟨kind, sess, layer, tick, burst, sync, many, place, block, esi, data, size, sym, blocks, long, short, layers, esis, base, len⟩ := p
  by_cases h_f1 : (0 : Int) ≤ sess ∧ sess ≤ (65535 : Int)
  rotate_left
  · skip
    have HR : Hid (decide (RangeOk ⟨kind, sess, layer, tick, burst, sync, many, place, block, esi, data, size, sym, blocks, long, short, layers, esis, base, len⟩) = false) := Lib.hid (decide_eq_false (fun h => by simp only [RangeOk, DataR, AnnR] at h; omega))
    have b_f1 : decide ((0 : Int) ≤ sess ∧ sess ≤ (65535 : Int)) = false := decide_eq_false h_f1
    clear h_f1
    go_enter Tryd.func38, Tryd.ntmps38
    go_wp2_with (first
      | ((with_reducible refine gate_dst (N := 1) rfl ?_); refine wp_box rfl (.tmp 0) rfl rfl rfl ?_; intro w1 hP hB hs; have HP := Lib.hid hP; have HB := Lib.hid hB; obtain ⟨s0, s1, s2, s3, s4, s5, s6, s7, s8, s9, s10, s11, s12, s13, s14, s15, s16, s17, s18, s19⟩ := Wire.cell20 (w := w1) (g := w.heap.size) hP; clear hP hB hs)
      | (go_at_call 53; refine (in_calls _ _ _ _ _ (by assumption)).mono ?_; rintro e w9 ⟨rfl, hw⟩; rw [hw]; clear hw))
    go_ret
    exact ⟨by rw [HR.out]; rfl, HB.out⟩
  by_cases h_f2 : (0 : Int) ≤ layer ∧ layer ≤ (7 : Int)
  rotate_left
  · skip
    have HR : Hid (decide (RangeOk ⟨kind, sess, layer, tick, burst, sync, many, place, block, esi, data, size, sym, blocks, long, short, layers, esis, base, len⟩) = false) := Lib.hid (decide_eq_false (fun h => by simp only [RangeOk, DataR, AnnR] at h; omega))
    have b_f1 : decide ((0 : Int) ≤ sess ∧ sess ≤ (65535 : Int)) = true := decide_eq_true h_f1
    have b_f2 : decide ((0 : Int) ≤ layer ∧ layer ≤ (7 : Int)) = false := decide_eq_false h_f2
    clear h_f1 h_f2
    go_enter Tryd.func38, Tryd.ntmps38
    go_wp2_with (first
      | ((with_reducible refine gate_dst (N := 1) rfl ?_); refine wp_box rfl (.tmp 0) rfl rfl rfl ?_; intro w1 hP hB hs; have HP := Lib.hid hP; have HB := Lib.hid hB; obtain ⟨s0, s1, s2, s3, s4, s5, s6, s7, s8, s9, s10, s11, s12, s13, s14, s15, s16, s17, s18, s19⟩ := Wire.cell20 (w := w1) (g := w.heap.size) hP; clear hP hB hs)
      | (go_at_call 53; refine (in_calls _ _ _ _ _ (by assumption)).mono ?_; rintro e w9 ⟨rfl, hw⟩; rw [hw]; clear hw))
    go_ret
    exact ⟨by rw [HR.out]; rfl, HB.out⟩
  by_cases h_f3 : (0 : Int) ≤ tick ∧ tick ≤ (1099511627775 : Int)
  rotate_left
  · skip
    have HR : Hid (decide (RangeOk ⟨kind, sess, layer, tick, burst, sync, many, place, block, esi, data, size, sym, blocks, long, short, layers, esis, base, len⟩) = false) := Lib.hid (decide_eq_false (fun h => by simp only [RangeOk, DataR, AnnR] at h; omega))
    have b_f1 : decide ((0 : Int) ≤ sess ∧ sess ≤ (65535 : Int)) = true := decide_eq_true h_f1
    have b_f2 : decide ((0 : Int) ≤ layer ∧ layer ≤ (7 : Int)) = true := decide_eq_true h_f2
    have b_f3 : decide ((0 : Int) ≤ tick ∧ tick ≤ (1099511627775 : Int)) = false := decide_eq_false h_f3
    clear h_f1 h_f2 h_f3
    go_enter Tryd.func38, Tryd.ntmps38
    go_wp2_with (first
      | ((with_reducible refine gate_dst (N := 1) rfl ?_); refine wp_box rfl (.tmp 0) rfl rfl rfl ?_; intro w1 hP hB hs; have HP := Lib.hid hP; have HB := Lib.hid hB; obtain ⟨s0, s1, s2, s3, s4, s5, s6, s7, s8, s9, s10, s11, s12, s13, s14, s15, s16, s17, s18, s19⟩ := Wire.cell20 (w := w1) (g := w.heap.size) hP; clear hP hB hs)
      | (go_at_call 53; refine (in_calls _ _ _ _ _ (by assumption)).mono ?_; rintro e w9 ⟨rfl, hw⟩; rw [hw]; clear hw))
    go_ret
    exact ⟨by rw [HR.out]; rfl, HB.out⟩
  by_cases h_k1 : kind = 1
  · skip
    by_cases h_d1 : (-1 : Int) ≤ sync ∧ sync ≤ (7 : Int)
    rotate_left
    · skip
      have HR : Hid (decide (RangeOk ⟨kind, sess, layer, tick, burst, sync, many, place, block, esi, data, size, sym, blocks, long, short, layers, esis, base, len⟩) = false) := Lib.hid (decide_eq_false (fun h => by simp only [RangeOk, DataR, AnnR] at h; omega))
      have b_f1 : decide ((0 : Int) ≤ sess ∧ sess ≤ (65535 : Int)) = true := decide_eq_true h_f1
      have b_f2 : decide ((0 : Int) ≤ layer ∧ layer ≤ (7 : Int)) = true := decide_eq_true h_f2
      have b_f3 : decide ((0 : Int) ≤ tick ∧ tick ≤ (1099511627775 : Int)) = true := decide_eq_true h_f3
      have b_d1 : decide ((-1 : Int) ≤ sync ∧ sync ≤ (7 : Int)) = false := decide_eq_false h_d1
      have c_k1 : (kind == 1) = true := beq_iff_eq.2 h_k1
      clear h_f1 h_f2 h_f3 h_k1 h_d1
      go_enter Tryd.func38, Tryd.ntmps38
      go_wp2_with (first
        | ((with_reducible refine gate_dst (N := 1) rfl ?_); refine wp_box rfl (.tmp 0) rfl rfl rfl ?_; intro w1 hP hB hs; have HP := Lib.hid hP; have HB := Lib.hid hB; obtain ⟨s0, s1, s2, s3, s4, s5, s6, s7, s8, s9, s10, s11, s12, s13, s14, s15, s16, s17, s18, s19⟩ := Wire.cell20 (w := w1) (g := w.heap.size) hP; clear hP hB hs)
        | (go_at_call 53; refine (in_calls _ _ _ _ _ (by assumption)).mono ?_; rintro e w9 ⟨rfl, hw⟩; rw [hw]; clear hw))
      go_ret
      exact ⟨by rw [HR.out]; rfl, HB.out⟩
    by_cases h_d2 : (1 : Int) ≤ many ∧ many ≤ (4096 : Int)
    rotate_left
    · skip
      have HR : Hid (decide (RangeOk ⟨kind, sess, layer, tick, burst, sync, many, place, block, esi, data, size, sym, blocks, long, short, layers, esis, base, len⟩) = false) := Lib.hid (decide_eq_false (fun h => by simp only [RangeOk, DataR, AnnR] at h; omega))
      have b_f1 : decide ((0 : Int) ≤ sess ∧ sess ≤ (65535 : Int)) = true := decide_eq_true h_f1
      have b_f2 : decide ((0 : Int) ≤ layer ∧ layer ≤ (7 : Int)) = true := decide_eq_true h_f2
      have b_f3 : decide ((0 : Int) ≤ tick ∧ tick ≤ (1099511627775 : Int)) = true := decide_eq_true h_f3
      have b_d1 : decide ((-1 : Int) ≤ sync ∧ sync ≤ (7 : Int)) = true := decide_eq_true h_d1
      have b_d2 : decide ((1 : Int) ≤ many ∧ many ≤ (4096 : Int)) = false := decide_eq_false h_d2
      have c_k1 : (kind == 1) = true := beq_iff_eq.2 h_k1
      clear h_f1 h_f2 h_f3 h_k1 h_d1 h_d2
      go_enter Tryd.func38, Tryd.ntmps38
      go_wp2_with (first
        | ((with_reducible refine gate_dst (N := 1) rfl ?_); refine wp_box rfl (.tmp 0) rfl rfl rfl ?_; intro w1 hP hB hs; have HP := Lib.hid hP; have HB := Lib.hid hB; obtain ⟨s0, s1, s2, s3, s4, s5, s6, s7, s8, s9, s10, s11, s12, s13, s14, s15, s16, s17, s18, s19⟩ := Wire.cell20 (w := w1) (g := w.heap.size) hP; clear hP hB hs)
        | (go_at_call 53; refine (in_calls _ _ _ _ _ (by assumption)).mono ?_; rintro e w9 ⟨rfl, hw⟩; rw [hw]; clear hw))
      go_ret
      exact ⟨by rw [HR.out]; rfl, HB.out⟩
    by_cases h_d3 : (0 : Int) ≤ place ∧ place ≤ (many - 1 : Int)
    rotate_left
    · skip
      have HR : Hid (decide (RangeOk ⟨kind, sess, layer, tick, burst, sync, many, place, block, esi, data, size, sym, blocks, long, short, layers, esis, base, len⟩) = false) := Lib.hid (decide_eq_false (fun h => by simp only [RangeOk, DataR, AnnR] at h; omega))
      have b_f1 : decide ((0 : Int) ≤ sess ∧ sess ≤ (65535 : Int)) = true := decide_eq_true h_f1
      have b_f2 : decide ((0 : Int) ≤ layer ∧ layer ≤ (7 : Int)) = true := decide_eq_true h_f2
      have b_f3 : decide ((0 : Int) ≤ tick ∧ tick ≤ (1099511627775 : Int)) = true := decide_eq_true h_f3
      have b_d1 : decide ((-1 : Int) ≤ sync ∧ sync ≤ (7 : Int)) = true := decide_eq_true h_d1
      have b_d2 : decide ((1 : Int) ≤ many ∧ many ≤ (4096 : Int)) = true := decide_eq_true h_d2
      have hw1 : wrap64 (many - 1) = many - 1 := w64 ⟨by omega, by omega⟩
      have b_d3 : decide ((0 : Int) ≤ place ∧ place ≤ (many - 1 : Int)) = false := decide_eq_false h_d3
      have c_k1 : (kind == 1) = true := beq_iff_eq.2 h_k1
      clear h_f1 h_f2 h_f3 h_k1 h_d1 h_d2 h_d3
      go_enter Tryd.func38, Tryd.ntmps38
      go_wp2_with (first
        | ((with_reducible refine gate_dst (N := 1) rfl ?_); refine wp_box rfl (.tmp 0) rfl rfl rfl ?_; intro w1 hP hB hs; have HP := Lib.hid hP; have HB := Lib.hid hB; obtain ⟨s0, s1, s2, s3, s4, s5, s6, s7, s8, s9, s10, s11, s12, s13, s14, s15, s16, s17, s18, s19⟩ := Wire.cell20 (w := w1) (g := w.heap.size) hP; clear hP hB hs)
        | (go_at_call 53; refine (in_calls _ _ _ _ _ (by assumption)).mono ?_; rintro e w9 ⟨rfl, hw⟩; rw [hw]; clear hw))
      go_ret
      exact ⟨by rw [HR.out]; rfl, HB.out⟩
    by_cases h_d4 : (0 : Int) ≤ block ∧ block ≤ (15 : Int)
    rotate_left
    · skip
      have HR : Hid (decide (RangeOk ⟨kind, sess, layer, tick, burst, sync, many, place, block, esi, data, size, sym, blocks, long, short, layers, esis, base, len⟩) = false) := Lib.hid (decide_eq_false (fun h => by simp only [RangeOk, DataR, AnnR] at h; omega))
      have b_f1 : decide ((0 : Int) ≤ sess ∧ sess ≤ (65535 : Int)) = true := decide_eq_true h_f1
      have b_f2 : decide ((0 : Int) ≤ layer ∧ layer ≤ (7 : Int)) = true := decide_eq_true h_f2
      have b_f3 : decide ((0 : Int) ≤ tick ∧ tick ≤ (1099511627775 : Int)) = true := decide_eq_true h_f3
      have b_d1 : decide ((-1 : Int) ≤ sync ∧ sync ≤ (7 : Int)) = true := decide_eq_true h_d1
      have b_d2 : decide ((1 : Int) ≤ many ∧ many ≤ (4096 : Int)) = true := decide_eq_true h_d2
      have hw1 : wrap64 (many - 1) = many - 1 := w64 ⟨by omega, by omega⟩
      have b_d3 : decide ((0 : Int) ≤ place ∧ place ≤ (many - 1 : Int)) = true := decide_eq_true h_d3
      have b_d4 : decide ((0 : Int) ≤ block ∧ block ≤ (15 : Int)) = false := decide_eq_false h_d4
      have c_k1 : (kind == 1) = true := beq_iff_eq.2 h_k1
      clear h_f1 h_f2 h_f3 h_k1 h_d1 h_d2 h_d3 h_d4
      go_enter Tryd.func38, Tryd.ntmps38
      go_wp2_with (first
        | ((with_reducible refine gate_dst (N := 1) rfl ?_); refine wp_box rfl (.tmp 0) rfl rfl rfl ?_; intro w1 hP hB hs; have HP := Lib.hid hP; have HB := Lib.hid hB; obtain ⟨s0, s1, s2, s3, s4, s5, s6, s7, s8, s9, s10, s11, s12, s13, s14, s15, s16, s17, s18, s19⟩ := Wire.cell20 (w := w1) (g := w.heap.size) hP; clear hP hB hs)
        | (go_at_call 53; refine (in_calls _ _ _ _ _ (by assumption)).mono ?_; rintro e w9 ⟨rfl, hw⟩; rw [hw]; clear hw))
      go_ret
      exact ⟨by rw [HR.out]; rfl, HB.out⟩
    by_cases h_d5 : (0 : Int) ≤ esi ∧ esi ≤ (65535 : Int)
    rotate_left
    · skip
      have HR : Hid (decide (RangeOk ⟨kind, sess, layer, tick, burst, sync, many, place, block, esi, data, size, sym, blocks, long, short, layers, esis, base, len⟩) = false) := Lib.hid (decide_eq_false (fun h => by simp only [RangeOk, DataR, AnnR] at h; omega))
      have b_f1 : decide ((0 : Int) ≤ sess ∧ sess ≤ (65535 : Int)) = true := decide_eq_true h_f1
      have b_f2 : decide ((0 : Int) ≤ layer ∧ layer ≤ (7 : Int)) = true := decide_eq_true h_f2
      have b_f3 : decide ((0 : Int) ≤ tick ∧ tick ≤ (1099511627775 : Int)) = true := decide_eq_true h_f3
      have b_d1 : decide ((-1 : Int) ≤ sync ∧ sync ≤ (7 : Int)) = true := decide_eq_true h_d1
      have b_d2 : decide ((1 : Int) ≤ many ∧ many ≤ (4096 : Int)) = true := decide_eq_true h_d2
      have hw1 : wrap64 (many - 1) = many - 1 := w64 ⟨by omega, by omega⟩
      have b_d3 : decide ((0 : Int) ≤ place ∧ place ≤ (many - 1 : Int)) = true := decide_eq_true h_d3
      have b_d4 : decide ((0 : Int) ≤ block ∧ block ≤ (15 : Int)) = true := decide_eq_true h_d4
      have b_d5 : decide ((0 : Int) ≤ esi ∧ esi ≤ (65535 : Int)) = false := decide_eq_false h_d5
      have c_k1 : (kind == 1) = true := beq_iff_eq.2 h_k1
      clear h_f1 h_f2 h_f3 h_k1 h_d1 h_d2 h_d3 h_d4 h_d5
      go_enter Tryd.func38, Tryd.ntmps38
      go_wp2_with (first
        | ((with_reducible refine gate_dst (N := 1) rfl ?_); refine wp_box rfl (.tmp 0) rfl rfl rfl ?_; intro w1 hP hB hs; have HP := Lib.hid hP; have HB := Lib.hid hB; obtain ⟨s0, s1, s2, s3, s4, s5, s6, s7, s8, s9, s10, s11, s12, s13, s14, s15, s16, s17, s18, s19⟩ := Wire.cell20 (w := w1) (g := w.heap.size) hP; clear hP hB hs)
        | (go_at_call 53; refine (in_calls _ _ _ _ _ (by assumption)).mono ?_; rintro e w9 ⟨rfl, hw⟩; rw [hw]; clear hw))
      go_ret
      exact ⟨by rw [HR.out]; rfl, HB.out⟩
    have HR : Hid (decide (RangeOk ⟨kind, sess, layer, tick, burst, sync, many, place, block, esi, data, size, sym, blocks, long, short, layers, esis, base, len⟩) = true) := Lib.hid (decide_eq_true (by simp only [RangeOk, DataR, AnnR]; omega))
    have b_f1 : decide ((0 : Int) ≤ sess ∧ sess ≤ (65535 : Int)) = true := decide_eq_true h_f1
    have b_f2 : decide ((0 : Int) ≤ layer ∧ layer ≤ (7 : Int)) = true := decide_eq_true h_f2
    have b_f3 : decide ((0 : Int) ≤ tick ∧ tick ≤ (1099511627775 : Int)) = true := decide_eq_true h_f3
    have b_d1 : decide ((-1 : Int) ≤ sync ∧ sync ≤ (7 : Int)) = true := decide_eq_true h_d1
    have b_d2 : decide ((1 : Int) ≤ many ∧ many ≤ (4096 : Int)) = true := decide_eq_true h_d2
    have hw1 : wrap64 (many - 1) = many - 1 := w64 ⟨by omega, by omega⟩
    have b_d3 : decide ((0 : Int) ≤ place ∧ place ≤ (many - 1 : Int)) = true := decide_eq_true h_d3
    have b_d4 : decide ((0 : Int) ≤ block ∧ block ≤ (15 : Int)) = true := decide_eq_true h_d4
    have b_d5 : decide ((0 : Int) ≤ esi ∧ esi ≤ (65535 : Int)) = true := decide_eq_true h_d5
    have c_k1 : (kind == 1) = true := beq_iff_eq.2 h_k1
    clear h_f1 h_f2 h_f3 h_k1 h_d1 h_d2 h_d3 h_d4 h_d5
    go_enter Tryd.func38, Tryd.ntmps38
    go_wp2_with (first
      | ((with_reducible refine gate_dst (N := 1) rfl ?_); refine wp_box rfl (.tmp 0) rfl rfl rfl ?_; intro w1 hP hB hs; have HP := Lib.hid hP; have HB := Lib.hid hB; obtain ⟨s0, s1, s2, s3, s4, s5, s6, s7, s8, s9, s10, s11, s12, s13, s14, s15, s16, s17, s18, s19⟩ := Wire.cell20 (w := w1) (g := w.heap.size) hP; clear hP hB hs)
      | (go_at_call 53; refine (in_calls _ _ _ _ _ (by assumption)).mono ?_; rintro e w9 ⟨rfl, hw⟩; rw [hw]; clear hw))
    go_ret
    exact ⟨by rw [HR.out]; rfl, HB.out⟩
  by_cases h_k2 : kind = 2
  · skip
    by_cases h_a1 : layer = 0
    rotate_left
    · skip
      have HR : Hid (decide (RangeOk ⟨kind, sess, layer, tick, burst, sync, many, place, block, esi, data, size, sym, blocks, long, short, layers, esis, base, len⟩) = false) := Lib.hid (decide_eq_false (fun h => by simp only [RangeOk, DataR, AnnR] at h; omega))
      have b_f1 : decide ((0 : Int) ≤ sess ∧ sess ≤ (65535 : Int)) = true := decide_eq_true h_f1
      have b_f2 : decide ((0 : Int) ≤ layer ∧ layer ≤ (7 : Int)) = true := decide_eq_true h_f2
      have b_f3 : decide ((0 : Int) ≤ tick ∧ tick ≤ (1099511627775 : Int)) = true := decide_eq_true h_f3
      have b_a1 : (layer == 0) = false := beq_eq_false_iff_ne.2 h_a1
      have c_k1 : (kind == 1) = false := beq_eq_false_iff_ne.2 h_k1
      have c_k2 : (kind == 2) = true := beq_iff_eq.2 h_k2
      clear h_f1 h_f2 h_f3 h_k1 h_k2 h_a1
      go_enter Tryd.func38, Tryd.ntmps38
      go_wp2_with (first
        | ((with_reducible refine gate_dst (N := 1) rfl ?_); refine wp_box rfl (.tmp 0) rfl rfl rfl ?_; intro w1 hP hB hs; have HP := Lib.hid hP; have HB := Lib.hid hB; obtain ⟨s0, s1, s2, s3, s4, s5, s6, s7, s8, s9, s10, s11, s12, s13, s14, s15, s16, s17, s18, s19⟩ := Wire.cell20 (w := w1) (g := w.heap.size) hP; clear hP hB hs)
        | (go_at_call 53; refine (in_calls _ _ _ _ _ (by assumption)).mono ?_; rintro e w9 ⟨rfl, hw⟩; rw [hw]; clear hw))
      go_ret
      exact ⟨by rw [HR.out]; rfl, HB.out⟩
    by_cases h_a2 : size < 4294967296
    rotate_left
    · skip
      have HR : Hid (decide (RangeOk ⟨kind, sess, layer, tick, burst, sync, many, place, block, esi, data, size, sym, blocks, long, short, layers, esis, base, len⟩) = false) := Lib.hid (decide_eq_false (fun h => by simp only [RangeOk, DataR, AnnR] at h; omega))
      have b_f1 : decide ((0 : Int) ≤ sess ∧ sess ≤ (65535 : Int)) = true := decide_eq_true h_f1
      have b_f2 : decide ((0 : Int) ≤ layer ∧ layer ≤ (7 : Int)) = true := decide_eq_true h_f2
      have b_f3 : decide ((0 : Int) ≤ tick ∧ tick ≤ (1099511627775 : Int)) = true := decide_eq_true h_f3
      have b_a1 : (layer == 0) = true := beq_iff_eq.2 h_a1
      have b_a2 : decide (size < 4294967296) = false := decide_eq_false h_a2
      have c_k1 : (kind == 1) = false := beq_eq_false_iff_ne.2 h_k1
      have c_k2 : (kind == 2) = true := beq_iff_eq.2 h_k2
      clear h_f1 h_f2 h_f3 h_k1 h_k2 h_a1 h_a2
      go_enter Tryd.func38, Tryd.ntmps38
      go_wp2_with (first
        | ((with_reducible refine gate_dst (N := 1) rfl ?_); refine wp_box rfl (.tmp 0) rfl rfl rfl ?_; intro w1 hP hB hs; have HP := Lib.hid hP; have HB := Lib.hid hB; obtain ⟨s0, s1, s2, s3, s4, s5, s6, s7, s8, s9, s10, s11, s12, s13, s14, s15, s16, s17, s18, s19⟩ := Wire.cell20 (w := w1) (g := w.heap.size) hP; clear hP hB hs)
        | (go_at_call 53; refine (in_calls _ _ _ _ _ (by assumption)).mono ?_; rintro e w9 ⟨rfl, hw⟩; rw [hw]; clear hw))
      go_ret
      exact ⟨by rw [HR.out]; rfl, HB.out⟩
    by_cases h_a3 : (1 : Int) ≤ layers ∧ layers ≤ (8 : Int)
    rotate_left
    · skip
      have HR : Hid (decide (RangeOk ⟨kind, sess, layer, tick, burst, sync, many, place, block, esi, data, size, sym, blocks, long, short, layers, esis, base, len⟩) = false) := Lib.hid (decide_eq_false (fun h => by simp only [RangeOk, DataR, AnnR] at h; omega))
      have b_f1 : decide ((0 : Int) ≤ sess ∧ sess ≤ (65535 : Int)) = true := decide_eq_true h_f1
      have b_f2 : decide ((0 : Int) ≤ layer ∧ layer ≤ (7 : Int)) = true := decide_eq_true h_f2
      have b_f3 : decide ((0 : Int) ≤ tick ∧ tick ≤ (1099511627775 : Int)) = true := decide_eq_true h_f3
      have b_a1 : (layer == 0) = true := beq_iff_eq.2 h_a1
      have b_a2 : decide (size < 4294967296) = true := decide_eq_true h_a2
      have b_a3 : decide ((1 : Int) ≤ layers ∧ layers ≤ (8 : Int)) = false := decide_eq_false h_a3
      have c_k1 : (kind == 1) = false := beq_eq_false_iff_ne.2 h_k1
      have c_k2 : (kind == 2) = true := beq_iff_eq.2 h_k2
      clear h_f1 h_f2 h_f3 h_k1 h_k2 h_a1 h_a2 h_a3
      go_enter Tryd.func38, Tryd.ntmps38
      go_wp2_with (first
        | ((with_reducible refine gate_dst (N := 1) rfl ?_); refine wp_box rfl (.tmp 0) rfl rfl rfl ?_; intro w1 hP hB hs; have HP := Lib.hid hP; have HB := Lib.hid hB; obtain ⟨s0, s1, s2, s3, s4, s5, s6, s7, s8, s9, s10, s11, s12, s13, s14, s15, s16, s17, s18, s19⟩ := Wire.cell20 (w := w1) (g := w.heap.size) hP; clear hP hB hs)
        | (go_at_call 53; refine (in_calls _ _ _ _ _ (by assumption)).mono ?_; rintro e w9 ⟨rfl, hw⟩; rw [hw]; clear hw))
      go_ret
      exact ⟨by rw [HR.out]; rfl, HB.out⟩
    by_cases h_a4 : (1 : Int) ≤ esis ∧ esis ≤ (65536 : Int)
    rotate_left
    · skip
      have HR : Hid (decide (RangeOk ⟨kind, sess, layer, tick, burst, sync, many, place, block, esi, data, size, sym, blocks, long, short, layers, esis, base, len⟩) = false) := Lib.hid (decide_eq_false (fun h => by simp only [RangeOk, DataR, AnnR] at h; omega))
      have b_f1 : decide ((0 : Int) ≤ sess ∧ sess ≤ (65535 : Int)) = true := decide_eq_true h_f1
      have b_f2 : decide ((0 : Int) ≤ layer ∧ layer ≤ (7 : Int)) = true := decide_eq_true h_f2
      have b_f3 : decide ((0 : Int) ≤ tick ∧ tick ≤ (1099511627775 : Int)) = true := decide_eq_true h_f3
      have b_a1 : (layer == 0) = true := beq_iff_eq.2 h_a1
      have b_a2 : decide (size < 4294967296) = true := decide_eq_true h_a2
      have b_a3 : decide ((1 : Int) ≤ layers ∧ layers ≤ (8 : Int)) = true := decide_eq_true h_a3
      have b_a4 : decide ((1 : Int) ≤ esis ∧ esis ≤ (65536 : Int)) = false := decide_eq_false h_a4
      have c_k1 : (kind == 1) = false := beq_eq_false_iff_ne.2 h_k1
      have c_k2 : (kind == 2) = true := beq_iff_eq.2 h_k2
      clear h_f1 h_f2 h_f3 h_k1 h_k2 h_a1 h_a2 h_a3 h_a4
      go_enter Tryd.func38, Tryd.ntmps38
      go_wp2_with (first
        | ((with_reducible refine gate_dst (N := 1) rfl ?_); refine wp_box rfl (.tmp 0) rfl rfl rfl ?_; intro w1 hP hB hs; have HP := Lib.hid hP; have HB := Lib.hid hB; obtain ⟨s0, s1, s2, s3, s4, s5, s6, s7, s8, s9, s10, s11, s12, s13, s14, s15, s16, s17, s18, s19⟩ := Wire.cell20 (w := w1) (g := w.heap.size) hP; clear hP hB hs)
        | (go_at_call 53; refine (in_calls _ _ _ _ _ (by assumption)).mono ?_; rintro e w9 ⟨rfl, hw⟩; rw [hw]; clear hw))
      go_ret
      exact ⟨by rw [HR.out]; rfl, HB.out⟩
    by_cases h_a5 : (2 : Int) ≤ base ∧ base ≤ (4096 : Int)
    rotate_left
    · skip
      have HR : Hid (decide (RangeOk ⟨kind, sess, layer, tick, burst, sync, many, place, block, esi, data, size, sym, blocks, long, short, layers, esis, base, len⟩) = false) := Lib.hid (decide_eq_false (fun h => by simp only [RangeOk, DataR, AnnR] at h; omega))
      have b_f1 : decide ((0 : Int) ≤ sess ∧ sess ≤ (65535 : Int)) = true := decide_eq_true h_f1
      have b_f2 : decide ((0 : Int) ≤ layer ∧ layer ≤ (7 : Int)) = true := decide_eq_true h_f2
      have b_f3 : decide ((0 : Int) ≤ tick ∧ tick ≤ (1099511627775 : Int)) = true := decide_eq_true h_f3
      have b_a1 : (layer == 0) = true := beq_iff_eq.2 h_a1
      have b_a2 : decide (size < 4294967296) = true := decide_eq_true h_a2
      have b_a3 : decide ((1 : Int) ≤ layers ∧ layers ≤ (8 : Int)) = true := decide_eq_true h_a3
      have b_a4 : decide ((1 : Int) ≤ esis ∧ esis ≤ (65536 : Int)) = true := decide_eq_true h_a4
      have b_a5 : decide ((2 : Int) ≤ base ∧ base ≤ (4096 : Int)) = false := decide_eq_false h_a5
      have c_k1 : (kind == 1) = false := beq_eq_false_iff_ne.2 h_k1
      have c_k2 : (kind == 2) = true := beq_iff_eq.2 h_k2
      clear h_f1 h_f2 h_f3 h_k1 h_k2 h_a1 h_a2 h_a3 h_a4 h_a5
      go_enter Tryd.func38, Tryd.ntmps38
      go_wp2_with (first
        | ((with_reducible refine gate_dst (N := 1) rfl ?_); refine wp_box rfl (.tmp 0) rfl rfl rfl ?_; intro w1 hP hB hs; have HP := Lib.hid hP; have HB := Lib.hid hB; obtain ⟨s0, s1, s2, s3, s4, s5, s6, s7, s8, s9, s10, s11, s12, s13, s14, s15, s16, s17, s18, s19⟩ := Wire.cell20 (w := w1) (g := w.heap.size) hP; clear hP hB hs)
        | (go_at_call 53; refine (in_calls _ _ _ _ _ (by assumption)).mono ?_; rintro e w9 ⟨rfl, hw⟩; rw [hw]; clear hw))
      go_ret
      exact ⟨by rw [HR.out]; rfl, HB.out⟩
    by_cases h_a6 : (1 : Int) ≤ len ∧ len ≤ (base - 1 : Int)
    rotate_left
    · skip
      have HR : Hid (decide (RangeOk ⟨kind, sess, layer, tick, burst, sync, many, place, block, esi, data, size, sym, blocks, long, short, layers, esis, base, len⟩) = false) := Lib.hid (decide_eq_false (fun h => by simp only [RangeOk, DataR, AnnR] at h; omega))
      have b_f1 : decide ((0 : Int) ≤ sess ∧ sess ≤ (65535 : Int)) = true := decide_eq_true h_f1
      have b_f2 : decide ((0 : Int) ≤ layer ∧ layer ≤ (7 : Int)) = true := decide_eq_true h_f2
      have b_f3 : decide ((0 : Int) ≤ tick ∧ tick ≤ (1099511627775 : Int)) = true := decide_eq_true h_f3
      have b_a1 : (layer == 0) = true := beq_iff_eq.2 h_a1
      have b_a2 : decide (size < 4294967296) = true := decide_eq_true h_a2
      have b_a3 : decide ((1 : Int) ≤ layers ∧ layers ≤ (8 : Int)) = true := decide_eq_true h_a3
      have b_a4 : decide ((1 : Int) ≤ esis ∧ esis ≤ (65536 : Int)) = true := decide_eq_true h_a4
      have b_a5 : decide ((2 : Int) ≤ base ∧ base ≤ (4096 : Int)) = true := decide_eq_true h_a5
      have hw2 : wrap64 (base - 1) = base - 1 := w64 ⟨by omega, by omega⟩
      have b_a6 : decide ((1 : Int) ≤ len ∧ len ≤ (base - 1 : Int)) = false := decide_eq_false h_a6
      have c_k1 : (kind == 1) = false := beq_eq_false_iff_ne.2 h_k1
      have c_k2 : (kind == 2) = true := beq_iff_eq.2 h_k2
      clear h_f1 h_f2 h_f3 h_k1 h_k2 h_a1 h_a2 h_a3 h_a4 h_a5 h_a6
      go_enter Tryd.func38, Tryd.ntmps38
      go_wp2_with (first
        | ((with_reducible refine gate_dst (N := 1) rfl ?_); refine wp_box rfl (.tmp 0) rfl rfl rfl ?_; intro w1 hP hB hs; have HP := Lib.hid hP; have HB := Lib.hid hB; obtain ⟨s0, s1, s2, s3, s4, s5, s6, s7, s8, s9, s10, s11, s12, s13, s14, s15, s16, s17, s18, s19⟩ := Wire.cell20 (w := w1) (g := w.heap.size) hP; clear hP hB hs)
        | (go_at_call 53; refine (in_calls _ _ _ _ _ (by assumption)).mono ?_; rintro e w9 ⟨rfl, hw⟩; rw [hw]; clear hw))
      go_ret
      exact ⟨by rw [HR.out]; rfl, HB.out⟩
    have HR : Hid (decide (RangeOk ⟨kind, sess, layer, tick, burst, sync, many, place, block, esi, data, size, sym, blocks, long, short, layers, esis, base, len⟩) = true) := Lib.hid (decide_eq_true (by simp only [RangeOk, DataR, AnnR]; omega))
    have b_f1 : decide ((0 : Int) ≤ sess ∧ sess ≤ (65535 : Int)) = true := decide_eq_true h_f1
    have b_f2 : decide ((0 : Int) ≤ layer ∧ layer ≤ (7 : Int)) = true := decide_eq_true h_f2
    have b_f3 : decide ((0 : Int) ≤ tick ∧ tick ≤ (1099511627775 : Int)) = true := decide_eq_true h_f3
    have b_a1 : (layer == 0) = true := beq_iff_eq.2 h_a1
    have b_a2 : decide (size < 4294967296) = true := decide_eq_true h_a2
    have b_a3 : decide ((1 : Int) ≤ layers ∧ layers ≤ (8 : Int)) = true := decide_eq_true h_a3
    have b_a4 : decide ((1 : Int) ≤ esis ∧ esis ≤ (65536 : Int)) = true := decide_eq_true h_a4
    have b_a5 : decide ((2 : Int) ≤ base ∧ base ≤ (4096 : Int)) = true := decide_eq_true h_a5
    have hw2 : wrap64 (base - 1) = base - 1 := w64 ⟨by omega, by omega⟩
    have b_a6 : decide ((1 : Int) ≤ len ∧ len ≤ (base - 1 : Int)) = true := decide_eq_true h_a6
    have c_k1 : (kind == 1) = false := beq_eq_false_iff_ne.2 h_k1
    have c_k2 : (kind == 2) = true := beq_iff_eq.2 h_k2
    clear h_f1 h_f2 h_f3 h_k1 h_k2 h_a1 h_a2 h_a3 h_a4 h_a5 h_a6
    go_enter Tryd.func38, Tryd.ntmps38
    go_wp2_with (first
      | ((with_reducible refine gate_dst (N := 1) rfl ?_); refine wp_box rfl (.tmp 0) rfl rfl rfl ?_; intro w1 hP hB hs; have HP := Lib.hid hP; have HB := Lib.hid hB; obtain ⟨s0, s1, s2, s3, s4, s5, s6, s7, s8, s9, s10, s11, s12, s13, s14, s15, s16, s17, s18, s19⟩ := Wire.cell20 (w := w1) (g := w.heap.size) hP; clear hP hB hs)
      | (go_at_call 53; refine (in_calls _ _ _ _ _ (by assumption)).mono ?_; rintro e w9 ⟨rfl, hw⟩; rw [hw]; clear hw))
    go_ret
    exact ⟨by rw [HR.out]; rfl, HB.out⟩
  have HR : Hid (decide (RangeOk ⟨kind, sess, layer, tick, burst, sync, many, place, block, esi, data, size, sym, blocks, long, short, layers, esis, base, len⟩) = false) := Lib.hid (decide_eq_false (fun h => by simp only [RangeOk, DataR, AnnR] at h; omega))
  have b_f1 : decide ((0 : Int) ≤ sess ∧ sess ≤ (65535 : Int)) = true := decide_eq_true h_f1
  have b_f2 : decide ((0 : Int) ≤ layer ∧ layer ≤ (7 : Int)) = true := decide_eq_true h_f2
  have b_f3 : decide ((0 : Int) ≤ tick ∧ tick ≤ (1099511627775 : Int)) = true := decide_eq_true h_f3
  have c_k1 : (kind == 1) = false := beq_eq_false_iff_ne.2 h_k1
  have c_k2 : (kind == 2) = false := beq_eq_false_iff_ne.2 h_k2
  clear h_f1 h_f2 h_f3 h_k1 h_k2
  go_enter Tryd.func38, Tryd.ntmps38
  go_wp2_with (first
    | ((with_reducible refine gate_dst (N := 1) rfl ?_); refine wp_box rfl (.tmp 0) rfl rfl rfl ?_; intro w1 hP hB hs; have HP := Lib.hid hP; have HB := Lib.hid hB; obtain ⟨s0, s1, s2, s3, s4, s5, s6, s7, s8, s9, s10, s11, s12, s13, s14, s15, s16, s17, s18, s19⟩ := Wire.cell20 (w := w1) (g := w.heap.size) hP; clear hP hB hs)
    | (go_at_call 53; refine (in_calls _ _ _ _ _ (by assumption)).mono ?_; rintro e w9 ⟨rfl, hw⟩; rw [hw]; clear hw))
  go_ret
  exact ⟨by rw [HR.out]; rfl, HB.out⟩
end Go.Proofs.YtfcofokbhhnfkaaDoor.Byt
