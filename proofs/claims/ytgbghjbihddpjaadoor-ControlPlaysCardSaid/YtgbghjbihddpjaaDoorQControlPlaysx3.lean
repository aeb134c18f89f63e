-- Written by a program of this session out of the translation. Lean checks it.
import Derived.Test.YtgbghjbihddpjaaDoorQControlPlaysx0
import Derived.Test.YtgbghjbihddpjaaDoorQControlPlaysx2
namespace Go.Proofs.YtgbghjbihddpjaaDoor.QControlPlays
open Go.RowKit Go.Proofs.YtgbghjbihddpjaaDoor.Er Go.Proofs.YtgbghjbihddpjaaDoor.As Go.Proofs.YtgbghjbihddpjaaDoor.Tells Go.Proofs.YtgbghjbihddpjaaDoor.St Go.Proofs.YtgbghjbihddpjaaDoorW.PrintWords Go.Proofs.YtgbghjbihddpjaaDoorW.PrintLast Go.Proofs.YtgbghjbihddpjaaDoorW.PrintMore
attribute [local go_sem] max2_int min2_int max_two min_two max_three min_three max_four min_four   -- for this text's walks alone
set_option linter.unusedVariables false
set_option linter.unusedSimpArgs false

/-! ### geyserref21_Mark: function 9 -/
mutual
def geyserref21_Mark.j0 : Nat → Bool → Int → Int → Int → Int → Bool → Bool → Bool → Bool → Int → Option (Int × Int × Int × Int × Bool × Int × Int)
  | 0, _, _, _, _, _, _, _, _, _, _ => none
  | k + 1, x15, x144000, x144001, x144002, x144003, x144004, x145000, x145001, x145002, x145003 => if x15 = true then (some (x144000, x144001, x144002, x144003, x144004, 0, 1)) else (if x145001 = true then ((geyserref21_burst.f k x144000 x144001 x144002 x144003 x144004 x145000 x145001 x145002 x145003).bind fun bt146 => (geyserref21_Mark.j1 k 0 bt146.1 bt146.2.1 bt146.2.2.1 bt146.2.2.2.1 bt146.2.2.2.2 x145000 x145001 x145002 x145003)) else (if x145002 = true then (geyserref21_Mark.j1 k (mx (-1) (wrap64 (-x144000))) x144000 x144001 x144002 0 x144004 x145000 x145001 x145002 x145003) else (geyserref21_Mark.j1 k 0 x144000 x144001 x144002 x144003 x144004 x145000 x145001 x145002 x145003)))
def geyserref21_Mark.j1 : Nat → Int → Int → Int → Int → Int → Bool → Bool → Bool → Bool → Int → Option (Int × Int × Int × Int × Bool × Int × Int)
  | 0, _, _, _, _, _, _, _, _, _, _ => none
  | k + 1, x7, x144000, x144001, x144002, x144003, x144004, x145000, x145001, x145002, x145003 => if x145003 ≥ 0 then (if x7 = 0 then (if x145003 ≥ x144000 then (if x144000 < x144001 then (if x144003 ≥ x144002 then (some (wrap64 (x144000 + 1), x144001, x144002, 0, false, 1, 0)) else (some (wrap64 (x144000 + x7), x144001, x144002, 0, false, x7, 0))) else (some (wrap64 (x144000 + x7), x144001, x144002, 0, false, x7, 0))) else (some (wrap64 (x144000 + x7), x144001, x144002, 0, false, x7, 0))) else (some (wrap64 (x144000 + x7), x144001, x144002, 0, false, x7, 0))) else (some (wrap64 (x144000 + x7), x144001, x144002, x144003, x144004, x7, 0))
end
def geyserref21_Mark.f (k : Nat) (a0_0 : Int) (a0_1 : Int) (a0_2 : Int) (a0_3 : Int) (a0_4 : Bool) (a1_0 : Bool) (a1_1 : Bool) (a1_2 : Bool) (a1_3 : Int) : Option (Int × Int × Int × Int × Bool × Int × Int) := if a1_3 < (-1) then (geyserref21_Mark.j0 k true a0_0 a0_1 a0_2 a0_3 a0_4 a1_0 a1_1 a1_2 a1_3) else (geyserref21_Mark.j0 k (decide (a1_3 > 7)) a0_0 a0_1 a0_2 a0_3 a0_4 a1_0 a1_1 a1_2 a1_3)
theorem geyserref21_Mark.mono_l : ∀ k, (∀ y0 y1 y2 y3 y4 y5 y6 y7 y8 y9, LeO (geyserref21_Mark.j0 k y0 y1 y2 y3 y4 y5 y6 y7 y8 y9) (geyserref21_Mark.j0 (k + 1) y0 y1 y2 y3 y4 y5 y6 y7 y8 y9)) ∧ (∀ y0 y1 y2 y3 y4 y5 y6 y7 y8 y9, LeO (geyserref21_Mark.j1 k y0 y1 y2 y3 y4 y5 y6 y7 y8 y9) (geyserref21_Mark.j1 (k + 1) y0 y1 y2 y3 y4 y5 y6 y7 y8 y9))
  | 0 => ⟨fun _ _ _ _ _ _ _ _ _ _ r h => by simp [geyserref21_Mark.j0] at h, fun _ _ _ _ _ _ _ _ _ _ r h => by simp [geyserref21_Mark.j1] at h⟩
  | k + 1 => by
    obtain ⟨ih0, ih1⟩ := geyserref21_Mark.mono_l k
    refine ⟨?_, ?_⟩
    · intro y0 y1 y2 y3 y4 y5 y6 y7 y8 y9
      unfold geyserref21_Mark.j0
      repeat' first
      | (with_reducible exact ih0 _ _ _ _ _ _ _ _ _ _)
      | (with_reducible exact ih1 _ _ _ _ _ _ _ _ _ _)
      | (with_reducible exact geyserref21_burst.mono _ _ _ _ _ _ _ _ _ _)
      | (with_reducible exact LeO.refl _)
      | (with_reducible exact LeO.none _)
      | (with_reducible refine LeO.ite ?_ ?_)
      | (with_reducible refine LeO.bind ?_ (fun _ => ?_))
      | exact ih0 _ _ _ _ _ _ _ _ _ _
      | exact ih1 _ _ _ _ _ _ _ _ _ _
      | exact geyserref21_burst.mono _ _ _ _ _ _ _ _ _ _
      | exact LeO.none _
      | refine LeO.ite ?_ ?_
      | refine LeO.bind ?_ (fun _ => ?_)
    · intro y0 y1 y2 y3 y4 y5 y6 y7 y8 y9
      unfold geyserref21_Mark.j1
      repeat' first
      | (with_reducible exact ih0 _ _ _ _ _ _ _ _ _ _)
      | (with_reducible exact ih1 _ _ _ _ _ _ _ _ _ _)
      | (with_reducible exact geyserref21_burst.mono _ _ _ _ _ _ _ _ _ _)
      | (with_reducible exact LeO.refl _)
      | (with_reducible exact LeO.none _)
      | (with_reducible refine LeO.ite ?_ ?_)
      | (with_reducible refine LeO.bind ?_ (fun _ => ?_))
      | exact ih0 _ _ _ _ _ _ _ _ _ _
      | exact ih1 _ _ _ _ _ _ _ _ _ _
      | exact geyserref21_burst.mono _ _ _ _ _ _ _ _ _ _
      | exact LeO.none _
      | refine LeO.ite ?_ ?_
      | refine LeO.bind ?_ (fun _ => ?_)
theorem geyserref21_Mark.mono : ∀ a0 a1 a2 a3 a4 a5 a6 a7 a8 k, LeO (geyserref21_Mark.f k a0 a1 a2 a3 a4 a5 a6 a7 a8) (geyserref21_Mark.f (k + 1) a0 a1 a2 a3 a4 a5 a6 a7 a8) := by
  intro a0 a1 a2 a3 a4 a5 a6 a7 a8 k
  obtain ⟨ih0, ih1⟩ := geyserref21_Mark.mono_l k
  unfold geyserref21_Mark.f
  repeat' first
      | (with_reducible exact ih0 _ _ _ _ _ _ _ _ _ _)
      | (with_reducible exact ih1 _ _ _ _ _ _ _ _ _ _)
      | (with_reducible exact geyserref21_burst.mono _ _ _ _ _ _ _ _ _ _)
      | (with_reducible exact LeO.refl _)
      | (with_reducible exact LeO.none _)
      | (with_reducible refine LeO.ite ?_ ?_)
      | (with_reducible refine LeO.bind ?_ (fun _ => ?_))
      | exact ih0 _ _ _ _ _ _ _ _ _ _
      | exact ih1 _ _ _ _ _ _ _ _ _ _
      | exact geyserref21_burst.mono _ _ _ _ _ _ _ _ _ _
      | exact LeO.none _
      | refine LeO.ite ?_ ?_
      | refine LeO.bind ?_ (fun _ => ?_)
set_option maxHeartbeats 8000000 in
set_option maxRecDepth 100000 in
theorem geyserref21_Mark.calls (k : Nat) (a0_0 : Int) (a0_1 : Int) (a0_2 : Int) (a0_3 : Int) (a0_4 : Bool) (a1_0 : Bool) (a1_1 : Bool) (a1_2 : Bool) (a1_3 : Int) (r1 : Int) (r2 : Int) (r3 : Int) (r4 : Int) (r5 : Bool) (r6 : Int) (r7 : Int) (w : World) (h : geyserref21_Mark.f k a0_0 a0_1 a0_2 a0_3 a0_4 a1_0 a1_1 a1_2 a1_3 = some (r1, r2, r3, r4, r5, r6, r7)) :
    Calls Tryd.prog 9 #[.agg #[.int .i64 a0_0, .int .i64 a0_1, .int .i64 a0_2, .int .i64 a0_3, .bool a0_4], .agg #[.bool a1_0, .bool a1_1, .bool a1_2, .int .i64 a1_3]] w fun e w' => e = .returned (.tuple #[.agg #[.int .i64 r1, .int .i64 r2, .int .i64 r3, .int .i64 r4, .bool r5], .int .i64 r6, .int .i64 r7]) ∧ Below w.heap.size w w' := by
  have hu32 := Tryd.underlying32
  have hu36 := Tryd.underlying36
  have HB := Aside0.mk (Below.refl w.heap.size w)
  have H : (if a1_3 < (-1) then (geyserref21_Mark.j0 k true a0_0 a0_1 a0_2 a0_3 a0_4 a1_0 a1_1 a1_2 a1_3) else (geyserref21_Mark.j0 k (decide (a1_3 > 7)) a0_0 a0_1 a0_2 a0_3 a0_4 a1_0 a1_1 a1_2 a1_3)) = some (r1, r2, r3, r4, r5, r6, r7) := h
  clear h
  have HC3 := Aside0.mk H
  clear H
  go_enter Tryd.func9, Tryd.ntmps9
  go_upto_region 1 with (first | ((with_reducible refine gate_dst (N := 2) rfl ?_); refine box_event ?hg (N := 2) ?hd (cs := #[.int .i64 a0_0, .int .i64 a0_1, .int .i64 a0_2, .int .i64 a0_3, .bool a0_4]) (t := 32) ?hr ?_; (case hd => rfl); (case hg => rfl); (case hr => first | (go_simp; done) | (go_simp; rfl)); intro gb143 hg w4 hbox hb; have n0_ := Aside0.mk (below_step (by repeat (first | (with_reducible first | exact HB.out | apply below_alloc | apply pw_below_drewN | apply below_drew1) | exact HB.out)) hb); have n1_ := Aside0.mk (hbox); have n2_ := Aside0.mk ((by rw [hg]; exact (below_size (by repeat (first | (with_reducible first | exact HB.out | apply below_alloc | apply pw_below_drewN | apply below_drew1) | exact HB.out))) : w.heap.size ≤ gb143)); have n3_ := Aside0.mk ((by rw [hg]; exact (below_size (by repeat (first | (with_reducible first | exact HB.out | apply below_alloc | apply pw_below_drewN | apply below_drew1) | exact HB.out))) : w.heap.size ≤ gb143)); clear HB; have HB := n0_; have BK143 := n1_; have GW143 := n2_; have GE143 := n3_; clear n0_ n1_ n2_ n3_; clear hb hbox hg) | ((with_reducible refine gate_dst (N := 3) rfl ?_); refine box_event ?hg (N := 3) ?hd (cs := #[.bool a1_0, .bool a1_1, .bool a1_2, .int .i64 a1_3]) (t := 36) ?hr ?_; (case hd => rfl); (case hg => rfl); (case hr => first | (go_simp; done) | (go_simp; rfl)); intro gb144 hg w5 hbox hb; have n0_ := Aside0.mk (blk_below (g := gb143) (o := .cells #[.int .i64 a0_0, .int .i64 a0_1, .int .i64 a0_2, .int .i64 a0_3, .bool a0_4] 32 (0, 0)) (by (with_reducible repeat (first | refine blk_drewN ?_ _ | refine blk_drew ?_ | refine blk_alloc ?_ _)); exact BK143.out) hb); have n1_ := Aside0.mk (below_step (by repeat (first | (with_reducible first | exact HB.out | apply below_alloc | apply pw_below_drewN | apply below_drew1 | refine below_set ?_ GE143.out) | exact HB.out)) hb); have n2_ := Aside0.mk (hbox); have n3_ := Aside0.mk ((by rw [hg]; exact (below_size (by repeat (first | (with_reducible first | exact HB.out | apply below_alloc | apply pw_below_drewN | apply below_drew1 | refine below_set ?_ GE143.out) | exact HB.out))) : w.heap.size ≤ gb144)); have n4_ := Aside0.mk ((by rw [hg]; exact (below_size (by repeat (first | (with_reducible first | exact HB.out | apply below_alloc | apply pw_below_drewN | apply below_drew1 | refine below_set ?_ GE143.out) | exact HB.out))) : w.heap.size ≤ gb144)); have n5_ := Aside0.mk ((by rw [hg]; exact Nat.ne_of_lt (blk_lt (g := gb143) (o := .cells #[.int .i64 a0_0, .int .i64 a0_1, .int .i64 a0_2, .int .i64 a0_3, .bool a0_4] 32 (0, 0)) (by (with_reducible repeat (first | refine blk_drewN ?_ _ | refine blk_drew ?_ | refine blk_alloc ?_ _)); exact BK143.out)) : gb143 ≠ gb144)); have n6_ := Aside0.mk ((by rw [hg]; exact Nat.ne_of_gt (blk_lt (g := gb143) (o := .cells #[.int .i64 a0_0, .int .i64 a0_1, .int .i64 a0_2, .int .i64 a0_3, .bool a0_4] 32 (0, 0)) (by (with_reducible repeat (first | refine blk_drewN ?_ _ | refine blk_drew ?_ | refine blk_alloc ?_ _)); exact BK143.out)) : gb144 ≠ gb143)); clear BK143; clear HB; have BK143 := n0_; have HB := n1_; have BK144 := n2_; have GW144 := n3_; have GE144 := n4_; have NB143_144 := n5_; have NB144_143 := n6_; clear n0_ n1_ n2_ n3_ n4_ n5_ n6_; clear hb hbox hg) | ((with_reducible refine gate_dst (N := 4) rfl ?_); refine box_event ?hg (N := 4) ?hd (cs := #[.int .i64 0, .int .i64 0, .int .i64 0, .int .i64 0, .bool false]) (t := 32) ?hr ?_; (case hd => rfl); (case hg => rfl); (case hr => first | (go_simp; done) | (go_simp; rfl)); intro gb145 hg w6 hbox hb; have n0_ := Aside0.mk (blk_below (g := gb143) (o := .cells #[.int .i64 a0_0, .int .i64 a0_1, .int .i64 a0_2, .int .i64 a0_3, .bool a0_4] 32 (0, 0)) (by (with_reducible repeat (first | refine blk_drewN ?_ _ | refine blk_drew ?_ | refine blk_alloc ?_ _)); exact BK143.out) hb); have n1_ := Aside0.mk (blk_below (g := gb144) (o := .cells #[.bool a1_0, .bool a1_1, .bool a1_2, .int .i64 a1_3] 36 (0, 0)) (by (with_reducible repeat (first | refine blk_drewN ?_ _ | refine blk_drew ?_ | refine blk_alloc ?_ _)); exact BK144.out) hb); have n2_ := Aside0.mk (below_step (by repeat (first | (with_reducible first | exact HB.out | apply below_alloc | apply pw_below_drewN | apply below_drew1 | refine below_set ?_ GE143.out | refine below_set ?_ GE144.out) | exact HB.out)) hb); have n3_ := Aside0.mk (hbox); have n4_ := Aside0.mk ((by rw [hg]; exact (below_size (by repeat (first | (with_reducible first | exact HB.out | apply below_alloc | apply pw_below_drewN | apply below_drew1 | refine below_set ?_ GE143.out | refine below_set ?_ GE144.out) | exact HB.out))) : w.heap.size ≤ gb145)); have n5_ := Aside0.mk ((by rw [hg]; exact (below_size (by repeat (first | (with_reducible first | exact HB.out | apply below_alloc | apply pw_below_drewN | apply below_drew1 | refine below_set ?_ GE143.out | refine below_set ?_ GE144.out) | exact HB.out))) : w.heap.size ≤ gb145)); have n6_ := Aside0.mk ((by rw [hg]; exact Nat.ne_of_lt (blk_lt (g := gb143) (o := .cells #[.int .i64 a0_0, .int .i64 a0_1, .int .i64 a0_2, .int .i64 a0_3, .bool a0_4] 32 (0, 0)) (by (with_reducible repeat (first | refine blk_drewN ?_ _ | refine blk_drew ?_ | refine blk_alloc ?_ _)); exact BK143.out)) : gb143 ≠ gb145)); have n7_ := Aside0.mk ((by rw [hg]; exact Nat.ne_of_gt (blk_lt (g := gb143) (o := .cells #[.int .i64 a0_0, .int .i64 a0_1, .int .i64 a0_2, .int .i64 a0_3, .bool a0_4] 32 (0, 0)) (by (with_reducible repeat (first | refine blk_drewN ?_ _ | refine blk_drew ?_ | refine blk_alloc ?_ _)); exact BK143.out)) : gb145 ≠ gb143)); have n8_ := Aside0.mk ((by rw [hg]; exact Nat.ne_of_lt (blk_lt (g := gb144) (o := .cells #[.bool a1_0, .bool a1_1, .bool a1_2, .int .i64 a1_3] 36 (0, 0)) (by (with_reducible repeat (first | refine blk_drewN ?_ _ | refine blk_drew ?_ | refine blk_alloc ?_ _)); exact BK144.out)) : gb144 ≠ gb145)); have n9_ := Aside0.mk ((by rw [hg]; exact Nat.ne_of_gt (blk_lt (g := gb144) (o := .cells #[.bool a1_0, .bool a1_1, .bool a1_2, .int .i64 a1_3] 36 (0, 0)) (by (with_reducible repeat (first | refine blk_drewN ?_ _ | refine blk_drew ?_ | refine blk_alloc ?_ _)); exact BK144.out)) : gb145 ≠ gb144)); clear BK143; clear BK144; clear HB; have BK143 := n0_; have BK144 := n1_; have HB := n2_; have BK145 := n3_; have GW145 := n4_; have GE145 := n5_; have NB143_145 := n6_; have NB145_143 := n7_; have NB144_145 := n8_; have NB145_144 := n9_; clear n0_ n1_ n2_ n3_ n4_ n5_ n6_ n7_ n8_ n9_; clear hb hbox hg))
  (try simp only [Act.put, List.setIfInBounds_toArray, List.set_cons_zero, List.set_cons_succ])
  go_cut [15] (fun v15 wc => ∃ (kq : Nat) (x15_2 : Bool), v15 = .bool x15_2 ∧ Aside0 (geyserref21_Mark.j0 kq x15_2 a0_0 a0_1 a0_2 a0_3 a0_4 a1_0 a1_1 a1_2 a1_3 = some (r1, r2, r3, r4, r5, r6, r7)) ∧ Aside0 (kq ≤ k) ∧ Aside0 (wc.heap[gb143]? = some (.cells #[.int .i64 a0_0, .int .i64 a0_1, .int .i64 a0_2, .int .i64 a0_3, .bool a0_4] 32 (0, 0))) ∧ Aside0 (wc.heap[gb144]? = some (.cells #[.bool a1_0, .bool a1_1, .bool a1_2, .int .i64 a1_3] 36 (0, 0))) ∧ Aside0 (wc.heap[gb145]? = some (.cells #[.int .i64 0, .int .i64 0, .int .i64 0, .int .i64 0, .bool false] 32 (0, 0))) ∧ Aside0 (Below w.heap.size w wc))
  case first =>
    have H := HC3.out
    clear HC3
    by_cases c7 : a1_3 < (-1)
    · rw [if_pos c7] at H
      have c7b0 : decide (a1_3 < (-1)) = true := decide_eq_true c7
      clear c7
      (first | rw [c7b0] | (simp only [i64_w, i32_w]; rw [c7b0]) | skip)
      have H' := Aside0.mk H
      clear H
      have hnb8 := NB144_143.out
      have hnc8 := NB143_144.out
      have hnb9 := NB144_145.out
      have hnc9 := NB145_144.out
      have hcz10_0 : w6.cell? ⟨gb144, 0, none⟩ = some (.bool a1_0) := (blk_cell BK144.out 0).trans rfl
      have hcz10_1 : w6.cell? ⟨gb144, 1, none⟩ = some (.bool a1_1) := (blk_cell BK144.out 1).trans rfl
      have hcz10_2 : w6.cell? ⟨gb144, 2, none⟩ = some (.bool a1_2) := (blk_cell BK144.out 2).trans rfl
      have hcz10_3 : w6.cell? ⟨gb144, 3, none⟩ = some (.int .i64 a1_3) := (blk_cell BK144.out 3).trans rfl
      have hfz10_0 := blk_frozen BK144.out 0
      have hfz10_1 := blk_frozen BK144.out 1
      have hfz10_2 := blk_frozen BK144.out 2
      have hfz10_3 := blk_frozen BK144.out 3
      go_wp2
      go_meet
      case rel => exact ⟨_, (true), (by first | rfl | (simp; done) | (simp [*]; done)), H', ⟨by first | omega | exact Nat.le_refl _⟩, ⟨by (with_reducible repeat (first | refine blk_drewN ?_ _ | refine blk_drew ?_ | refine blk_alloc ?_ _)); exact BK143.out⟩, ⟨by (with_reducible repeat (first | refine blk_drewN ?_ _ | refine blk_drew ?_ | refine blk_alloc ?_ _)); exact BK144.out⟩, ⟨by (with_reducible repeat (first | refine blk_drewN ?_ _ | refine blk_drew ?_ | refine blk_alloc ?_ _)); exact BK145.out⟩, ⟨by repeat (first | (with_reducible first | exact HB.out | apply below_alloc | apply pw_below_drewN | apply below_drew1 | refine below_set ?_ GE143.out | refine below_set ?_ GE144.out | refine below_set ?_ GE145.out) | exact HB.out)⟩⟩
    · rw [if_neg c7] at H
      have c7b0 : decide (a1_3 < (-1)) = false := decide_eq_false c7
      clear c7
      (first | rw [c7b0] | (simp only [i64_w, i32_w]; rw [c7b0]) | skip)
      have H' := Aside0.mk H
      clear H
      have hnb11 := NB144_143.out
      have hnc11 := NB143_144.out
      have hnb12 := NB144_145.out
      have hnc12 := NB145_144.out
      have hcz13_0 : w6.cell? ⟨gb144, 0, none⟩ = some (.bool a1_0) := (blk_cell BK144.out 0).trans rfl
      have hcz13_1 : w6.cell? ⟨gb144, 1, none⟩ = some (.bool a1_1) := (blk_cell BK144.out 1).trans rfl
      have hcz13_2 : w6.cell? ⟨gb144, 2, none⟩ = some (.bool a1_2) := (blk_cell BK144.out 2).trans rfl
      have hcz13_3 : w6.cell? ⟨gb144, 3, none⟩ = some (.int .i64 a1_3) := (blk_cell BK144.out 3).trans rfl
      have hfz13_0 := blk_frozen BK144.out 0
      have hfz13_1 := blk_frozen BK144.out 1
      have hfz13_2 := blk_frozen BK144.out 2
      have hfz13_3 := blk_frozen BK144.out 3
      go_wp2
      go_meet
      case rel => exact ⟨_, (decide (a1_3 > 7)), (by first | rfl | (simp; done) | (simp [*]; done)), H', ⟨by first | omega | exact Nat.le_refl _⟩, ⟨by (with_reducible repeat (first | refine blk_drewN ?_ _ | refine blk_drew ?_ | refine blk_alloc ?_ _)); exact BK143.out⟩, ⟨by (with_reducible repeat (first | refine blk_drewN ?_ _ | refine blk_drew ?_ | refine blk_alloc ?_ _)); exact BK144.out⟩, ⟨by (with_reducible repeat (first | refine blk_drewN ?_ _ | refine blk_drew ?_ | refine blk_alloc ?_ _)); exact BK145.out⟩, ⟨by repeat (first | (with_reducible first | exact HB.out | apply below_alloc | apply pw_below_drewN | apply below_drew1 | refine below_set ?_ GE143.out | refine below_set ?_ GE144.out | refine below_set ?_ GE145.out) | exact HB.out)⟩⟩
  case rest =>
    clear HC3
    try clear c1
    try clear p2
    try clear c7
    try clear c7b0
    try clear c8
    try clear c9
    try clear c11
    try clear c12
    try clear hcz10_0
    try clear hcz10_1
    try clear hcz10_2
    try clear hcz10_3
    try clear hcz13_0
    try clear hcz13_1
    try clear hcz13_2
    try clear hcz13_3
    try clear hfz10_0
    try clear hfz10_1
    try clear hfz10_2
    try clear hfz10_3
    try clear hfz13_0
    try clear hfz13_1
    try clear hfz13_2
    try clear hfz13_3
    obtain ⟨kq, x15_2, rfl, HA, HJ2, BK143, BK144, BK145, HB⟩ := hcut
    cases kq with
    | zero => exact absurd HA.out (by simp [geyserref21_Mark.j0])
    | succ kj2 =>
      have H := HA.out
      clear HA
      simp only [geyserref21_Mark.j0] at H
      by_cases c14 : x15_2 = true
      · subst c14
        have H1 : (some (a0_0, a0_1, a0_2, a0_3, a0_4, 0, 1)) = some (r1, r2, r3, r4, r5, r6, r7) := by rw [if_pos rfl] at H; exact H
        clear H
        have H := H1
        clear H1
        simp only [Option.some.injEq, Prod.mk.injEq] at H
        obtain ⟨rfl, rfl, rfl, rfl, rfl, rfl, rfl⟩ := H
        have hnb15 := NB143_144.out
        have hnc15 := NB144_143.out
        have hnb16 := NB143_145.out
        have hnc16 := NB145_143.out
        have hcz17_0 : wc.cell? ⟨gb143, 0, none⟩ = some (.int .i64 a0_0) := (blk_cell BK143.out 0).trans rfl
        have hcz17_1 : wc.cell? ⟨gb143, 1, none⟩ = some (.int .i64 a0_1) := (blk_cell BK143.out 1).trans rfl
        have hcz17_2 : wc.cell? ⟨gb143, 2, none⟩ = some (.int .i64 a0_2) := (blk_cell BK143.out 2).trans rfl
        have hcz17_3 : wc.cell? ⟨gb143, 3, none⟩ = some (.int .i64 a0_3) := (blk_cell BK143.out 3).trans rfl
        have hcz17_4 : wc.cell? ⟨gb143, 4, none⟩ = some (.bool a0_4) := (blk_cell BK143.out 4).trans rfl
        have hfz17_0 := blk_frozen BK143.out 0
        have hfz17_1 := blk_frozen BK143.out 1
        have hfz17_2 := blk_frozen BK143.out 2
        have hfz17_3 := blk_frozen BK143.out 3
        have hfz17_4 := blk_frozen BK143.out 4
        have hnb18 := NB145_144.out
        have hnc18 := NB144_145.out
        have hcz19_0 : wc.cell? ⟨gb145, 0, none⟩ = some (.int .i64 0) := (blk_cell BK145.out 0).trans rfl
        have hcz19_1 : wc.cell? ⟨gb145, 1, none⟩ = some (.int .i64 0) := (blk_cell BK145.out 1).trans rfl
        have hcz19_2 : wc.cell? ⟨gb145, 2, none⟩ = some (.int .i64 0) := (blk_cell BK145.out 2).trans rfl
        have hcz19_3 : wc.cell? ⟨gb145, 3, none⟩ = some (.int .i64 0) := (blk_cell BK145.out 3).trans rfl
        have hcz19_4 : wc.cell? ⟨gb145, 4, none⟩ = some (.bool false) := (blk_cell BK145.out 4).trans rfl
        have hfz19_0 := blk_frozen BK145.out 0
        have hfz19_1 := blk_frozen BK145.out 1
        have hfz19_2 := blk_frozen BK145.out 2
        have hfz19_3 := blk_frozen BK145.out 3
        have hfz19_4 := blk_frozen BK145.out 4
        go_wp2
        refine bodyPost_ret (results_ctt rfl _ _ gb145 32 #[.int .i64 a0_0, .int .i64 a0_1, .int .i64 a0_2, .int .i64 a0_3, .bool a0_4] (0, 0) _ rfl (by (with_reducible repeat (first | refine blk_drewN ?_ _ | refine blk_drew ?_ | refine blk_alloc ?_ _)); refine blk_put (cs := #[.int .i64 a0_0, .int .i64 a0_1, .int .i64 a0_2, .int .i64 a0_3, .bool false]) ?_ 4 _ rfl; (with_reducible repeat (first | refine blk_drewN ?_ _ | refine blk_drew ?_ | refine blk_alloc ?_ _)); refine blk_put (cs := #[.int .i64 a0_0, .int .i64 a0_1, .int .i64 a0_2, .int .i64 0, .bool false]) ?_ 3 _ rfl; (with_reducible repeat (first | refine blk_drewN ?_ _ | refine blk_drew ?_ | refine blk_alloc ?_ _)); refine blk_put (cs := #[.int .i64 a0_0, .int .i64 a0_1, .int .i64 0, .int .i64 0, .bool false]) ?_ 2 _ rfl; (with_reducible repeat (first | refine blk_drewN ?_ _ | refine blk_drew ?_ | refine blk_alloc ?_ _)); refine blk_put (cs := #[.int .i64 a0_0, .int .i64 0, .int .i64 0, .int .i64 0, .bool false]) ?_ 1 _ rfl; (with_reducible repeat (first | refine blk_drewN ?_ _ | refine blk_drew ?_ | refine blk_alloc ?_ _)); refine blk_put (cs := #[.int .i64 0, .int .i64 0, .int .i64 0, .int .i64 0, .bool false]) ?_ 0 _ rfl; (with_reducible repeat (first | refine blk_drewN ?_ _ | refine blk_drew ?_ | refine blk_alloc ?_ _)); exact BK145.out) Tryd.underlying32 rfl (by kernel_rfl)) rfl ?_
        exact ⟨by first | rfl | (simp [errW_none, errW_some] <;> rfl) | (simp [*, errW_none, errW_some] <;> rfl), by repeat (first | (with_reducible first | exact HB.out | apply below_alloc | apply pw_below_drewN | apply below_drew1 | refine below_set ?_ GE143.out | refine below_set ?_ GE144.out | refine below_set ?_ GE145.out) | exact HB.out)⟩
      · replace c14 := Bool.eq_false_iff.mpr c14
        subst c14
        have H1 : (if a1_1 = true then ((geyserref21_burst.f kj2 a0_0 a0_1 a0_2 a0_3 a0_4 a1_0 a1_1 a1_2 a1_3).bind fun bt146 => (geyserref21_Mark.j1 kj2 0 bt146.1 bt146.2.1 bt146.2.2.1 bt146.2.2.2.1 bt146.2.2.2.2 a1_0 a1_1 a1_2 a1_3)) else (if a1_2 = true then (geyserref21_Mark.j1 kj2 (mx (-1) (wrap64 (-a0_0))) a0_0 a0_1 a0_2 0 a0_4 a1_0 a1_1 a1_2 a1_3) else (geyserref21_Mark.j1 kj2 0 a0_0 a0_1 a0_2 a0_3 a0_4 a1_0 a1_1 a1_2 a1_3))) = some (r1, r2, r3, r4, r5, r6, r7) := by rw [if_neg (show ¬ (false = true) by decide)] at H; exact H
        clear H
        have H := H1
        clear H1
        have HC20 := Aside0.mk H
        clear H
        have hnb21 := NB144_143.out
        have hnc21 := NB143_144.out
        have hnb22 := NB144_145.out
        have hnc22 := NB145_144.out
        have hcz23_0 : wc.cell? ⟨gb144, 0, none⟩ = some (.bool a1_0) := (blk_cell BK144.out 0).trans rfl
        have hcz23_1 : wc.cell? ⟨gb144, 1, none⟩ = some (.bool a1_1) := (blk_cell BK144.out 1).trans rfl
        have hcz23_2 : wc.cell? ⟨gb144, 2, none⟩ = some (.bool a1_2) := (blk_cell BK144.out 2).trans rfl
        have hcz23_3 : wc.cell? ⟨gb144, 3, none⟩ = some (.int .i64 a1_3) := (blk_cell BK144.out 3).trans rfl
        have hfz23_0 := blk_frozen BK144.out 0
        have hfz23_1 := blk_frozen BK144.out 1
        have hfz23_2 := blk_frozen BK144.out 2
        have hfz23_3 := blk_frozen BK144.out 3
        go_upto_if 18 with (fail)
        go_cut [7] (fun v7 wc => ∃ (kq : Nat) (x7_19 : Int) (x144000_19 : Int) (x144001_19 : Int) (x144002_19 : Int) (x144003_19 : Int) (x144004_19 : Bool), v7 = .int .i64 x7_19 ∧ Aside0 (geyserref21_Mark.j1 kq x7_19 x144000_19 x144001_19 x144002_19 x144003_19 x144004_19 a1_0 a1_1 a1_2 a1_3 = some (r1, r2, r3, r4, r5, r6, r7)) ∧ Aside0 (kq ≤ kj2) ∧ Aside0 (wc.heap[gb143]? = some (.cells #[.int .i64 x144000_19, .int .i64 x144001_19, .int .i64 x144002_19, .int .i64 x144003_19, .bool x144004_19] 32 (0, 0))) ∧ Aside0 (wc.heap[gb144]? = some (.cells #[.bool a1_0, .bool a1_1, .bool a1_2, .int .i64 a1_3] 36 (0, 0))) ∧ Aside0 (wc.heap[gb145]? = some (.cells #[.int .i64 0, .int .i64 0, .int .i64 0, .int .i64 0, .bool false] 32 (0, 0))) ∧ Aside0 (Below w.heap.size w wc))
        case first =>
          have H := HC20.out
          clear HC20
          by_cases c24 : a1_1 = true
          · subst c24
            have H1 : ((geyserref21_burst.f kj2 a0_0 a0_1 a0_2 a0_3 a0_4 a1_0 true a1_2 a1_3).bind fun bt146 => (geyserref21_Mark.j1 kj2 0 bt146.1 bt146.2.1 bt146.2.2.1 bt146.2.2.2.1 bt146.2.2.2.2 a1_0 true a1_2 a1_3)) = some (r1, r2, r3, r4, r5, r6, r7) := by rw [if_pos rfl] at H; exact H
            clear H
            have H := H1
            clear H1
            replace H := Option.bind_eq_some_iff.mp H
            obtain ⟨⟨t146, t147, t148, t149, t150⟩, A250, H⟩ := H
            replace H : (geyserref21_Mark.j1 kj2 0 t146 t147 t148 t149 t150 a1_0 true a1_2 a1_3) = some (r1, r2, r3, r4, r5, r6, r7) := H
            have A25 := Aside0.mk A250
            clear A250
            have H' := Aside0.mk H
            clear H
            have hnb26 := NB143_144.out
            have hnc26 := NB144_143.out
            have hnb27 := NB143_145.out
            have hnc27 := NB145_143.out
            have hcz28_0 : wc.cell? ⟨gb143, 0, none⟩ = some (.int .i64 a0_0) := (blk_cell BK143.out 0).trans rfl
            have hcz28_1 : wc.cell? ⟨gb143, 1, none⟩ = some (.int .i64 a0_1) := (blk_cell BK143.out 1).trans rfl
            have hcz28_2 : wc.cell? ⟨gb143, 2, none⟩ = some (.int .i64 a0_2) := (blk_cell BK143.out 2).trans rfl
            have hcz28_3 : wc.cell? ⟨gb143, 3, none⟩ = some (.int .i64 a0_3) := (blk_cell BK143.out 3).trans rfl
            have hcz28_4 : wc.cell? ⟨gb143, 4, none⟩ = some (.bool a0_4) := (blk_cell BK143.out 4).trans rfl
            have hfz28_0 := blk_frozen BK143.out 0
            have hfz28_1 := blk_frozen BK143.out 1
            have hfz28_2 := blk_frozen BK143.out 2
            have hfz28_3 := blk_frozen BK143.out 3
            have hfz28_4 := blk_frozen BK143.out 4
            have hnb29 := NB144_145.out
            have hnc29 := NB145_144.out
            have hcz30_0 : wc.cell? ⟨gb144, 0, none⟩ = some (.bool a1_0) := (blk_cell BK144.out 0).trans rfl
            have hcz30_1 : wc.cell? ⟨gb144, 1, none⟩ = some (.bool true) := (blk_cell BK144.out 1).trans rfl
            have hcz30_2 : wc.cell? ⟨gb144, 2, none⟩ = some (.bool a1_2) := (blk_cell BK144.out 2).trans rfl
            have hcz30_3 : wc.cell? ⟨gb144, 3, none⟩ = some (.int .i64 a1_3) := (blk_cell BK144.out 3).trans rfl
            have hfz30_0 := blk_frozen BK144.out 0
            have hfz30_1 := blk_frozen BK144.out 1
            have hfz30_2 := blk_frozen BK144.out 2
            have hfz30_3 := blk_frozen BK144.out 3
            go_wp2_with (first | ((with_reducible refine gate_callee (f := 15) rfl ?_); refine goesL_ (some 21) rfl rfl Tryd.func15 (by kernel_rfl) rfl #[.agg #[.int .i64 a0_0, .int .i64 a0_1, .int .i64 a0_2, .int .i64 a0_3, .bool a0_4], .agg #[.bool a1_0, .bool true, .bool a1_2, .int .i64 a1_3]] rfl (by (try simp only [List.map_toArray, List.map_cons, List.map_nil]); first | done | rfl | (simp only [List.length_drop, List.length_take]; rfl)) ?_; (with_reducible refine (geyserref21_burst.calls kj2 a0_0 a0_1 a0_2 a0_3 a0_4 a1_0 true a1_2 a1_3 t146 t147 t148 t149 t150 _ A25.out).mono ?_); rintro e w31 ⟨rfl, hb⟩; refine ⟨_, rfl, ?_⟩; have n0_ := Aside0.mk (blk_below (g := gb143) (o := .cells #[.int .i64 a0_0, .int .i64 a0_1, .int .i64 a0_2, .int .i64 a0_3, .bool a0_4] 32 (0, 0)) (by (with_reducible repeat (first | refine blk_drewN ?_ _ | refine blk_drew ?_ | refine blk_alloc ?_ _)); exact BK143.out) hb); have n1_ := Aside0.mk (blk_below (g := gb144) (o := .cells #[.bool a1_0, .bool true, .bool a1_2, .int .i64 a1_3] 36 (0, 0)) (by (with_reducible repeat (first | refine blk_drewN ?_ _ | refine blk_drew ?_ | refine blk_alloc ?_ _)); exact BK144.out) hb); have n2_ := Aside0.mk (blk_below (g := gb145) (o := .cells #[.int .i64 0, .int .i64 0, .int .i64 0, .int .i64 0, .bool false] 32 (0, 0)) (by (with_reducible repeat (first | refine blk_drewN ?_ _ | refine blk_drew ?_ | refine blk_alloc ?_ _)); exact BK145.out) hb); have n3_ := Aside0.mk (below_step (by repeat (first | (with_reducible first | exact HB.out | apply below_alloc | apply pw_below_drewN | apply below_drew1 | refine below_set ?_ GE143.out | refine below_set ?_ GE144.out | refine below_set ?_ GE145.out) | exact HB.out)) hb); clear BK143; clear BK144; clear BK145; clear HB; have BK143 := n0_; have BK144 := n1_; have BK145 := n2_; have HB := n3_; clear n0_ n1_ n2_ n3_; (try clear hb); (try clear hb2); (try clear hk); (try clear hi); have hcz32_0 : w31.cell? ⟨gb143, 0, none⟩ = some (.int .i64 a0_0) := (blk_cell BK143.out 0).trans rfl; have hcz32_1 : w31.cell? ⟨gb143, 1, none⟩ = some (.int .i64 a0_1) := (blk_cell BK143.out 1).trans rfl; have hcz32_2 : w31.cell? ⟨gb143, 2, none⟩ = some (.int .i64 a0_2) := (blk_cell BK143.out 2).trans rfl; have hcz32_3 : w31.cell? ⟨gb143, 3, none⟩ = some (.int .i64 a0_3) := (blk_cell BK143.out 3).trans rfl; have hcz32_4 : w31.cell? ⟨gb143, 4, none⟩ = some (.bool a0_4) := (blk_cell BK143.out 4).trans rfl; have hfz32_0 := blk_frozen BK143.out 0; have hfz32_1 := blk_frozen BK143.out 1; have hfz32_2 := blk_frozen BK143.out 2; have hfz32_3 := blk_frozen BK143.out 3; have hfz32_4 := blk_frozen BK143.out 4))
            go_meet
            case rel => exact ⟨_, (0), (t146), (t147), (t148), (t149), (t150), (by first | rfl | (simp; done) | (simp [*]; done)), H', ⟨by have := HJ2.out; first | omega | exact Nat.le_refl _⟩, ⟨by (with_reducible repeat (first | refine blk_drewN ?_ _ | refine blk_drew ?_ | refine blk_alloc ?_ _)); refine blk_put (cs := #[.int .i64 t146, .int .i64 t147, .int .i64 t148, .int .i64 t149, .bool a0_4]) ?_ 4 _ rfl; (with_reducible repeat (first | refine blk_drewN ?_ _ | refine blk_drew ?_ | refine blk_alloc ?_ _)); refine blk_put (cs := #[.int .i64 t146, .int .i64 t147, .int .i64 t148, .int .i64 a0_3, .bool a0_4]) ?_ 3 _ rfl; (with_reducible repeat (first | refine blk_drewN ?_ _ | refine blk_drew ?_ | refine blk_alloc ?_ _)); refine blk_put (cs := #[.int .i64 t146, .int .i64 t147, .int .i64 a0_2, .int .i64 a0_3, .bool a0_4]) ?_ 2 _ rfl; (with_reducible repeat (first | refine blk_drewN ?_ _ | refine blk_drew ?_ | refine blk_alloc ?_ _)); refine blk_put (cs := #[.int .i64 t146, .int .i64 a0_1, .int .i64 a0_2, .int .i64 a0_3, .bool a0_4]) ?_ 1 _ rfl; (with_reducible repeat (first | refine blk_drewN ?_ _ | refine blk_drew ?_ | refine blk_alloc ?_ _)); refine blk_put (cs := #[.int .i64 a0_0, .int .i64 a0_1, .int .i64 a0_2, .int .i64 a0_3, .bool a0_4]) ?_ 0 _ rfl; (with_reducible repeat (first | refine blk_drewN ?_ _ | refine blk_drew ?_ | refine blk_alloc ?_ _)); exact BK143.out⟩, ⟨by (with_reducible repeat (first | refine blk_drewN ?_ _ | refine blk_drew ?_ | refine blk_alloc ?_ _)); refine blk_far ?_ NB144_143.out _; (with_reducible repeat (first | refine blk_drewN ?_ _ | refine blk_drew ?_ | refine blk_alloc ?_ _)); refine blk_far ?_ NB144_143.out _; (with_reducible repeat (first | refine blk_drewN ?_ _ | refine blk_drew ?_ | refine blk_alloc ?_ _)); refine blk_far ?_ NB144_143.out _; (with_reducible repeat (first | refine blk_drewN ?_ _ | refine blk_drew ?_ | refine blk_alloc ?_ _)); refine blk_far ?_ NB144_143.out _; (with_reducible repeat (first | refine blk_drewN ?_ _ | refine blk_drew ?_ | refine blk_alloc ?_ _)); refine blk_far ?_ NB144_143.out _; (with_reducible repeat (first | refine blk_drewN ?_ _ | refine blk_drew ?_ | refine blk_alloc ?_ _)); exact BK144.out⟩, ⟨by (with_reducible repeat (first | refine blk_drewN ?_ _ | refine blk_drew ?_ | refine blk_alloc ?_ _)); refine blk_far ?_ NB145_143.out _; (with_reducible repeat (first | refine blk_drewN ?_ _ | refine blk_drew ?_ | refine blk_alloc ?_ _)); refine blk_far ?_ NB145_143.out _; (with_reducible repeat (first | refine blk_drewN ?_ _ | refine blk_drew ?_ | refine blk_alloc ?_ _)); refine blk_far ?_ NB145_143.out _; (with_reducible repeat (first | refine blk_drewN ?_ _ | refine blk_drew ?_ | refine blk_alloc ?_ _)); refine blk_far ?_ NB145_143.out _; (with_reducible repeat (first | refine blk_drewN ?_ _ | refine blk_drew ?_ | refine blk_alloc ?_ _)); refine blk_far ?_ NB145_143.out _; (with_reducible repeat (first | refine blk_drewN ?_ _ | refine blk_drew ?_ | refine blk_alloc ?_ _)); exact BK145.out⟩, ⟨by repeat (first | (with_reducible first | exact HB.out | apply below_alloc | apply pw_below_drewN | apply below_drew1 | refine below_set ?_ GE143.out | refine below_set ?_ GE144.out | refine below_set ?_ GE145.out) | exact HB.out)⟩⟩
          · replace c24 := Bool.eq_false_iff.mpr c24
            subst c24
            have H1 : (if a1_2 = true then (geyserref21_Mark.j1 kj2 (mx (-1) (wrap64 (-a0_0))) a0_0 a0_1 a0_2 0 a0_4 a1_0 false a1_2 a1_3) else (geyserref21_Mark.j1 kj2 0 a0_0 a0_1 a0_2 a0_3 a0_4 a1_0 false a1_2 a1_3)) = some (r1, r2, r3, r4, r5, r6, r7) := by rw [if_neg (show ¬ (false = true) by decide)] at H; exact H
            clear H
            have H := H1
            clear H1
            by_cases c33 : a1_2 = true
            · subst c33
              have H1 : (geyserref21_Mark.j1 kj2 (mx (-1) (wrap64 (-a0_0))) a0_0 a0_1 a0_2 0 a0_4 a1_0 false true a1_3) = some (r1, r2, r3, r4, r5, r6, r7) := by rw [if_pos rfl] at H; exact H
              clear H
              have H := H1
              clear H1
              obtain ⟨ji34, hji34⟩ : ∃ j_ : Int, (mx (-1) (wrap64 (-a0_0))) = j_ := ⟨_, rfl⟩
              replace H : (geyserref21_Mark.j1 kj2 ji34 a0_0 a0_1 a0_2 0 a0_4 a1_0 false true a1_3) = some (r1, r2, r3, r4, r5, r6, r7) := by first | (rw [hji34] at H; exact H) | (simp only [hji34] at H ⊢; exact H)
              have hji34_ : (if (-1) < (wrap64 (-a0_0)) then (wrap64 (-a0_0)) else (-1)) = ji34 := hji34
              have H' := Aside0.mk H
              clear H
              have hnb35 := NB144_143.out
              have hnc35 := NB143_144.out
              have hnb36 := NB144_145.out
              have hnc36 := NB145_144.out
              have hcz37_0 : wc.cell? ⟨gb144, 0, none⟩ = some (.bool a1_0) := (blk_cell BK144.out 0).trans rfl
              have hcz37_1 : wc.cell? ⟨gb144, 1, none⟩ = some (.bool false) := (blk_cell BK144.out 1).trans rfl
              have hcz37_2 : wc.cell? ⟨gb144, 2, none⟩ = some (.bool true) := (blk_cell BK144.out 2).trans rfl
              have hcz37_3 : wc.cell? ⟨gb144, 3, none⟩ = some (.int .i64 a1_3) := (blk_cell BK144.out 3).trans rfl
              have hfz37_0 := blk_frozen BK144.out 0
              have hfz37_1 := blk_frozen BK144.out 1
              have hfz37_2 := blk_frozen BK144.out 2
              have hfz37_3 := blk_frozen BK144.out 3
              have hnb38 := NB143_145.out
              have hnc38 := NB145_143.out
              have hcz39_0 : wc.cell? ⟨gb143, 0, none⟩ = some (.int .i64 a0_0) := (blk_cell BK143.out 0).trans rfl
              have hcz39_1 : wc.cell? ⟨gb143, 1, none⟩ = some (.int .i64 a0_1) := (blk_cell BK143.out 1).trans rfl
              have hcz39_2 : wc.cell? ⟨gb143, 2, none⟩ = some (.int .i64 a0_2) := (blk_cell BK143.out 2).trans rfl
              have hcz39_3 : wc.cell? ⟨gb143, 3, none⟩ = some (.int .i64 a0_3) := (blk_cell BK143.out 3).trans rfl
              have hcz39_4 : wc.cell? ⟨gb143, 4, none⟩ = some (.bool a0_4) := (blk_cell BK143.out 4).trans rfl
              have hfz39_0 := blk_frozen BK143.out 0
              have hfz39_1 := blk_frozen BK143.out 1
              have hfz39_2 := blk_frozen BK143.out 2
              have hfz39_3 := blk_frozen BK143.out 3
              have hfz39_4 := blk_frozen BK143.out 4
              go_wp2
              go_meet
              case rel => exact ⟨_, (ji34), (a0_0), (a0_1), (a0_2), (0), (a0_4), (by first | rfl | (simp; done) | (simp only [← hji34] <;> (first | rfl | simp)) | (simp [*]; done)), H', ⟨by have := HJ2.out; first | omega | exact Nat.le_refl _⟩, ⟨by (with_reducible repeat (first | refine blk_drewN ?_ _ | refine blk_drew ?_ | refine blk_alloc ?_ _)); refine blk_put (cs := #[.int .i64 a0_0, .int .i64 a0_1, .int .i64 a0_2, .int .i64 a0_3, .bool a0_4]) ?_ 3 _ rfl; (with_reducible repeat (first | refine blk_drewN ?_ _ | refine blk_drew ?_ | refine blk_alloc ?_ _)); exact BK143.out⟩, ⟨by (with_reducible repeat (first | refine blk_drewN ?_ _ | refine blk_drew ?_ | refine blk_alloc ?_ _)); refine blk_far ?_ NB144_143.out _; (with_reducible repeat (first | refine blk_drewN ?_ _ | refine blk_drew ?_ | refine blk_alloc ?_ _)); exact BK144.out⟩, ⟨by (with_reducible repeat (first | refine blk_drewN ?_ _ | refine blk_drew ?_ | refine blk_alloc ?_ _)); refine blk_far ?_ NB145_143.out _; (with_reducible repeat (first | refine blk_drewN ?_ _ | refine blk_drew ?_ | refine blk_alloc ?_ _)); exact BK145.out⟩, ⟨by repeat (first | (with_reducible first | exact HB.out | apply below_alloc | apply pw_below_drewN | apply below_drew1 | refine below_set ?_ GE143.out | refine below_set ?_ GE144.out | refine below_set ?_ GE145.out) | exact HB.out)⟩⟩
            · replace c33 := Bool.eq_false_iff.mpr c33
              subst c33
              have H1 : (geyserref21_Mark.j1 kj2 0 a0_0 a0_1 a0_2 a0_3 a0_4 a1_0 false false a1_3) = some (r1, r2, r3, r4, r5, r6, r7) := by rw [if_neg (show ¬ (false = true) by decide)] at H; exact H
              clear H
              have H := H1
              clear H1
              have H' := Aside0.mk H
              clear H
              have hnb40 := NB144_143.out
              have hnc40 := NB143_144.out
              have hnb41 := NB144_145.out
              have hnc41 := NB145_144.out
              have hcz42_0 : wc.cell? ⟨gb144, 0, none⟩ = some (.bool a1_0) := (blk_cell BK144.out 0).trans rfl
              have hcz42_1 : wc.cell? ⟨gb144, 1, none⟩ = some (.bool false) := (blk_cell BK144.out 1).trans rfl
              have hcz42_2 : wc.cell? ⟨gb144, 2, none⟩ = some (.bool false) := (blk_cell BK144.out 2).trans rfl
              have hcz42_3 : wc.cell? ⟨gb144, 3, none⟩ = some (.int .i64 a1_3) := (blk_cell BK144.out 3).trans rfl
              have hfz42_0 := blk_frozen BK144.out 0
              have hfz42_1 := blk_frozen BK144.out 1
              have hfz42_2 := blk_frozen BK144.out 2
              have hfz42_3 := blk_frozen BK144.out 3
              go_wp2
              go_meet
              case rel => exact ⟨_, (0), (a0_0), (a0_1), (a0_2), (a0_3), (a0_4), (by first | rfl | (simp; done) | (simp [*]; done)), H', ⟨by have := HJ2.out; first | omega | exact Nat.le_refl _⟩, ⟨by (with_reducible repeat (first | refine blk_drewN ?_ _ | refine blk_drew ?_ | refine blk_alloc ?_ _)); exact BK143.out⟩, ⟨by (with_reducible repeat (first | refine blk_drewN ?_ _ | refine blk_drew ?_ | refine blk_alloc ?_ _)); exact BK144.out⟩, ⟨by (with_reducible repeat (first | refine blk_drewN ?_ _ | refine blk_drew ?_ | refine blk_alloc ?_ _)); exact BK145.out⟩, ⟨by repeat (first | (with_reducible first | exact HB.out | apply below_alloc | apply pw_below_drewN | apply below_drew1 | refine below_set ?_ GE143.out | refine below_set ?_ GE144.out | refine below_set ?_ GE145.out) | exact HB.out)⟩⟩
        case rest =>
          clear HC20
          try clear c1
          try clear c2
          try clear p2
          try clear c3
          try clear c4
          try clear p6
          try clear c7
          try clear c7b0
          try clear c8
          try clear c9
          try clear c11
          try clear c12
          try clear c14
          try clear c15
          try clear c16
          try clear c18
          try clear c21
          try clear c22
          try clear c24
          try clear c26
          try clear c27
          try clear c29
          try clear c33
          try clear c35
          try clear c36
          try clear c38
          try clear c40
          try clear c41
          try clear hcz10_0
          try clear hcz10_1
          try clear hcz10_2
          try clear hcz10_3
          try clear hcz13_0
          try clear hcz13_1
          try clear hcz13_2
          try clear hcz13_3
          try clear hcz17_0
          try clear hcz17_1
          try clear hcz17_2
          try clear hcz17_3
          try clear hcz17_4
          try clear hcz19_0
          try clear hcz19_1
          try clear hcz19_2
          try clear hcz19_3
          try clear hcz19_4
          try clear hcz23_0
          try clear hcz23_1
          try clear hcz23_2
          try clear hcz23_3
          try clear hcz28_0
          try clear hcz28_1
          try clear hcz28_2
          try clear hcz28_3
          try clear hcz28_4
          try clear hcz30_0
          try clear hcz30_1
          try clear hcz30_2
          try clear hcz30_3
          try clear hcz32_0
          try clear hcz32_1
          try clear hcz32_2
          try clear hcz32_3
          try clear hcz32_4
          try clear hcz37_0
          try clear hcz37_1
          try clear hcz37_2
          try clear hcz37_3
          try clear hcz39_0
          try clear hcz39_1
          try clear hcz39_2
          try clear hcz39_3
          try clear hcz39_4
          try clear hcz42_0
          try clear hcz42_1
          try clear hcz42_2
          try clear hcz42_3
          try clear hfz10_0
          try clear hfz10_1
          try clear hfz10_2
          try clear hfz10_3
          try clear hfz13_0
          try clear hfz13_1
          try clear hfz13_2
          try clear hfz13_3
          try clear hfz17_0
          try clear hfz17_1
          try clear hfz17_2
          try clear hfz17_3
          try clear hfz17_4
          try clear hfz19_0
          try clear hfz19_1
          try clear hfz19_2
          try clear hfz19_3
          try clear hfz19_4
          try clear hfz23_0
          try clear hfz23_1
          try clear hfz23_2
          try clear hfz23_3
          try clear hfz28_0
          try clear hfz28_1
          try clear hfz28_2
          try clear hfz28_3
          try clear hfz28_4
          try clear hfz30_0
          try clear hfz30_1
          try clear hfz30_2
          try clear hfz30_3
          try clear hfz32_0
          try clear hfz32_1
          try clear hfz32_2
          try clear hfz32_3
          try clear hfz32_4
          try clear hfz37_0
          try clear hfz37_1
          try clear hfz37_2
          try clear hfz37_3
          try clear hfz39_0
          try clear hfz39_1
          try clear hfz39_2
          try clear hfz39_3
          try clear hfz39_4
          try clear hfz42_0
          try clear hfz42_1
          try clear hfz42_2
          try clear hfz42_3
          try clear p2
          obtain ⟨kq, x7_19, x144000_19, x144001_19, x144002_19, x144003_19, x144004_19, rfl, HA, HJ19, BK143, BK144, BK145, HB⟩ := hcut
          cases kq with
          | zero => exact absurd HA.out (by simp [geyserref21_Mark.j1])
          | succ kj19 =>
            have H := HA.out
            clear HA
            simp only [geyserref21_Mark.j1] at H
            by_cases c43 : a1_3 ≥ 0
            · rw [if_pos c43] at H
              have c43b0 : decide (0 ≤ a1_3) = true := decide_eq_true c43
              clear c43
              by_cases c44 : x7_19 = 0
              · rw [if_pos c44] at H
                have c44b0 : (x7_19 == 0) = true := beq_iff_eq.mpr c44
                have c44b1 : (x7_19 != 0) = false := bne_eq_false_iff_eq.mpr c44
                clear c44
                by_cases c45 : a1_3 ≥ x144000_19
                · rw [if_pos c45] at H
                  have c45b0 : decide (x144000_19 ≤ a1_3) = true := decide_eq_true c45
                  clear c45
                  by_cases c46 : x144000_19 < x144001_19
                  · rw [if_pos c46] at H
                    have c46b0 : decide (x144000_19 < x144001_19) = true := decide_eq_true c46
                    clear c46
                    by_cases c47 : x144003_19 ≥ x144002_19
                    · rw [if_pos c47] at H
                      have c47b0 : decide (x144002_19 ≤ x144003_19) = true := decide_eq_true c47
                      clear c47
                      simp only [Option.some.injEq, Prod.mk.injEq] at H
                      obtain ⟨rfl, rfl, rfl, rfl, rfl, rfl, rfl⟩ := H
                      have hnb48 := NB144_143.out
                      have hnc48 := NB143_144.out
                      have hnb49 := NB144_145.out
                      have hnc49 := NB145_144.out
                      have hcz50_0 : wc.cell? ⟨gb144, 0, none⟩ = some (.bool a1_0) := (blk_cell BK144.out 0).trans rfl
                      have hcz50_1 : wc.cell? ⟨gb144, 1, none⟩ = some (.bool a1_1) := (blk_cell BK144.out 1).trans rfl
                      have hcz50_2 : wc.cell? ⟨gb144, 2, none⟩ = some (.bool a1_2) := (blk_cell BK144.out 2).trans rfl
                      have hcz50_3 : wc.cell? ⟨gb144, 3, none⟩ = some (.int .i64 a1_3) := (blk_cell BK144.out 3).trans rfl
                      have hfz50_0 := blk_frozen BK144.out 0
                      have hfz50_1 := blk_frozen BK144.out 1
                      have hfz50_2 := blk_frozen BK144.out 2
                      have hfz50_3 := blk_frozen BK144.out 3
                      have hnb51 := NB143_145.out
                      have hnc51 := NB145_143.out
                      have hcz52_0 : wc.cell? ⟨gb143, 0, none⟩ = some (.int .i64 x144000_19) := (blk_cell BK143.out 0).trans rfl
                      have hcz52_1 : wc.cell? ⟨gb143, 1, none⟩ = some (.int .i64 x144001_19) := (blk_cell BK143.out 1).trans rfl
                      have hcz52_2 : wc.cell? ⟨gb143, 2, none⟩ = some (.int .i64 x144002_19) := (blk_cell BK143.out 2).trans rfl
                      have hcz52_3 : wc.cell? ⟨gb143, 3, none⟩ = some (.int .i64 x144003_19) := (blk_cell BK143.out 3).trans rfl
                      have hcz52_4 : wc.cell? ⟨gb143, 4, none⟩ = some (.bool x144004_19) := (blk_cell BK143.out 4).trans rfl
                      have hfz52_0 := blk_frozen BK143.out 0
                      have hfz52_1 := blk_frozen BK143.out 1
                      have hfz52_2 := blk_frozen BK143.out 2
                      have hfz52_3 := blk_frozen BK143.out 3
                      have hfz52_4 := blk_frozen BK143.out 4
                      have hcz53_0 : wc.cell? ⟨gb145, 0, none⟩ = some (.int .i64 0) := (blk_cell BK145.out 0).trans rfl
                      have hcz53_1 : wc.cell? ⟨gb145, 1, none⟩ = some (.int .i64 0) := (blk_cell BK145.out 1).trans rfl
                      have hcz53_2 : wc.cell? ⟨gb145, 2, none⟩ = some (.int .i64 0) := (blk_cell BK145.out 2).trans rfl
                      have hcz53_3 : wc.cell? ⟨gb145, 3, none⟩ = some (.int .i64 0) := (blk_cell BK145.out 3).trans rfl
                      have hcz53_4 : wc.cell? ⟨gb145, 4, none⟩ = some (.bool false) := (blk_cell BK145.out 4).trans rfl
                      have hfz53_0 := blk_frozen BK145.out 0
                      have hfz53_1 := blk_frozen BK145.out 1
                      have hfz53_2 := blk_frozen BK145.out 2
                      have hfz53_3 := blk_frozen BK145.out 3
                      have hfz53_4 := blk_frozen BK145.out 4
                      go_wp2
                      refine bodyPost_ret (results_ctt rfl _ _ gb145 32 #[.int .i64 (wrap64 (x144000_19 + 1)), .int .i64 x144001_19, .int .i64 x144002_19, .int .i64 0, .bool false] (0, 0) _ rfl (by (with_reducible repeat (first | refine blk_drewN ?_ _ | refine blk_drew ?_ | refine blk_alloc ?_ _)); refine blk_put (cs := #[.int .i64 (wrap64 (x144000_19 + 1)), .int .i64 x144001_19, .int .i64 x144002_19, .int .i64 0, .bool false]) ?_ 4 _ rfl; (with_reducible repeat (first | refine blk_drewN ?_ _ | refine blk_drew ?_ | refine blk_alloc ?_ _)); refine blk_put (cs := #[.int .i64 (wrap64 (x144000_19 + 1)), .int .i64 x144001_19, .int .i64 x144002_19, .int .i64 0, .bool false]) ?_ 3 _ rfl; (with_reducible repeat (first | refine blk_drewN ?_ _ | refine blk_drew ?_ | refine blk_alloc ?_ _)); refine blk_put (cs := #[.int .i64 (wrap64 (x144000_19 + 1)), .int .i64 x144001_19, .int .i64 0, .int .i64 0, .bool false]) ?_ 2 _ rfl; (with_reducible repeat (first | refine blk_drewN ?_ _ | refine blk_drew ?_ | refine blk_alloc ?_ _)); refine blk_put (cs := #[.int .i64 (wrap64 (x144000_19 + 1)), .int .i64 0, .int .i64 0, .int .i64 0, .bool false]) ?_ 1 _ rfl; (with_reducible repeat (first | refine blk_drewN ?_ _ | refine blk_drew ?_ | refine blk_alloc ?_ _)); refine blk_put (cs := #[.int .i64 0, .int .i64 0, .int .i64 0, .int .i64 0, .bool false]) ?_ 0 _ rfl; (with_reducible repeat (first | refine blk_drewN ?_ _ | refine blk_drew ?_ | refine blk_alloc ?_ _)); refine blk_far ?_ NB145_143.out _; (with_reducible repeat (first | refine blk_drewN ?_ _ | refine blk_drew ?_ | refine blk_alloc ?_ _)); refine blk_far ?_ NB145_143.out _; (with_reducible repeat (first | refine blk_drewN ?_ _ | refine blk_drew ?_ | refine blk_alloc ?_ _)); refine blk_far ?_ NB145_143.out _; (with_reducible repeat (first | refine blk_drewN ?_ _ | refine blk_drew ?_ | refine blk_alloc ?_ _)); exact BK145.out) Tryd.underlying32 rfl (by kernel_rfl)) rfl ?_
                      exact ⟨by first | rfl | (simp [errW_none, errW_some] <;> rfl) | (simp [*, errW_none, errW_some] <;> rfl), by repeat (first | (with_reducible first | exact HB.out | apply below_alloc | apply pw_below_drewN | apply below_drew1 | refine below_set ?_ GE143.out | refine below_set ?_ GE144.out | refine below_set ?_ GE145.out) | exact HB.out)⟩
                    · rw [if_neg c47] at H
                      have c47b0 : decide (x144002_19 ≤ x144003_19) = false := decide_eq_false c47
                      clear c47
                      simp only [Option.some.injEq, Prod.mk.injEq] at H
                      obtain ⟨rfl, rfl, rfl, rfl, rfl, rfl, rfl⟩ := H
                      have hnb54 := NB144_143.out
                      have hnc54 := NB143_144.out
                      have hnb55 := NB144_145.out
                      have hnc55 := NB145_144.out
                      have hcz56_0 : wc.cell? ⟨gb144, 0, none⟩ = some (.bool a1_0) := (blk_cell BK144.out 0).trans rfl
                      have hcz56_1 : wc.cell? ⟨gb144, 1, none⟩ = some (.bool a1_1) := (blk_cell BK144.out 1).trans rfl
                      have hcz56_2 : wc.cell? ⟨gb144, 2, none⟩ = some (.bool a1_2) := (blk_cell BK144.out 2).trans rfl
                      have hcz56_3 : wc.cell? ⟨gb144, 3, none⟩ = some (.int .i64 a1_3) := (blk_cell BK144.out 3).trans rfl
                      have hfz56_0 := blk_frozen BK144.out 0
                      have hfz56_1 := blk_frozen BK144.out 1
                      have hfz56_2 := blk_frozen BK144.out 2
                      have hfz56_3 := blk_frozen BK144.out 3
                      have hnb57 := NB143_145.out
                      have hnc57 := NB145_143.out
                      have hcz58_0 : wc.cell? ⟨gb143, 0, none⟩ = some (.int .i64 x144000_19) := (blk_cell BK143.out 0).trans rfl
                      have hcz58_1 : wc.cell? ⟨gb143, 1, none⟩ = some (.int .i64 x144001_19) := (blk_cell BK143.out 1).trans rfl
                      have hcz58_2 : wc.cell? ⟨gb143, 2, none⟩ = some (.int .i64 x144002_19) := (blk_cell BK143.out 2).trans rfl
                      have hcz58_3 : wc.cell? ⟨gb143, 3, none⟩ = some (.int .i64 x144003_19) := (blk_cell BK143.out 3).trans rfl
                      have hcz58_4 : wc.cell? ⟨gb143, 4, none⟩ = some (.bool x144004_19) := (blk_cell BK143.out 4).trans rfl
                      have hfz58_0 := blk_frozen BK143.out 0
                      have hfz58_1 := blk_frozen BK143.out 1
                      have hfz58_2 := blk_frozen BK143.out 2
                      have hfz58_3 := blk_frozen BK143.out 3
                      have hfz58_4 := blk_frozen BK143.out 4
                      have hcz59_0 : wc.cell? ⟨gb145, 0, none⟩ = some (.int .i64 0) := (blk_cell BK145.out 0).trans rfl
                      have hcz59_1 : wc.cell? ⟨gb145, 1, none⟩ = some (.int .i64 0) := (blk_cell BK145.out 1).trans rfl
                      have hcz59_2 : wc.cell? ⟨gb145, 2, none⟩ = some (.int .i64 0) := (blk_cell BK145.out 2).trans rfl
                      have hcz59_3 : wc.cell? ⟨gb145, 3, none⟩ = some (.int .i64 0) := (blk_cell BK145.out 3).trans rfl
                      have hcz59_4 : wc.cell? ⟨gb145, 4, none⟩ = some (.bool false) := (blk_cell BK145.out 4).trans rfl
                      have hfz59_0 := blk_frozen BK145.out 0
                      have hfz59_1 := blk_frozen BK145.out 1
                      have hfz59_2 := blk_frozen BK145.out 2
                      have hfz59_3 := blk_frozen BK145.out 3
                      have hfz59_4 := blk_frozen BK145.out 4
                      go_wp2
                      refine bodyPost_ret (results_ctt rfl _ _ gb145 32 #[.int .i64 (wrap64 (x144000_19 + x7_19)), .int .i64 x144001_19, .int .i64 x144002_19, .int .i64 0, .bool false] (0, 0) _ rfl (by (with_reducible repeat (first | refine blk_drewN ?_ _ | refine blk_drew ?_ | refine blk_alloc ?_ _)); refine blk_put (cs := #[.int .i64 (wrap64 (x144000_19 + x7_19)), .int .i64 x144001_19, .int .i64 x144002_19, .int .i64 0, .bool false]) ?_ 4 _ rfl; (with_reducible repeat (first | refine blk_drewN ?_ _ | refine blk_drew ?_ | refine blk_alloc ?_ _)); refine blk_put (cs := #[.int .i64 (wrap64 (x144000_19 + x7_19)), .int .i64 x144001_19, .int .i64 x144002_19, .int .i64 0, .bool false]) ?_ 3 _ rfl; (with_reducible repeat (first | refine blk_drewN ?_ _ | refine blk_drew ?_ | refine blk_alloc ?_ _)); refine blk_put (cs := #[.int .i64 (wrap64 (x144000_19 + x7_19)), .int .i64 x144001_19, .int .i64 0, .int .i64 0, .bool false]) ?_ 2 _ rfl; (with_reducible repeat (first | refine blk_drewN ?_ _ | refine blk_drew ?_ | refine blk_alloc ?_ _)); refine blk_put (cs := #[.int .i64 (wrap64 (x144000_19 + x7_19)), .int .i64 0, .int .i64 0, .int .i64 0, .bool false]) ?_ 1 _ rfl; (with_reducible repeat (first | refine blk_drewN ?_ _ | refine blk_drew ?_ | refine blk_alloc ?_ _)); refine blk_put (cs := #[.int .i64 0, .int .i64 0, .int .i64 0, .int .i64 0, .bool false]) ?_ 0 _ rfl; (with_reducible repeat (first | refine blk_drewN ?_ _ | refine blk_drew ?_ | refine blk_alloc ?_ _)); refine blk_far ?_ NB145_143.out _; (with_reducible repeat (first | refine blk_drewN ?_ _ | refine blk_drew ?_ | refine blk_alloc ?_ _)); refine blk_far ?_ NB145_143.out _; (with_reducible repeat (first | refine blk_drewN ?_ _ | refine blk_drew ?_ | refine blk_alloc ?_ _)); refine blk_far ?_ NB145_143.out _; (with_reducible repeat (first | refine blk_drewN ?_ _ | refine blk_drew ?_ | refine blk_alloc ?_ _)); exact BK145.out) Tryd.underlying32 rfl (by kernel_rfl)) rfl ?_
                      exact ⟨by first | rfl | (simp [errW_none, errW_some] <;> rfl) | (simp [*, errW_none, errW_some] <;> rfl), by repeat (first | (with_reducible first | exact HB.out | apply below_alloc | apply pw_below_drewN | apply below_drew1 | refine below_set ?_ GE143.out | refine below_set ?_ GE144.out | refine below_set ?_ GE145.out) | exact HB.out)⟩
                  · rw [if_neg c46] at H
                    have c46b0 : decide (x144000_19 < x144001_19) = false := decide_eq_false c46
                    clear c46
                    simp only [Option.some.injEq, Prod.mk.injEq] at H
                    obtain ⟨rfl, rfl, rfl, rfl, rfl, rfl, rfl⟩ := H
                    have hnb60 := NB144_143.out
                    have hnc60 := NB143_144.out
                    have hnb61 := NB144_145.out
                    have hnc61 := NB145_144.out
                    have hcz62_0 : wc.cell? ⟨gb144, 0, none⟩ = some (.bool a1_0) := (blk_cell BK144.out 0).trans rfl
                    have hcz62_1 : wc.cell? ⟨gb144, 1, none⟩ = some (.bool a1_1) := (blk_cell BK144.out 1).trans rfl
                    have hcz62_2 : wc.cell? ⟨gb144, 2, none⟩ = some (.bool a1_2) := (blk_cell BK144.out 2).trans rfl
                    have hcz62_3 : wc.cell? ⟨gb144, 3, none⟩ = some (.int .i64 a1_3) := (blk_cell BK144.out 3).trans rfl
                    have hfz62_0 := blk_frozen BK144.out 0
                    have hfz62_1 := blk_frozen BK144.out 1
                    have hfz62_2 := blk_frozen BK144.out 2
                    have hfz62_3 := blk_frozen BK144.out 3
                    have hnb63 := NB143_145.out
                    have hnc63 := NB145_143.out
                    have hcz64_0 : wc.cell? ⟨gb143, 0, none⟩ = some (.int .i64 x144000_19) := (blk_cell BK143.out 0).trans rfl
                    have hcz64_1 : wc.cell? ⟨gb143, 1, none⟩ = some (.int .i64 x144001_19) := (blk_cell BK143.out 1).trans rfl
                    have hcz64_2 : wc.cell? ⟨gb143, 2, none⟩ = some (.int .i64 x144002_19) := (blk_cell BK143.out 2).trans rfl
                    have hcz64_3 : wc.cell? ⟨gb143, 3, none⟩ = some (.int .i64 x144003_19) := (blk_cell BK143.out 3).trans rfl
                    have hcz64_4 : wc.cell? ⟨gb143, 4, none⟩ = some (.bool x144004_19) := (blk_cell BK143.out 4).trans rfl
                    have hfz64_0 := blk_frozen BK143.out 0
                    have hfz64_1 := blk_frozen BK143.out 1
                    have hfz64_2 := blk_frozen BK143.out 2
                    have hfz64_3 := blk_frozen BK143.out 3
                    have hfz64_4 := blk_frozen BK143.out 4
                    have hcz65_0 : wc.cell? ⟨gb145, 0, none⟩ = some (.int .i64 0) := (blk_cell BK145.out 0).trans rfl
                    have hcz65_1 : wc.cell? ⟨gb145, 1, none⟩ = some (.int .i64 0) := (blk_cell BK145.out 1).trans rfl
                    have hcz65_2 : wc.cell? ⟨gb145, 2, none⟩ = some (.int .i64 0) := (blk_cell BK145.out 2).trans rfl
                    have hcz65_3 : wc.cell? ⟨gb145, 3, none⟩ = some (.int .i64 0) := (blk_cell BK145.out 3).trans rfl
                    have hcz65_4 : wc.cell? ⟨gb145, 4, none⟩ = some (.bool false) := (blk_cell BK145.out 4).trans rfl
                    have hfz65_0 := blk_frozen BK145.out 0
                    have hfz65_1 := blk_frozen BK145.out 1
                    have hfz65_2 := blk_frozen BK145.out 2
                    have hfz65_3 := blk_frozen BK145.out 3
                    have hfz65_4 := blk_frozen BK145.out 4
                    go_wp2
                    refine bodyPost_ret (results_ctt rfl _ _ gb145 32 #[.int .i64 (wrap64 (x144000_19 + x7_19)), .int .i64 x144001_19, .int .i64 x144002_19, .int .i64 0, .bool false] (0, 0) _ rfl (by (with_reducible repeat (first | refine blk_drewN ?_ _ | refine blk_drew ?_ | refine blk_alloc ?_ _)); refine blk_put (cs := #[.int .i64 (wrap64 (x144000_19 + x7_19)), .int .i64 x144001_19, .int .i64 x144002_19, .int .i64 0, .bool false]) ?_ 4 _ rfl; (with_reducible repeat (first | refine blk_drewN ?_ _ | refine blk_drew ?_ | refine blk_alloc ?_ _)); refine blk_put (cs := #[.int .i64 (wrap64 (x144000_19 + x7_19)), .int .i64 x144001_19, .int .i64 x144002_19, .int .i64 0, .bool false]) ?_ 3 _ rfl; (with_reducible repeat (first | refine blk_drewN ?_ _ | refine blk_drew ?_ | refine blk_alloc ?_ _)); refine blk_put (cs := #[.int .i64 (wrap64 (x144000_19 + x7_19)), .int .i64 x144001_19, .int .i64 0, .int .i64 0, .bool false]) ?_ 2 _ rfl; (with_reducible repeat (first | refine blk_drewN ?_ _ | refine blk_drew ?_ | refine blk_alloc ?_ _)); refine blk_put (cs := #[.int .i64 (wrap64 (x144000_19 + x7_19)), .int .i64 0, .int .i64 0, .int .i64 0, .bool false]) ?_ 1 _ rfl; (with_reducible repeat (first | refine blk_drewN ?_ _ | refine blk_drew ?_ | refine blk_alloc ?_ _)); refine blk_put (cs := #[.int .i64 0, .int .i64 0, .int .i64 0, .int .i64 0, .bool false]) ?_ 0 _ rfl; (with_reducible repeat (first | refine blk_drewN ?_ _ | refine blk_drew ?_ | refine blk_alloc ?_ _)); refine blk_far ?_ NB145_143.out _; (with_reducible repeat (first | refine blk_drewN ?_ _ | refine blk_drew ?_ | refine blk_alloc ?_ _)); refine blk_far ?_ NB145_143.out _; (with_reducible repeat (first | refine blk_drewN ?_ _ | refine blk_drew ?_ | refine blk_alloc ?_ _)); refine blk_far ?_ NB145_143.out _; (with_reducible repeat (first | refine blk_drewN ?_ _ | refine blk_drew ?_ | refine blk_alloc ?_ _)); exact BK145.out) Tryd.underlying32 rfl (by kernel_rfl)) rfl ?_
                    exact ⟨by first | rfl | (simp [errW_none, errW_some] <;> rfl) | (simp [*, errW_none, errW_some] <;> rfl), by repeat (first | (with_reducible first | exact HB.out | apply below_alloc | apply pw_below_drewN | apply below_drew1 | refine below_set ?_ GE143.out | refine below_set ?_ GE144.out | refine below_set ?_ GE145.out) | exact HB.out)⟩
                · rw [if_neg c45] at H
                  have c45b0 : decide (x144000_19 ≤ a1_3) = false := decide_eq_false c45
                  clear c45
                  simp only [Option.some.injEq, Prod.mk.injEq] at H
                  obtain ⟨rfl, rfl, rfl, rfl, rfl, rfl, rfl⟩ := H
                  have hnb66 := NB144_143.out
                  have hnc66 := NB143_144.out
                  have hnb67 := NB144_145.out
                  have hnc67 := NB145_144.out
                  have hcz68_0 : wc.cell? ⟨gb144, 0, none⟩ = some (.bool a1_0) := (blk_cell BK144.out 0).trans rfl
                  have hcz68_1 : wc.cell? ⟨gb144, 1, none⟩ = some (.bool a1_1) := (blk_cell BK144.out 1).trans rfl
                  have hcz68_2 : wc.cell? ⟨gb144, 2, none⟩ = some (.bool a1_2) := (blk_cell BK144.out 2).trans rfl
                  have hcz68_3 : wc.cell? ⟨gb144, 3, none⟩ = some (.int .i64 a1_3) := (blk_cell BK144.out 3).trans rfl
                  have hfz68_0 := blk_frozen BK144.out 0
                  have hfz68_1 := blk_frozen BK144.out 1
                  have hfz68_2 := blk_frozen BK144.out 2
                  have hfz68_3 := blk_frozen BK144.out 3
                  have hnb69 := NB143_145.out
                  have hnc69 := NB145_143.out
                  have hcz70_0 : wc.cell? ⟨gb143, 0, none⟩ = some (.int .i64 x144000_19) := (blk_cell BK143.out 0).trans rfl
                  have hcz70_1 : wc.cell? ⟨gb143, 1, none⟩ = some (.int .i64 x144001_19) := (blk_cell BK143.out 1).trans rfl
                  have hcz70_2 : wc.cell? ⟨gb143, 2, none⟩ = some (.int .i64 x144002_19) := (blk_cell BK143.out 2).trans rfl
                  have hcz70_3 : wc.cell? ⟨gb143, 3, none⟩ = some (.int .i64 x144003_19) := (blk_cell BK143.out 3).trans rfl
                  have hcz70_4 : wc.cell? ⟨gb143, 4, none⟩ = some (.bool x144004_19) := (blk_cell BK143.out 4).trans rfl
                  have hfz70_0 := blk_frozen BK143.out 0
                  have hfz70_1 := blk_frozen BK143.out 1
                  have hfz70_2 := blk_frozen BK143.out 2
                  have hfz70_3 := blk_frozen BK143.out 3
                  have hfz70_4 := blk_frozen BK143.out 4
                  have hcz71_0 : wc.cell? ⟨gb145, 0, none⟩ = some (.int .i64 0) := (blk_cell BK145.out 0).trans rfl
                  have hcz71_1 : wc.cell? ⟨gb145, 1, none⟩ = some (.int .i64 0) := (blk_cell BK145.out 1).trans rfl
                  have hcz71_2 : wc.cell? ⟨gb145, 2, none⟩ = some (.int .i64 0) := (blk_cell BK145.out 2).trans rfl
                  have hcz71_3 : wc.cell? ⟨gb145, 3, none⟩ = some (.int .i64 0) := (blk_cell BK145.out 3).trans rfl
                  have hcz71_4 : wc.cell? ⟨gb145, 4, none⟩ = some (.bool false) := (blk_cell BK145.out 4).trans rfl
                  have hfz71_0 := blk_frozen BK145.out 0
                  have hfz71_1 := blk_frozen BK145.out 1
                  have hfz71_2 := blk_frozen BK145.out 2
                  have hfz71_3 := blk_frozen BK145.out 3
                  have hfz71_4 := blk_frozen BK145.out 4
                  go_wp2
                  refine bodyPost_ret (results_ctt rfl _ _ gb145 32 #[.int .i64 (wrap64 (x144000_19 + x7_19)), .int .i64 x144001_19, .int .i64 x144002_19, .int .i64 0, .bool false] (0, 0) _ rfl (by (with_reducible repeat (first | refine blk_drewN ?_ _ | refine blk_drew ?_ | refine blk_alloc ?_ _)); refine blk_put (cs := #[.int .i64 (wrap64 (x144000_19 + x7_19)), .int .i64 x144001_19, .int .i64 x144002_19, .int .i64 0, .bool false]) ?_ 4 _ rfl; (with_reducible repeat (first | refine blk_drewN ?_ _ | refine blk_drew ?_ | refine blk_alloc ?_ _)); refine blk_put (cs := #[.int .i64 (wrap64 (x144000_19 + x7_19)), .int .i64 x144001_19, .int .i64 x144002_19, .int .i64 0, .bool false]) ?_ 3 _ rfl; (with_reducible repeat (first | refine blk_drewN ?_ _ | refine blk_drew ?_ | refine blk_alloc ?_ _)); refine blk_put (cs := #[.int .i64 (wrap64 (x144000_19 + x7_19)), .int .i64 x144001_19, .int .i64 0, .int .i64 0, .bool false]) ?_ 2 _ rfl; (with_reducible repeat (first | refine blk_drewN ?_ _ | refine blk_drew ?_ | refine blk_alloc ?_ _)); refine blk_put (cs := #[.int .i64 (wrap64 (x144000_19 + x7_19)), .int .i64 0, .int .i64 0, .int .i64 0, .bool false]) ?_ 1 _ rfl; (with_reducible repeat (first | refine blk_drewN ?_ _ | refine blk_drew ?_ | refine blk_alloc ?_ _)); refine blk_put (cs := #[.int .i64 0, .int .i64 0, .int .i64 0, .int .i64 0, .bool false]) ?_ 0 _ rfl; (with_reducible repeat (first | refine blk_drewN ?_ _ | refine blk_drew ?_ | refine blk_alloc ?_ _)); refine blk_far ?_ NB145_143.out _; (with_reducible repeat (first | refine blk_drewN ?_ _ | refine blk_drew ?_ | refine blk_alloc ?_ _)); refine blk_far ?_ NB145_143.out _; (with_reducible repeat (first | refine blk_drewN ?_ _ | refine blk_drew ?_ | refine blk_alloc ?_ _)); refine blk_far ?_ NB145_143.out _; (with_reducible repeat (first | refine blk_drewN ?_ _ | refine blk_drew ?_ | refine blk_alloc ?_ _)); exact BK145.out) Tryd.underlying32 rfl (by kernel_rfl)) rfl ?_
                  exact ⟨by first | rfl | (simp [errW_none, errW_some] <;> rfl) | (simp [*, errW_none, errW_some] <;> rfl), by repeat (first | (with_reducible first | exact HB.out | apply below_alloc | apply pw_below_drewN | apply below_drew1 | refine below_set ?_ GE143.out | refine below_set ?_ GE144.out | refine below_set ?_ GE145.out) | exact HB.out)⟩
              · rw [if_neg c44] at H
                have c44b0 : (x7_19 == 0) = false := beq_eq_false_iff_ne.mpr c44
                have c44b1 : (x7_19 != 0) = true := bne_iff_ne.mpr c44
                simp only [Option.some.injEq, Prod.mk.injEq] at H
                obtain ⟨rfl, rfl, rfl, rfl, rfl, rfl, rfl⟩ := H
                have hnb72 := NB144_143.out
                have hnc72 := NB143_144.out
                have hnb73 := NB144_145.out
                have hnc73 := NB145_144.out
                have hcz74_0 : wc.cell? ⟨gb144, 0, none⟩ = some (.bool a1_0) := (blk_cell BK144.out 0).trans rfl
                have hcz74_1 : wc.cell? ⟨gb144, 1, none⟩ = some (.bool a1_1) := (blk_cell BK144.out 1).trans rfl
                have hcz74_2 : wc.cell? ⟨gb144, 2, none⟩ = some (.bool a1_2) := (blk_cell BK144.out 2).trans rfl
                have hcz74_3 : wc.cell? ⟨gb144, 3, none⟩ = some (.int .i64 a1_3) := (blk_cell BK144.out 3).trans rfl
                have hfz74_0 := blk_frozen BK144.out 0
                have hfz74_1 := blk_frozen BK144.out 1
                have hfz74_2 := blk_frozen BK144.out 2
                have hfz74_3 := blk_frozen BK144.out 3
                have hnb75 := NB143_145.out
                have hnc75 := NB145_143.out
                have hcz76_0 : wc.cell? ⟨gb143, 0, none⟩ = some (.int .i64 x144000_19) := (blk_cell BK143.out 0).trans rfl
                have hcz76_1 : wc.cell? ⟨gb143, 1, none⟩ = some (.int .i64 x144001_19) := (blk_cell BK143.out 1).trans rfl
                have hcz76_2 : wc.cell? ⟨gb143, 2, none⟩ = some (.int .i64 x144002_19) := (blk_cell BK143.out 2).trans rfl
                have hcz76_3 : wc.cell? ⟨gb143, 3, none⟩ = some (.int .i64 x144003_19) := (blk_cell BK143.out 3).trans rfl
                have hcz76_4 : wc.cell? ⟨gb143, 4, none⟩ = some (.bool x144004_19) := (blk_cell BK143.out 4).trans rfl
                have hfz76_0 := blk_frozen BK143.out 0
                have hfz76_1 := blk_frozen BK143.out 1
                have hfz76_2 := blk_frozen BK143.out 2
                have hfz76_3 := blk_frozen BK143.out 3
                have hfz76_4 := blk_frozen BK143.out 4
                have hcz77_0 : wc.cell? ⟨gb145, 0, none⟩ = some (.int .i64 0) := (blk_cell BK145.out 0).trans rfl
                have hcz77_1 : wc.cell? ⟨gb145, 1, none⟩ = some (.int .i64 0) := (blk_cell BK145.out 1).trans rfl
                have hcz77_2 : wc.cell? ⟨gb145, 2, none⟩ = some (.int .i64 0) := (blk_cell BK145.out 2).trans rfl
                have hcz77_3 : wc.cell? ⟨gb145, 3, none⟩ = some (.int .i64 0) := (blk_cell BK145.out 3).trans rfl
                have hcz77_4 : wc.cell? ⟨gb145, 4, none⟩ = some (.bool false) := (blk_cell BK145.out 4).trans rfl
                have hfz77_0 := blk_frozen BK145.out 0
                have hfz77_1 := blk_frozen BK145.out 1
                have hfz77_2 := blk_frozen BK145.out 2
                have hfz77_3 := blk_frozen BK145.out 3
                have hfz77_4 := blk_frozen BK145.out 4
                go_wp2
                refine bodyPost_ret (results_ctt rfl _ _ gb145 32 #[.int .i64 (wrap64 (x144000_19 + x7_19)), .int .i64 x144001_19, .int .i64 x144002_19, .int .i64 0, .bool false] (0, 0) _ rfl (by (with_reducible repeat (first | refine blk_drewN ?_ _ | refine blk_drew ?_ | refine blk_alloc ?_ _)); refine blk_put (cs := #[.int .i64 (wrap64 (x144000_19 + x7_19)), .int .i64 x144001_19, .int .i64 x144002_19, .int .i64 0, .bool false]) ?_ 4 _ rfl; (with_reducible repeat (first | refine blk_drewN ?_ _ | refine blk_drew ?_ | refine blk_alloc ?_ _)); refine blk_put (cs := #[.int .i64 (wrap64 (x144000_19 + x7_19)), .int .i64 x144001_19, .int .i64 x144002_19, .int .i64 0, .bool false]) ?_ 3 _ rfl; (with_reducible repeat (first | refine blk_drewN ?_ _ | refine blk_drew ?_ | refine blk_alloc ?_ _)); refine blk_put (cs := #[.int .i64 (wrap64 (x144000_19 + x7_19)), .int .i64 x144001_19, .int .i64 0, .int .i64 0, .bool false]) ?_ 2 _ rfl; (with_reducible repeat (first | refine blk_drewN ?_ _ | refine blk_drew ?_ | refine blk_alloc ?_ _)); refine blk_put (cs := #[.int .i64 (wrap64 (x144000_19 + x7_19)), .int .i64 0, .int .i64 0, .int .i64 0, .bool false]) ?_ 1 _ rfl; (with_reducible repeat (first | refine blk_drewN ?_ _ | refine blk_drew ?_ | refine blk_alloc ?_ _)); refine blk_put (cs := #[.int .i64 0, .int .i64 0, .int .i64 0, .int .i64 0, .bool false]) ?_ 0 _ rfl; (with_reducible repeat (first | refine blk_drewN ?_ _ | refine blk_drew ?_ | refine blk_alloc ?_ _)); refine blk_far ?_ NB145_143.out _; (with_reducible repeat (first | refine blk_drewN ?_ _ | refine blk_drew ?_ | refine blk_alloc ?_ _)); refine blk_far ?_ NB145_143.out _; (with_reducible repeat (first | refine blk_drewN ?_ _ | refine blk_drew ?_ | refine blk_alloc ?_ _)); refine blk_far ?_ NB145_143.out _; (with_reducible repeat (first | refine blk_drewN ?_ _ | refine blk_drew ?_ | refine blk_alloc ?_ _)); exact BK145.out) Tryd.underlying32 rfl (by kernel_rfl)) rfl ?_
                exact ⟨by first | rfl | (simp [errW_none, errW_some] <;> rfl) | (simp [*, errW_none, errW_some] <;> rfl), by repeat (first | (with_reducible first | exact HB.out | apply below_alloc | apply pw_below_drewN | apply below_drew1 | refine below_set ?_ GE143.out | refine below_set ?_ GE144.out | refine below_set ?_ GE145.out) | exact HB.out)⟩
            · rw [if_neg c43] at H
              have c43b0 : decide (0 ≤ a1_3) = false := decide_eq_false c43
              clear c43
              simp only [Option.some.injEq, Prod.mk.injEq] at H
              obtain ⟨rfl, rfl, rfl, rfl, rfl, rfl, rfl⟩ := H
              have hnb78 := NB144_143.out
              have hnc78 := NB143_144.out
              have hnb79 := NB144_145.out
              have hnc79 := NB145_144.out
              have hcz80_0 : wc.cell? ⟨gb144, 0, none⟩ = some (.bool a1_0) := (blk_cell BK144.out 0).trans rfl
              have hcz80_1 : wc.cell? ⟨gb144, 1, none⟩ = some (.bool a1_1) := (blk_cell BK144.out 1).trans rfl
              have hcz80_2 : wc.cell? ⟨gb144, 2, none⟩ = some (.bool a1_2) := (blk_cell BK144.out 2).trans rfl
              have hcz80_3 : wc.cell? ⟨gb144, 3, none⟩ = some (.int .i64 a1_3) := (blk_cell BK144.out 3).trans rfl
              have hfz80_0 := blk_frozen BK144.out 0
              have hfz80_1 := blk_frozen BK144.out 1
              have hfz80_2 := blk_frozen BK144.out 2
              have hfz80_3 := blk_frozen BK144.out 3
              have hnb81 := NB143_145.out
              have hnc81 := NB145_143.out
              have hcz82_0 : wc.cell? ⟨gb143, 0, none⟩ = some (.int .i64 x144000_19) := (blk_cell BK143.out 0).trans rfl
              have hcz82_1 : wc.cell? ⟨gb143, 1, none⟩ = some (.int .i64 x144001_19) := (blk_cell BK143.out 1).trans rfl
              have hcz82_2 : wc.cell? ⟨gb143, 2, none⟩ = some (.int .i64 x144002_19) := (blk_cell BK143.out 2).trans rfl
              have hcz82_3 : wc.cell? ⟨gb143, 3, none⟩ = some (.int .i64 x144003_19) := (blk_cell BK143.out 3).trans rfl
              have hcz82_4 : wc.cell? ⟨gb143, 4, none⟩ = some (.bool x144004_19) := (blk_cell BK143.out 4).trans rfl
              have hfz82_0 := blk_frozen BK143.out 0
              have hfz82_1 := blk_frozen BK143.out 1
              have hfz82_2 := blk_frozen BK143.out 2
              have hfz82_3 := blk_frozen BK143.out 3
              have hfz82_4 := blk_frozen BK143.out 4
              have hcz83_0 : wc.cell? ⟨gb145, 0, none⟩ = some (.int .i64 0) := (blk_cell BK145.out 0).trans rfl
              have hcz83_1 : wc.cell? ⟨gb145, 1, none⟩ = some (.int .i64 0) := (blk_cell BK145.out 1).trans rfl
              have hcz83_2 : wc.cell? ⟨gb145, 2, none⟩ = some (.int .i64 0) := (blk_cell BK145.out 2).trans rfl
              have hcz83_3 : wc.cell? ⟨gb145, 3, none⟩ = some (.int .i64 0) := (blk_cell BK145.out 3).trans rfl
              have hcz83_4 : wc.cell? ⟨gb145, 4, none⟩ = some (.bool false) := (blk_cell BK145.out 4).trans rfl
              have hfz83_0 := blk_frozen BK145.out 0
              have hfz83_1 := blk_frozen BK145.out 1
              have hfz83_2 := blk_frozen BK145.out 2
              have hfz83_3 := blk_frozen BK145.out 3
              have hfz83_4 := blk_frozen BK145.out 4
              go_wp2
              refine bodyPost_ret (results_ctt rfl _ _ gb145 32 #[.int .i64 (wrap64 (x144000_19 + x7_19)), .int .i64 x144001_19, .int .i64 x144002_19, .int .i64 x144003_19, .bool x144004_19] (0, 0) _ rfl (by (with_reducible repeat (first | refine blk_drewN ?_ _ | refine blk_drew ?_ | refine blk_alloc ?_ _)); refine blk_put (cs := #[.int .i64 (wrap64 (x144000_19 + x7_19)), .int .i64 x144001_19, .int .i64 x144002_19, .int .i64 x144003_19, .bool false]) ?_ 4 _ rfl; (with_reducible repeat (first | refine blk_drewN ?_ _ | refine blk_drew ?_ | refine blk_alloc ?_ _)); refine blk_put (cs := #[.int .i64 (wrap64 (x144000_19 + x7_19)), .int .i64 x144001_19, .int .i64 x144002_19, .int .i64 0, .bool false]) ?_ 3 _ rfl; (with_reducible repeat (first | refine blk_drewN ?_ _ | refine blk_drew ?_ | refine blk_alloc ?_ _)); refine blk_put (cs := #[.int .i64 (wrap64 (x144000_19 + x7_19)), .int .i64 x144001_19, .int .i64 0, .int .i64 0, .bool false]) ?_ 2 _ rfl; (with_reducible repeat (first | refine blk_drewN ?_ _ | refine blk_drew ?_ | refine blk_alloc ?_ _)); refine blk_put (cs := #[.int .i64 (wrap64 (x144000_19 + x7_19)), .int .i64 0, .int .i64 0, .int .i64 0, .bool false]) ?_ 1 _ rfl; (with_reducible repeat (first | refine blk_drewN ?_ _ | refine blk_drew ?_ | refine blk_alloc ?_ _)); refine blk_put (cs := #[.int .i64 0, .int .i64 0, .int .i64 0, .int .i64 0, .bool false]) ?_ 0 _ rfl; (with_reducible repeat (first | refine blk_drewN ?_ _ | refine blk_drew ?_ | refine blk_alloc ?_ _)); refine blk_far ?_ NB145_143.out _; (with_reducible repeat (first | refine blk_drewN ?_ _ | refine blk_drew ?_ | refine blk_alloc ?_ _)); exact BK145.out) Tryd.underlying32 rfl (by kernel_rfl)) rfl ?_
              exact ⟨by first | rfl | (simp [errW_none, errW_some] <;> rfl) | (simp [*, errW_none, errW_some] <;> rfl), by repeat (first | (with_reducible first | exact HB.out | apply below_alloc | apply pw_below_drewN | apply below_drew1 | refine below_set ?_ GE143.out | refine below_set ?_ GE144.out | refine below_set ?_ GE145.out) | exact HB.out)⟩

/-! ### control_Controller_Clean: function 12 -/
def control_Controller_Clean.f (s0_0 : Int) (s0_1 : Int) (s0_2 : Int) (s0_3 : Int) (s0_4 : Bool) : Option (Int × Int × Int × Int × Int × Bool) := some (s0_3, s0_0, s0_1, s0_2, s0_3, s0_4)
set_option maxHeartbeats 8000000 in
set_option maxRecDepth 100000 in
theorem control_Controller_Clean.calls (g : Nat) (s0_0 : Int) (s0_1 : Int) (s0_2 : Int) (s0_3 : Int) (s0_4 : Bool) (r1 : Int) (r2 : Int) (r3 : Int) (r4 : Int) (r5 : Int) (r6 : Bool) (w0 w : World) (hI : IsS45 w0 w g s0_0 s0_1 s0_2 s0_3 s0_4) (hB : Below w0.heap.size w0 w) (h : control_Controller_Clean.f s0_0 s0_1 s0_2 s0_3 s0_4 = some (r1, r2, r3, r4, r5, r6)) :
    Calls Tryd.prog 12 #[.pointer (some ⟨g, 0, none⟩)] w fun e w' => e = .returned (.int .i64 r1) ∧ IsS45 w0 w' g r2 r3 r4 r5 r6 ∧ Below w0.heap.size w0 w' ∧ KeepBut w w' g none := by
  have HI0 := Aside0.mk hI
  have HK := Aside0.mk (KeepBut.refl w g none)
  have HL := Aside0.mk hB.size
  clear hI
  have HW0 := Aside0.mk hB.size
  have HB := Aside0.mk hB
  clear hB
  have H : (some (s0_3, s0_0, s0_1, s0_2, s0_3, s0_4)) = some (r1, r2, r3, r4, r5, r6) := h
  clear h
  simp only [Option.some.injEq, Prod.mk.injEq] at H
  obtain ⟨rfl, rfl, rfl, rfl, rfl, rfl⟩ := H
  obtain ⟨HGz2, hgz2⟩ := HI0.out
  have hcz2_0 := cellS45_0 HGz2
  have hcz2_1 := cellS45_1 HGz2
  have hcz2_2 := cellS45_2 HGz2
  have hcz2_3 := cellS45_3 HGz2
  have hcz2_4 := cellS45_4 HGz2
  have hfz2_0 := blk_frozen HGz2 0
  have hfz2_1 := blk_frozen HGz2 1
  have hfz2_2 := blk_frozen HGz2 2
  have hfz2_3 := blk_frozen HGz2 3
  have hfz2_4 := blk_frozen HGz2 4
  clear HGz2 hgz2
  go_enter Tryd.func12, Tryd.ntmps12
  go_wp2
  go_ret
  exact ⟨by first | rfl | (simp [errW_none, errW_some] <;> rfl) | (simp [*, errW_none, errW_some] <;> rfl), by repeat (first | (with_reducible first | exact HI0.out | apply IsS45.alloc | apply IsS45.drewN | apply IsS45.drew | apply IsS45.set_0 | apply IsS45.set_1 | apply IsS45.set_2 | apply IsS45.set_3 | apply IsS45.set_4) | exact HI0.out), by repeat (first | (with_reducible first | exact HB.out | apply below_alloc | apply pw_below_drewN | apply below_drew1 | refine below_set ?_ (IsS45.ge HI0.out)) | exact HB.out), by repeat (first | (with_reducible first | exact HK.out | apply KeepBut.set_ | apply keep_drewN | apply keep_drew | apply keep_alloc) | exact HK.out)⟩

end Go.Proofs.YtgbghjbihddpjaaDoor.QControlPlays
