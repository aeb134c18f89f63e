-- Written by a program of this session out of the translation. Lean checks it.
import Derived.Test.YtnlkeeaoknbmbaaQParamsRightx0
import Derived.Test.YtnlkeeaoknbmbaaQParamsRightx2
namespace Go.Proofs.Ytnlkeeaoknbmbaa.QParamsRight
open Go.RowKit Go.Proofs.Ytnlkeeaoknbmbaa.Er Go.Proofs.YtnlkeeaoknbmbaaW.PrintWords Go.Proofs.YtnlkeeaoknbmbaaW.PrintLast Go.Proofs.YtnlkeeaoknbmbaaW.PrintMore
attribute [local go_sem] max2_int min2_int max_two min_two max_three min_three max_four min_four   -- for this text's walks alone
set_option linter.unusedVariables false
set_option linter.unusedSimpArgs false

/-! ### geyserlaw08_ParamsRight: function 5 -/
def geyserlaw08_ParamsRight.j0 : Nat → Bool → Int → Int → Int → Int → Int → Int → Int → Int → Int → Int → Option (Bool)
  | 0, _, _, _, _, _, _, _, _, _, _, _ => none
  | k + 1, x69, x138000, x138001, x138002, x138003, x138004, x145000, x145001, x145002, x145003, x145004 => if x69 = true then (some false) else ((Choose.f x138002 (wrap64 (Int.tdiv (wrap64 (x138002 + 1)) 2))).bind fun bt149 => ((Choose.f (wrap64 (x138002 - 1)) (wrap64 (Int.tdiv x138002 2))).bind fun bt151 => (if bt149.2.isNone = true then (if bt151.2.isNone = true then (if bt149.1 ≥ (wrap64 (x138000 + x138001)) then (if bt151.1 < (wrap64 (x138000 + x138001)) then (if x145001 ≥ x138001 then (if x145002 ≥ x138002 then (if x145003 > x138003 then (if x145004 ≥ x138004 then ((geyserlaw08_awake.f k).bind fun t155 => (some t155)) else (some false)) else (some false)) else (some false)) else (some false)) else (some false)) else (some false)) else (some false)) else (some false))))
def geyserlaw08_ParamsRight.f (k : Nat) (a0 : Int) : Option (Bool) := (params_Of.f k (wrap64 (1 + (wrap64 (Int.tmod (IntKind.u64.wrap (a0)) 127))))).bind fun bt131 => ((params_Of.f k (wrap64 ((wrap64 (1 + (wrap64 (Int.tmod (IntKind.u64.wrap (a0)) 127)))) + 1))).bind fun bt138 => (if bt131.2.2.2.2.2.isNone = true then (if bt138.2.2.2.2.2.isNone = true then (if bt131.2.1 < 3 then (geyserlaw08_ParamsRight.j0 k true bt131.1 bt131.2.1 bt131.2.2.1 bt131.2.2.2.1 bt131.2.2.2.2.1 bt138.1 bt138.2.1 bt138.2.2.1 bt138.2.2.2.1 bt138.2.2.2.2.1) else ((IsPrime.f bt131.2.1).bind fun t147 => (if t147 = true then (if bt131.2.2.2.1 = (wrap64 ((wrap64 (bt131.1 + bt131.2.1)) + bt131.2.2.1)) then (if bt131.2.2.2.2.1 < bt131.2.2.2.1 then (geyserlaw08_ParamsRight.j0 k true bt131.1 bt131.2.1 bt131.2.2.1 bt131.2.2.2.1 bt131.2.2.2.2.1 bt138.1 bt138.2.1 bt138.2.2.1 bt138.2.2.2.1 bt138.2.2.2.2.1) else ((IsPrime.f bt131.2.2.2.2.1).bind fun t148 => (geyserlaw08_ParamsRight.j0 k (!t148) bt131.1 bt131.2.1 bt131.2.2.1 bt131.2.2.2.1 bt131.2.2.2.2.1 bt138.1 bt138.2.1 bt138.2.2.1 bt138.2.2.2.1 bt138.2.2.2.2.1))) else (geyserlaw08_ParamsRight.j0 k true bt131.1 bt131.2.1 bt131.2.2.1 bt131.2.2.2.1 bt131.2.2.2.2.1 bt138.1 bt138.2.1 bt138.2.2.1 bt138.2.2.2.1 bt138.2.2.2.2.1)) else (geyserlaw08_ParamsRight.j0 k true bt131.1 bt131.2.1 bt131.2.2.1 bt131.2.2.2.1 bt131.2.2.2.2.1 bt138.1 bt138.2.1 bt138.2.2.1 bt138.2.2.2.1 bt138.2.2.2.2.1)))) else (geyserlaw08_ParamsRight.j0 k true bt131.1 bt131.2.1 bt131.2.2.1 bt131.2.2.2.1 bt131.2.2.2.2.1 bt138.1 bt138.2.1 bt138.2.2.1 bt138.2.2.2.1 bt138.2.2.2.2.1)) else (geyserlaw08_ParamsRight.j0 k true bt131.1 bt131.2.1 bt131.2.2.1 bt131.2.2.2.1 bt131.2.2.2.2.1 bt138.1 bt138.2.1 bt138.2.2.1 bt138.2.2.2.1 bt138.2.2.2.2.1)))
theorem geyserlaw08_ParamsRight.mono_l : ∀ k, (∀ y0 y1 y2 y3 y4 y5 y6 y7 y8 y9 y10, LeO (geyserlaw08_ParamsRight.j0 k y0 y1 y2 y3 y4 y5 y6 y7 y8 y9 y10) (geyserlaw08_ParamsRight.j0 (k + 1) y0 y1 y2 y3 y4 y5 y6 y7 y8 y9 y10))
  | 0 => fun _ _ _ _ _ _ _ _ _ _ _ r h => by simp [geyserlaw08_ParamsRight.j0] at h
  | k + 1 => by
    have ih0 := geyserlaw08_ParamsRight.mono_l k
    · intro y0 y1 y2 y3 y4 y5 y6 y7 y8 y9 y10
      unfold geyserlaw08_ParamsRight.j0
      repeat' first
      | (with_reducible exact ih0 _ _ _ _ _ _ _ _ _ _ _)
      | (with_reducible exact geyserlaw08_awake.mono _)
      | (with_reducible exact params_Of.mono _ _)
      | (with_reducible exact LeO.refl _)
      | (with_reducible exact LeO.none _)
      | (with_reducible refine LeO.ite ?_ ?_)
      | (with_reducible refine LeO.bind ?_ (fun _ => ?_))
      | exact ih0 _ _ _ _ _ _ _ _ _ _ _
      | exact geyserlaw08_awake.mono _
      | exact params_Of.mono _ _
      | exact LeO.none _
      | refine LeO.ite ?_ ?_
      | refine LeO.bind ?_ (fun _ => ?_)
theorem geyserlaw08_ParamsRight.mono : ∀ a0 k, LeO (geyserlaw08_ParamsRight.f k a0) (geyserlaw08_ParamsRight.f (k + 1) a0) := by
  intro a0 k
  have ih0 := geyserlaw08_ParamsRight.mono_l k
  unfold geyserlaw08_ParamsRight.f
  repeat' first
      | (with_reducible exact ih0 _ _ _ _ _ _ _ _ _ _ _)
      | (with_reducible exact geyserlaw08_awake.mono _)
      | (with_reducible exact params_Of.mono _ _)
      | (with_reducible exact LeO.refl _)
      | (with_reducible exact LeO.none _)
      | (with_reducible refine LeO.ite ?_ ?_)
      | (with_reducible refine LeO.bind ?_ (fun _ => ?_))
      | exact ih0 _ _ _ _ _ _ _ _ _ _ _
      | exact geyserlaw08_awake.mono _
      | exact params_Of.mono _ _
      | exact LeO.none _
      | refine LeO.ite ?_ ?_
      | refine LeO.bind ?_ (fun _ => ?_)
set_option maxHeartbeats 8000000 in
set_option maxRecDepth 100000 in
theorem geyserlaw08_ParamsRight.calls (k : Nat) (a0 : Int) (r : Bool) (w : World) (h : geyserlaw08_ParamsRight.f k a0 = some r) :
    Calls Try.prog 5 #[.int .i64 a0] w fun e w' => e = .returned (.bool r) ∧ Below w.heap.size w w' := by
  have hu32 := Try.underlying32
  have hu23 := Try.underlying23
  have HB := Aside0.mk (Below.refl w.heap.size w)
  have H : ((params_Of.f k (wrap64 (1 + (wrap64 (Int.tmod (IntKind.u64.wrap (a0)) 127))))).bind fun bt131 => ((params_Of.f k (wrap64 ((wrap64 (1 + (wrap64 (Int.tmod (IntKind.u64.wrap (a0)) 127)))) + 1))).bind fun bt138 => (if bt131.2.2.2.2.2.isNone = true then (if bt138.2.2.2.2.2.isNone = true then (if bt131.2.1 < 3 then (geyserlaw08_ParamsRight.j0 k true bt131.1 bt131.2.1 bt131.2.2.1 bt131.2.2.2.1 bt131.2.2.2.2.1 bt138.1 bt138.2.1 bt138.2.2.1 bt138.2.2.2.1 bt138.2.2.2.2.1) else ((IsPrime.f bt131.2.1).bind fun t147 => (if t147 = true then (if bt131.2.2.2.1 = (wrap64 ((wrap64 (bt131.1 + bt131.2.1)) + bt131.2.2.1)) then (if bt131.2.2.2.2.1 < bt131.2.2.2.1 then (geyserlaw08_ParamsRight.j0 k true bt131.1 bt131.2.1 bt131.2.2.1 bt131.2.2.2.1 bt131.2.2.2.2.1 bt138.1 bt138.2.1 bt138.2.2.1 bt138.2.2.2.1 bt138.2.2.2.2.1) else ((IsPrime.f bt131.2.2.2.2.1).bind fun t148 => (geyserlaw08_ParamsRight.j0 k (!t148) bt131.1 bt131.2.1 bt131.2.2.1 bt131.2.2.2.1 bt131.2.2.2.2.1 bt138.1 bt138.2.1 bt138.2.2.1 bt138.2.2.2.1 bt138.2.2.2.2.1))) else (geyserlaw08_ParamsRight.j0 k true bt131.1 bt131.2.1 bt131.2.2.1 bt131.2.2.2.1 bt131.2.2.2.2.1 bt138.1 bt138.2.1 bt138.2.2.1 bt138.2.2.2.1 bt138.2.2.2.2.1)) else (geyserlaw08_ParamsRight.j0 k true bt131.1 bt131.2.1 bt131.2.2.1 bt131.2.2.2.1 bt131.2.2.2.2.1 bt138.1 bt138.2.1 bt138.2.2.1 bt138.2.2.2.1 bt138.2.2.2.2.1)))) else (geyserlaw08_ParamsRight.j0 k true bt131.1 bt131.2.1 bt131.2.2.1 bt131.2.2.2.1 bt131.2.2.2.2.1 bt138.1 bt138.2.1 bt138.2.2.1 bt138.2.2.2.1 bt138.2.2.2.2.1)) else (geyserlaw08_ParamsRight.j0 k true bt131.1 bt131.2.1 bt131.2.2.1 bt131.2.2.2.1 bt131.2.2.2.2.1 bt138.1 bt138.2.1 bt138.2.2.1 bt138.2.2.2.1 bt138.2.2.2.2.1)))) = some r := h
  clear h
  replace H := Option.bind_eq_some_iff.mp H
  obtain ⟨⟨t131, t132, t133, t134, t135, t136⟩, A20, H⟩ := H
  replace H : ((params_Of.f k (wrap64 ((wrap64 (1 + (wrap64 (Int.tmod (IntKind.u64.wrap (a0)) 127)))) + 1))).bind fun bt138 => (if t136.isNone = true then (if bt138.2.2.2.2.2.isNone = true then (if t132 < 3 then (geyserlaw08_ParamsRight.j0 k true t131 t132 t133 t134 t135 bt138.1 bt138.2.1 bt138.2.2.1 bt138.2.2.2.1 bt138.2.2.2.2.1) else ((IsPrime.f t132).bind fun t147 => (if t147 = true then (if t134 = (wrap64 ((wrap64 (t131 + t132)) + t133)) then (if t135 < t134 then (geyserlaw08_ParamsRight.j0 k true t131 t132 t133 t134 t135 bt138.1 bt138.2.1 bt138.2.2.1 bt138.2.2.2.1 bt138.2.2.2.2.1) else ((IsPrime.f t135).bind fun t148 => (geyserlaw08_ParamsRight.j0 k (!t148) t131 t132 t133 t134 t135 bt138.1 bt138.2.1 bt138.2.2.1 bt138.2.2.2.1 bt138.2.2.2.2.1))) else (geyserlaw08_ParamsRight.j0 k true t131 t132 t133 t134 t135 bt138.1 bt138.2.1 bt138.2.2.1 bt138.2.2.2.1 bt138.2.2.2.2.1)) else (geyserlaw08_ParamsRight.j0 k true t131 t132 t133 t134 t135 bt138.1 bt138.2.1 bt138.2.2.1 bt138.2.2.2.1 bt138.2.2.2.2.1)))) else (geyserlaw08_ParamsRight.j0 k true t131 t132 t133 t134 t135 bt138.1 bt138.2.1 bt138.2.2.1 bt138.2.2.2.1 bt138.2.2.2.2.1)) else (geyserlaw08_ParamsRight.j0 k true t131 t132 t133 t134 t135 bt138.1 bt138.2.1 bt138.2.2.1 bt138.2.2.2.1 bt138.2.2.2.2.1))) = some r := H
  have A2 := Aside0.mk A20
  clear A20
  replace H := Option.bind_eq_some_iff.mp H
  obtain ⟨⟨t138, t139, t140, t141, t142, t143⟩, A30, H⟩ := H
  replace H : (if t136.isNone = true then (if t143.isNone = true then (if t132 < 3 then (geyserlaw08_ParamsRight.j0 k true t131 t132 t133 t134 t135 t138 t139 t140 t141 t142) else ((IsPrime.f t132).bind fun t147 => (if t147 = true then (if t134 = (wrap64 ((wrap64 (t131 + t132)) + t133)) then (if t135 < t134 then (geyserlaw08_ParamsRight.j0 k true t131 t132 t133 t134 t135 t138 t139 t140 t141 t142) else ((IsPrime.f t135).bind fun t148 => (geyserlaw08_ParamsRight.j0 k (!t148) t131 t132 t133 t134 t135 t138 t139 t140 t141 t142))) else (geyserlaw08_ParamsRight.j0 k true t131 t132 t133 t134 t135 t138 t139 t140 t141 t142)) else (geyserlaw08_ParamsRight.j0 k true t131 t132 t133 t134 t135 t138 t139 t140 t141 t142)))) else (geyserlaw08_ParamsRight.j0 k true t131 t132 t133 t134 t135 t138 t139 t140 t141 t142)) else (geyserlaw08_ParamsRight.j0 k true t131 t132 t133 t134 t135 t138 t139 t140 t141 t142)) = some r := H
  have A3 := Aside0.mk A30
  clear A30
  have HC4 := Aside0.mk H
  clear H
  go_enter Try.func5, Try.ntmps5
  go_upto_region 4 with (first | ((with_reducible refine gate_callee (f := 10) rfl ?_); refine goesL_ (some 18) rfl rfl Try.func10 (by kernel_rfl) rfl #[.int .i64 (wrap64 (1 + (wrap64 (Int.tmod (IntKind.u64.wrap (a0)) 127))))] rfl (by (try simp only [List.map_toArray, List.map_cons, List.map_nil]); first | done | rfl | (simp only [List.length_drop, List.length_take]; rfl)) ?_; (with_reducible refine (params_Of.calls k (wrap64 (1 + (wrap64 (Int.tmod (IntKind.u64.wrap (a0)) 127)))) t131 t132 t133 t134 t135 t136 _ A2.out).mono ?_); rintro e w5 ⟨ev_t136, rfl, he0, hb⟩; refine ⟨_, rfl, ?_⟩; have n0_ := Aside0.mk (below_step (by repeat (first | (with_reducible first | exact HB.out | apply below_alloc | apply pw_below_drewN | apply below_drew1) | exact HB.out)) hb); clear HB; have HB := n0_; clear n0_; (try clear hb); (try clear hb2); (try clear hk); (try clear hi); have HE_t136 := Aside0.mk he0; clear he0) | ((with_reducible refine gate_dst (N := 3) rfl ?_); refine box_event ?hg (N := 3) ?hd (cs := #[.int .i64 0, .int .i64 0, .int .i64 0, .int .i64 0, .int .i64 0]) (t := 32) ?hr ?_; (case hd => rfl); (case hg => rfl); (case hr => first | (go_simp; done) | (go_simp; rfl)); intro gb137 hg w6 hbox hb; (try (have nE_ := Aside0.mk (ErR_below hb (by repeat (first | (with_reducible exact HE_t136.out) | (with_reducible apply ErR_drew) | (with_reducible apply ErR_drewN) | (with_reducible apply ErR_alloc) | (with_reducible refine ErR_set (by repeat (first | (with_reducible refine NF_blk (Aside0.out (by assumption)) (by decide)) | (with_reducible apply NF_set) | (with_reducible apply NF_drew) | (with_reducible apply NF_drewN) | (with_reducible apply NF_alloc))) ?_) | exact HE_t136.out | apply ErR_drew | apply ErR_drewN | apply ErR_alloc))); clear HE_t136; have HE_t136 := nE_; clear nE_)); have n0_ := Aside0.mk (below_step (by repeat (first | (with_reducible first | exact HB.out | apply below_alloc | apply pw_below_drewN | apply below_drew1) | exact HB.out)) hb); have n1_ := Aside0.mk (hbox); have n2_ := Aside0.mk ((by rw [hg]; exact (below_size (by repeat (first | (with_reducible first | exact HB.out | apply below_alloc | apply pw_below_drewN | apply below_drew1) | exact HB.out))) : w.heap.size ≤ gb137)); have n3_ := Aside0.mk ((by rw [hg]; exact (below_size (by repeat (first | (with_reducible first | exact HB.out | apply below_alloc | apply pw_below_drewN | apply below_drew1) | exact HB.out))) : w.heap.size ≤ gb137)); clear HB; have HB := n0_; have BK137 := n1_; have GW137 := n2_; have GE137 := n3_; clear n0_ n1_ n2_ n3_; clear hb hbox hg; have hcz7_0 : w6.cell? ⟨gb137, 0, none⟩ = some (.int .i64 0) := (blk_cell BK137.out 0).trans rfl; have hcz7_1 : w6.cell? ⟨gb137, 1, none⟩ = some (.int .i64 0) := (blk_cell BK137.out 1).trans rfl; have hcz7_2 : w6.cell? ⟨gb137, 2, none⟩ = some (.int .i64 0) := (blk_cell BK137.out 2).trans rfl; have hcz7_3 : w6.cell? ⟨gb137, 3, none⟩ = some (.int .i64 0) := (blk_cell BK137.out 3).trans rfl; have hcz7_4 : w6.cell? ⟨gb137, 4, none⟩ = some (.int .i64 0) := (blk_cell BK137.out 4).trans rfl; have hfz7_0 := blk_frozen BK137.out 0; have hfz7_1 := blk_frozen BK137.out 1; have hfz7_2 := blk_frozen BK137.out 2; have hfz7_3 := blk_frozen BK137.out 3; have hfz7_4 := blk_frozen BK137.out 4) | ((with_reducible refine gate_callee (f := 10) rfl ?_); refine goesL_ (some 24) rfl rfl Try.func10 (by kernel_rfl) rfl #[.int .i64 (wrap64 ((wrap64 (1 + (wrap64 (Int.tmod (IntKind.u64.wrap (a0)) 127)))) + 1))] rfl (by (try simp only [List.map_toArray, List.map_cons, List.map_nil]); first | done | rfl | (simp only [List.length_drop, List.length_take]; rfl)) ?_; (with_reducible refine (params_Of.calls k (wrap64 ((wrap64 (1 + (wrap64 (Int.tmod (IntKind.u64.wrap (a0)) 127)))) + 1)) t138 t139 t140 t141 t142 t143 _ A3.out).mono ?_); rintro e w8 ⟨ev_t143, rfl, he0, hb⟩; refine ⟨_, rfl, ?_⟩; (try (have nE_ := Aside0.mk (ErR_below hb (by repeat (first | (with_reducible exact HE_t136.out) | (with_reducible apply ErR_drew) | (with_reducible apply ErR_drewN) | (with_reducible apply ErR_alloc) | (with_reducible refine ErR_set (by repeat (first | (with_reducible refine NF_blk (Aside0.out (by assumption)) (by decide)) | (with_reducible apply NF_set) | (with_reducible apply NF_drew) | (with_reducible apply NF_drewN) | (with_reducible apply NF_alloc))) ?_) | exact HE_t136.out | apply ErR_drew | apply ErR_drewN | apply ErR_alloc))); clear HE_t136; have HE_t136 := nE_; clear nE_)); have n0_ := Aside0.mk (blk_below (g := gb137) (o := .cells #[.int .i64 t131, .int .i64 t132, .int .i64 t133, .int .i64 t134, .int .i64 t135] 32 (0, 0)) (by (with_reducible repeat (first | refine blk_drewN ?_ _ | refine blk_drew ?_ | refine blk_alloc ?_ _)); refine blk_put (cs := #[.int .i64 t131, .int .i64 t132, .int .i64 t133, .int .i64 t134, .int .i64 0]) ?_ 4 _ rfl; (with_reducible repeat (first | refine blk_drewN ?_ _ | refine blk_drew ?_ | refine blk_alloc ?_ _)); refine blk_put (cs := #[.int .i64 t131, .int .i64 t132, .int .i64 t133, .int .i64 0, .int .i64 0]) ?_ 3 _ rfl; (with_reducible repeat (first | refine blk_drewN ?_ _ | refine blk_drew ?_ | refine blk_alloc ?_ _)); refine blk_put (cs := #[.int .i64 t131, .int .i64 t132, .int .i64 0, .int .i64 0, .int .i64 0]) ?_ 2 _ rfl; (with_reducible repeat (first | refine blk_drewN ?_ _ | refine blk_drew ?_ | refine blk_alloc ?_ _)); refine blk_put (cs := #[.int .i64 t131, .int .i64 0, .int .i64 0, .int .i64 0, .int .i64 0]) ?_ 1 _ rfl; (with_reducible repeat (first | refine blk_drewN ?_ _ | refine blk_drew ?_ | refine blk_alloc ?_ _)); refine blk_put (cs := #[.int .i64 0, .int .i64 0, .int .i64 0, .int .i64 0, .int .i64 0]) ?_ 0 _ rfl; (with_reducible repeat (first | refine blk_drewN ?_ _ | refine blk_drew ?_ | refine blk_alloc ?_ _)); exact BK137.out) hb); have n1_ := Aside0.mk (below_step (by repeat (first | (with_reducible first | exact HB.out | apply below_alloc | apply pw_below_drewN | apply below_drew1 | refine below_set ?_ GE137.out) | exact HB.out)) hb); clear BK137; clear HB; have BK137 := n0_; have HB := n1_; clear n0_ n1_; (try clear hb); (try clear hb2); (try clear hk); (try clear hi); have HE_t143 := Aside0.mk he0; clear he0) | ((with_reducible refine gate_dst (N := 5) rfl ?_); refine box_event ?hg (N := 5) ?hd (cs := #[.int .i64 0, .int .i64 0, .int .i64 0, .int .i64 0, .int .i64 0]) (t := 32) ?hr ?_; (case hd => rfl); (case hg => rfl); (case hr => first | (go_simp; done) | (go_simp; rfl)); intro gb144 hg w9 hbox hb; (try (have nE_ := Aside0.mk (ErR_below hb (by repeat (first | (with_reducible exact HE_t136.out) | (with_reducible apply ErR_drew) | (with_reducible apply ErR_drewN) | (with_reducible apply ErR_alloc) | (with_reducible refine ErR_set (by repeat (first | (with_reducible refine NF_blk (Aside0.out (by assumption)) (by decide)) | (with_reducible apply NF_set) | (with_reducible apply NF_drew) | (with_reducible apply NF_drewN) | (with_reducible apply NF_alloc))) ?_) | exact HE_t136.out | apply ErR_drew | apply ErR_drewN | apply ErR_alloc))); clear HE_t136; have HE_t136 := nE_; clear nE_)); (try (have nE_ := Aside0.mk (ErR_below hb (by repeat (first | (with_reducible exact HE_t143.out) | (with_reducible apply ErR_drew) | (with_reducible apply ErR_drewN) | (with_reducible apply ErR_alloc) | (with_reducible refine ErR_set (by repeat (first | (with_reducible refine NF_blk (Aside0.out (by assumption)) (by decide)) | (with_reducible apply NF_set) | (with_reducible apply NF_drew) | (with_reducible apply NF_drewN) | (with_reducible apply NF_alloc))) ?_) | exact HE_t143.out | apply ErR_drew | apply ErR_drewN | apply ErR_alloc))); clear HE_t143; have HE_t143 := nE_; clear nE_)); have n0_ := Aside0.mk (blk_below (g := gb137) (o := .cells #[.int .i64 t131, .int .i64 t132, .int .i64 t133, .int .i64 t134, .int .i64 t135] 32 (0, 0)) (by (with_reducible repeat (first | refine blk_drewN ?_ _ | refine blk_drew ?_ | refine blk_alloc ?_ _)); exact BK137.out) hb); have n1_ := Aside0.mk (below_step (by repeat (first | (with_reducible first | exact HB.out | apply below_alloc | apply pw_below_drewN | apply below_drew1 | refine below_set ?_ GE137.out) | exact HB.out)) hb); have n2_ := Aside0.mk (hbox); have n3_ := Aside0.mk ((by rw [hg]; exact (below_size (by repeat (first | (with_reducible first | exact HB.out | apply below_alloc | apply pw_below_drewN | apply below_drew1 | refine below_set ?_ GE137.out) | exact HB.out))) : w.heap.size ≤ gb144)); have n4_ := Aside0.mk ((by rw [hg]; exact (below_size (by repeat (first | (with_reducible first | exact HB.out | apply below_alloc | apply pw_below_drewN | apply below_drew1 | refine below_set ?_ GE137.out) | exact HB.out))) : w.heap.size ≤ gb144)); have n5_ := Aside0.mk ((by rw [hg]; exact Nat.ne_of_lt (blk_lt (g := gb137) (o := .cells #[.int .i64 t131, .int .i64 t132, .int .i64 t133, .int .i64 t134, .int .i64 t135] 32 (0, 0)) (by (with_reducible repeat (first | refine blk_drewN ?_ _ | refine blk_drew ?_ | refine blk_alloc ?_ _)); exact BK137.out)) : gb137 ≠ gb144)); have n6_ := Aside0.mk ((by rw [hg]; exact Nat.ne_of_gt (blk_lt (g := gb137) (o := .cells #[.int .i64 t131, .int .i64 t132, .int .i64 t133, .int .i64 t134, .int .i64 t135] 32 (0, 0)) (by (with_reducible repeat (first | refine blk_drewN ?_ _ | refine blk_drew ?_ | refine blk_alloc ?_ _)); exact BK137.out)) : gb144 ≠ gb137)); clear BK137; clear HB; have BK137 := n0_; have HB := n1_; have BK144 := n2_; have GW144 := n3_; have GE144 := n4_; have NB137_144 := n5_; have NB144_137 := n6_; clear n0_ n1_ n2_ n3_ n4_ n5_ n6_; clear hb hbox hg; have hnb10 := NB144_137.out; have hnc10 := NB137_144.out; have hcz11_0 : w9.cell? ⟨gb144, 0, none⟩ = some (.int .i64 0) := (blk_cell BK144.out 0).trans rfl; have hcz11_1 : w9.cell? ⟨gb144, 1, none⟩ = some (.int .i64 0) := (blk_cell BK144.out 1).trans rfl; have hcz11_2 : w9.cell? ⟨gb144, 2, none⟩ = some (.int .i64 0) := (blk_cell BK144.out 2).trans rfl; have hcz11_3 : w9.cell? ⟨gb144, 3, none⟩ = some (.int .i64 0) := (blk_cell BK144.out 3).trans rfl; have hcz11_4 : w9.cell? ⟨gb144, 4, none⟩ = some (.int .i64 0) := (blk_cell BK144.out 4).trans rfl; have hfz11_0 := blk_frozen BK144.out 0; have hfz11_1 := blk_frozen BK144.out 1; have hfz11_2 := blk_frozen BK144.out 2; have hfz11_3 := blk_frozen BK144.out 3; have hfz11_4 := blk_frozen BK144.out 4))
  (try simp only [Act.put, List.setIfInBounds_toArray, List.set_cons_zero, List.set_cons_succ])
  go_cut [69] (fun v69 wc => ∃ (kq : Nat) (x69_3 : Bool), v69 = .bool x69_3 ∧ Aside0 (geyserlaw08_ParamsRight.j0 kq x69_3 t131 t132 t133 t134 t135 t138 t139 t140 t141 t142 = some r) ∧ Aside0 (kq ≤ k) ∧ Aside0 (wc.heap[gb137]? = some (.cells #[.int .i64 t131, .int .i64 t132, .int .i64 t133, .int .i64 t134, .int .i64 t135] 32 (0, 0))) ∧ Aside0 (wc.heap[gb144]? = some (.cells #[.int .i64 t138, .int .i64 t139, .int .i64 t140, .int .i64 t141, .int .i64 t142] 32 (0, 0))) ∧ Aside0 (Below w.heap.size w wc))
  case first =>
    have H := HC4.out
    clear HC4
    rcases t136 with _ | q145
    · have H1 : (if t143.isNone = true then (if t132 < 3 then (geyserlaw08_ParamsRight.j0 k true t131 t132 t133 t134 t135 t138 t139 t140 t141 t142) else ((IsPrime.f t132).bind fun t147 => (if t147 = true then (if t134 = (wrap64 ((wrap64 (t131 + t132)) + t133)) then (if t135 < t134 then (geyserlaw08_ParamsRight.j0 k true t131 t132 t133 t134 t135 t138 t139 t140 t141 t142) else ((IsPrime.f t135).bind fun t148 => (geyserlaw08_ParamsRight.j0 k (!t148) t131 t132 t133 t134 t135 t138 t139 t140 t141 t142))) else (geyserlaw08_ParamsRight.j0 k true t131 t132 t133 t134 t135 t138 t139 t140 t141 t142)) else (geyserlaw08_ParamsRight.j0 k true t131 t132 t133 t134 t135 t138 t139 t140 t141 t142)))) else (geyserlaw08_ParamsRight.j0 k true t131 t132 t133 t134 t135 t138 t139 t140 t141 t142)) = some r := by rw [if_pos (show (none : Option Er).isNone = true by rfl)] at H; exact H
      clear H
      have H := H1
      clear H1
      try simp only [errW_none, errW_some]
      (try (obtain rfl := ErR_nil HE_t136.out; clear HE_t136))
      rcases t143 with _ | q146
      · have H1 : (if t132 < 3 then (geyserlaw08_ParamsRight.j0 k true t131 t132 t133 t134 t135 t138 t139 t140 t141 t142) else ((IsPrime.f t132).bind fun t147 => (if t147 = true then (if t134 = (wrap64 ((wrap64 (t131 + t132)) + t133)) then (if t135 < t134 then (geyserlaw08_ParamsRight.j0 k true t131 t132 t133 t134 t135 t138 t139 t140 t141 t142) else ((IsPrime.f t135).bind fun t148 => (geyserlaw08_ParamsRight.j0 k (!t148) t131 t132 t133 t134 t135 t138 t139 t140 t141 t142))) else (geyserlaw08_ParamsRight.j0 k true t131 t132 t133 t134 t135 t138 t139 t140 t141 t142)) else (geyserlaw08_ParamsRight.j0 k true t131 t132 t133 t134 t135 t138 t139 t140 t141 t142)))) = some r := by rw [if_pos (show (none : Option Er).isNone = true by rfl)] at H; exact H
        clear H
        have H := H1
        clear H1
        try simp only [errW_none, errW_some]
        (try (obtain rfl := ErR_nil HE_t143.out; clear HE_t143))
        by_cases c12 : t132 < 3
        · rw [if_pos c12] at H
          have c12b0 : decide (t132 < 3) = true := decide_eq_true c12
          clear c12
          (first | rw [c12b0] | (simp only [i64_w, i32_w]; rw [c12b0]) | skip)
          have H' := Aside0.mk H
          clear H
          have hnb13 := NB137_144.out
          have hnc13 := NB144_137.out
          have hcz14_0 : w9.cell? ⟨gb137, 0, none⟩ = some (.int .i64 t131) := (blk_cell BK137.out 0).trans rfl
          have hcz14_1 : w9.cell? ⟨gb137, 1, none⟩ = some (.int .i64 t132) := (blk_cell BK137.out 1).trans rfl
          have hcz14_2 : w9.cell? ⟨gb137, 2, none⟩ = some (.int .i64 t133) := (blk_cell BK137.out 2).trans rfl
          have hcz14_3 : w9.cell? ⟨gb137, 3, none⟩ = some (.int .i64 t134) := (blk_cell BK137.out 3).trans rfl
          have hcz14_4 : w9.cell? ⟨gb137, 4, none⟩ = some (.int .i64 t135) := (blk_cell BK137.out 4).trans rfl
          have hfz14_0 := blk_frozen BK137.out 0
          have hfz14_1 := blk_frozen BK137.out 1
          have hfz14_2 := blk_frozen BK137.out 2
          have hfz14_3 := blk_frozen BK137.out 3
          have hfz14_4 := blk_frozen BK137.out 4
          go_wp2
          go_meet
          case rel => exact ⟨_, (true), (by first | rfl | (simp; done) | (simp [*]; done)), H', ⟨by first | omega | exact Nat.le_refl _⟩, ⟨by (with_reducible repeat (first | refine blk_drewN ?_ _ | refine blk_drew ?_ | refine blk_alloc ?_ _)); refine blk_far ?_ NB137_144.out _; (with_reducible repeat (first | refine blk_drewN ?_ _ | refine blk_drew ?_ | refine blk_alloc ?_ _)); refine blk_far ?_ NB137_144.out _; (with_reducible repeat (first | refine blk_drewN ?_ _ | refine blk_drew ?_ | refine blk_alloc ?_ _)); refine blk_far ?_ NB137_144.out _; (with_reducible repeat (first | refine blk_drewN ?_ _ | refine blk_drew ?_ | refine blk_alloc ?_ _)); refine blk_far ?_ NB137_144.out _; (with_reducible repeat (first | refine blk_drewN ?_ _ | refine blk_drew ?_ | refine blk_alloc ?_ _)); refine blk_far ?_ NB137_144.out _; (with_reducible repeat (first | refine blk_drewN ?_ _ | refine blk_drew ?_ | refine blk_alloc ?_ _)); exact BK137.out⟩, ⟨by (with_reducible repeat (first | refine blk_drewN ?_ _ | refine blk_drew ?_ | refine blk_alloc ?_ _)); refine blk_put (cs := #[.int .i64 t138, .int .i64 t139, .int .i64 t140, .int .i64 t141, .int .i64 0]) ?_ 4 _ rfl; (with_reducible repeat (first | refine blk_drewN ?_ _ | refine blk_drew ?_ | refine blk_alloc ?_ _)); refine blk_put (cs := #[.int .i64 t138, .int .i64 t139, .int .i64 t140, .int .i64 0, .int .i64 0]) ?_ 3 _ rfl; (with_reducible repeat (first | refine blk_drewN ?_ _ | refine blk_drew ?_ | refine blk_alloc ?_ _)); refine blk_put (cs := #[.int .i64 t138, .int .i64 t139, .int .i64 0, .int .i64 0, .int .i64 0]) ?_ 2 _ rfl; (with_reducible repeat (first | refine blk_drewN ?_ _ | refine blk_drew ?_ | refine blk_alloc ?_ _)); refine blk_put (cs := #[.int .i64 t138, .int .i64 0, .int .i64 0, .int .i64 0, .int .i64 0]) ?_ 1 _ rfl; (with_reducible repeat (first | refine blk_drewN ?_ _ | refine blk_drew ?_ | refine blk_alloc ?_ _)); refine blk_put (cs := #[.int .i64 0, .int .i64 0, .int .i64 0, .int .i64 0, .int .i64 0]) ?_ 0 _ rfl; (with_reducible repeat (first | refine blk_drewN ?_ _ | refine blk_drew ?_ | refine blk_alloc ?_ _)); exact BK144.out⟩, ⟨by repeat (first | (with_reducible first | exact HB.out | apply below_alloc | apply pw_below_drewN | apply below_drew1 | refine below_set ?_ GE137.out | refine below_set ?_ GE144.out) | exact HB.out)⟩⟩
        · rw [if_neg c12] at H
          have c12b0 : decide (t132 < 3) = false := decide_eq_false c12
          clear c12
          (first | rw [c12b0] | (simp only [i64_w, i32_w]; rw [c12b0]) | skip)
          replace H := Option.bind_eq_some_iff.mp H
          obtain ⟨t147, A150, H⟩ := H
          replace H : (if t147 = true then (if t134 = (wrap64 ((wrap64 (t131 + t132)) + t133)) then (if t135 < t134 then (geyserlaw08_ParamsRight.j0 k true t131 t132 t133 t134 t135 t138 t139 t140 t141 t142) else ((IsPrime.f t135).bind fun t148 => (geyserlaw08_ParamsRight.j0 k (!t148) t131 t132 t133 t134 t135 t138 t139 t140 t141 t142))) else (geyserlaw08_ParamsRight.j0 k true t131 t132 t133 t134 t135 t138 t139 t140 t141 t142)) else (geyserlaw08_ParamsRight.j0 k true t131 t132 t133 t134 t135 t138 t139 t140 t141 t142)) = some r := H
          have A15 := Aside0.mk A150
          clear A150
          by_cases c16 : t147 = true
          · subst c16
            have H1 : (if t134 = (wrap64 ((wrap64 (t131 + t132)) + t133)) then (if t135 < t134 then (geyserlaw08_ParamsRight.j0 k true t131 t132 t133 t134 t135 t138 t139 t140 t141 t142) else ((IsPrime.f t135).bind fun t148 => (geyserlaw08_ParamsRight.j0 k (!t148) t131 t132 t133 t134 t135 t138 t139 t140 t141 t142))) else (geyserlaw08_ParamsRight.j0 k true t131 t132 t133 t134 t135 t138 t139 t140 t141 t142)) = some r := by rw [if_pos rfl] at H; exact H
            clear H
            have H := H1
            clear H1
            by_cases c17 : t134 = (wrap64 ((wrap64 (t131 + t132)) + t133))
            · rw [if_pos c17] at H
              have c17b0 : (t134 == (wrap64 ((wrap64 (t131 + t132)) + t133))) = true := beq_iff_eq.mpr c17
              have c17b1 : (t134 != (wrap64 ((wrap64 (t131 + t132)) + t133))) = false := bne_eq_false_iff_eq.mpr c17
              clear c17
              by_cases c18 : t135 < t134
              · rw [if_pos c18] at H
                have c18b0 : decide (t135 < t134) = true := decide_eq_true c18
                clear c18
                have H' := Aside0.mk H
                clear H
                have hnb19 := NB137_144.out
                have hnc19 := NB144_137.out
                have hcz20_0 : w9.cell? ⟨gb137, 0, none⟩ = some (.int .i64 t131) := (blk_cell BK137.out 0).trans rfl
                have hcz20_1 : w9.cell? ⟨gb137, 1, none⟩ = some (.int .i64 t132) := (blk_cell BK137.out 1).trans rfl
                have hcz20_2 : w9.cell? ⟨gb137, 2, none⟩ = some (.int .i64 t133) := (blk_cell BK137.out 2).trans rfl
                have hcz20_3 : w9.cell? ⟨gb137, 3, none⟩ = some (.int .i64 t134) := (blk_cell BK137.out 3).trans rfl
                have hcz20_4 : w9.cell? ⟨gb137, 4, none⟩ = some (.int .i64 t135) := (blk_cell BK137.out 4).trans rfl
                have hfz20_0 := blk_frozen BK137.out 0
                have hfz20_1 := blk_frozen BK137.out 1
                have hfz20_2 := blk_frozen BK137.out 2
                have hfz20_3 := blk_frozen BK137.out 3
                have hfz20_4 := blk_frozen BK137.out 4
                go_wp2_with (first | (go_at_call 8; (with_reducible refine (IsPrime.calls t132 true _ A15.out).mono ?_); rintro e w' ⟨rfl, ⟨nd, rfl⟩⟩))
                go_meet
                case rel => exact ⟨_, (true), (by first | rfl | (simp; done) | (simp [*]; done)), H', ⟨by first | omega | exact Nat.le_refl _⟩, ⟨by (with_reducible repeat (first | refine blk_drewN ?_ _ | refine blk_drew ?_ | refine blk_alloc ?_ _)); refine blk_far ?_ NB137_144.out _; (with_reducible repeat (first | refine blk_drewN ?_ _ | refine blk_drew ?_ | refine blk_alloc ?_ _)); refine blk_far ?_ NB137_144.out _; (with_reducible repeat (first | refine blk_drewN ?_ _ | refine blk_drew ?_ | refine blk_alloc ?_ _)); refine blk_far ?_ NB137_144.out _; (with_reducible repeat (first | refine blk_drewN ?_ _ | refine blk_drew ?_ | refine blk_alloc ?_ _)); refine blk_far ?_ NB137_144.out _; (with_reducible repeat (first | refine blk_drewN ?_ _ | refine blk_drew ?_ | refine blk_alloc ?_ _)); refine blk_far ?_ NB137_144.out _; (with_reducible repeat (first | refine blk_drewN ?_ _ | refine blk_drew ?_ | refine blk_alloc ?_ _)); exact BK137.out⟩, ⟨by (with_reducible repeat (first | refine blk_drewN ?_ _ | refine blk_drew ?_ | refine blk_alloc ?_ _)); refine blk_put (cs := #[.int .i64 t138, .int .i64 t139, .int .i64 t140, .int .i64 t141, .int .i64 0]) ?_ 4 _ rfl; (with_reducible repeat (first | refine blk_drewN ?_ _ | refine blk_drew ?_ | refine blk_alloc ?_ _)); refine blk_put (cs := #[.int .i64 t138, .int .i64 t139, .int .i64 t140, .int .i64 0, .int .i64 0]) ?_ 3 _ rfl; (with_reducible repeat (first | refine blk_drewN ?_ _ | refine blk_drew ?_ | refine blk_alloc ?_ _)); refine blk_put (cs := #[.int .i64 t138, .int .i64 t139, .int .i64 0, .int .i64 0, .int .i64 0]) ?_ 2 _ rfl; (with_reducible repeat (first | refine blk_drewN ?_ _ | refine blk_drew ?_ | refine blk_alloc ?_ _)); refine blk_put (cs := #[.int .i64 t138, .int .i64 0, .int .i64 0, .int .i64 0, .int .i64 0]) ?_ 1 _ rfl; (with_reducible repeat (first | refine blk_drewN ?_ _ | refine blk_drew ?_ | refine blk_alloc ?_ _)); refine blk_put (cs := #[.int .i64 0, .int .i64 0, .int .i64 0, .int .i64 0, .int .i64 0]) ?_ 0 _ rfl; (with_reducible repeat (first | refine blk_drewN ?_ _ | refine blk_drew ?_ | refine blk_alloc ?_ _)); exact BK144.out⟩, ⟨by repeat (first | (with_reducible first | exact HB.out | apply below_alloc | apply pw_below_drewN | apply below_drew1 | refine below_set ?_ GE137.out | refine below_set ?_ GE144.out) | exact HB.out)⟩⟩
              · rw [if_neg c18] at H
                have c18b0 : decide (t135 < t134) = false := decide_eq_false c18
                clear c18
                replace H := Option.bind_eq_some_iff.mp H
                obtain ⟨t148, A210, H⟩ := H
                replace H : (geyserlaw08_ParamsRight.j0 k (!t148) t131 t132 t133 t134 t135 t138 t139 t140 t141 t142) = some r := H
                have A21 := Aside0.mk A210
                clear A210
                have H' := Aside0.mk H
                clear H
                have hnb22 := NB137_144.out
                have hnc22 := NB144_137.out
                have hcz23_0 : w9.cell? ⟨gb137, 0, none⟩ = some (.int .i64 t131) := (blk_cell BK137.out 0).trans rfl
                have hcz23_1 : w9.cell? ⟨gb137, 1, none⟩ = some (.int .i64 t132) := (blk_cell BK137.out 1).trans rfl
                have hcz23_2 : w9.cell? ⟨gb137, 2, none⟩ = some (.int .i64 t133) := (blk_cell BK137.out 2).trans rfl
                have hcz23_3 : w9.cell? ⟨gb137, 3, none⟩ = some (.int .i64 t134) := (blk_cell BK137.out 3).trans rfl
                have hcz23_4 : w9.cell? ⟨gb137, 4, none⟩ = some (.int .i64 t135) := (blk_cell BK137.out 4).trans rfl
                have hfz23_0 := blk_frozen BK137.out 0
                have hfz23_1 := blk_frozen BK137.out 1
                have hfz23_2 := blk_frozen BK137.out 2
                have hfz23_3 := blk_frozen BK137.out 3
                have hfz23_4 := blk_frozen BK137.out 4
                go_wp2_with (first | (go_at_call 8; (with_reducible refine (IsPrime.calls t132 true _ A15.out).mono ?_); rintro e w' ⟨rfl, ⟨nd, rfl⟩⟩) | (go_at_call 8; (with_reducible refine (IsPrime.calls t135 t148 _ A21.out).mono ?_); rintro e w' ⟨rfl, ⟨nd, rfl⟩⟩))
                go_meet
                case rel => exact ⟨_, (!t148), (by first | rfl | (simp; done) | (simp [*]; done)), H', ⟨by first | omega | exact Nat.le_refl _⟩, ⟨by (with_reducible repeat (first | refine blk_drewN ?_ _ | refine blk_drew ?_ | refine blk_alloc ?_ _)); refine blk_far ?_ NB137_144.out _; (with_reducible repeat (first | refine blk_drewN ?_ _ | refine blk_drew ?_ | refine blk_alloc ?_ _)); refine blk_far ?_ NB137_144.out _; (with_reducible repeat (first | refine blk_drewN ?_ _ | refine blk_drew ?_ | refine blk_alloc ?_ _)); refine blk_far ?_ NB137_144.out _; (with_reducible repeat (first | refine blk_drewN ?_ _ | refine blk_drew ?_ | refine blk_alloc ?_ _)); refine blk_far ?_ NB137_144.out _; (with_reducible repeat (first | refine blk_drewN ?_ _ | refine blk_drew ?_ | refine blk_alloc ?_ _)); refine blk_far ?_ NB137_144.out _; (with_reducible repeat (first | refine blk_drewN ?_ _ | refine blk_drew ?_ | refine blk_alloc ?_ _)); exact BK137.out⟩, ⟨by (with_reducible repeat (first | refine blk_drewN ?_ _ | refine blk_drew ?_ | refine blk_alloc ?_ _)); refine blk_put (cs := #[.int .i64 t138, .int .i64 t139, .int .i64 t140, .int .i64 t141, .int .i64 0]) ?_ 4 _ rfl; (with_reducible repeat (first | refine blk_drewN ?_ _ | refine blk_drew ?_ | refine blk_alloc ?_ _)); refine blk_put (cs := #[.int .i64 t138, .int .i64 t139, .int .i64 t140, .int .i64 0, .int .i64 0]) ?_ 3 _ rfl; (with_reducible repeat (first | refine blk_drewN ?_ _ | refine blk_drew ?_ | refine blk_alloc ?_ _)); refine blk_put (cs := #[.int .i64 t138, .int .i64 t139, .int .i64 0, .int .i64 0, .int .i64 0]) ?_ 2 _ rfl; (with_reducible repeat (first | refine blk_drewN ?_ _ | refine blk_drew ?_ | refine blk_alloc ?_ _)); refine blk_put (cs := #[.int .i64 t138, .int .i64 0, .int .i64 0, .int .i64 0, .int .i64 0]) ?_ 1 _ rfl; (with_reducible repeat (first | refine blk_drewN ?_ _ | refine blk_drew ?_ | refine blk_alloc ?_ _)); refine blk_put (cs := #[.int .i64 0, .int .i64 0, .int .i64 0, .int .i64 0, .int .i64 0]) ?_ 0 _ rfl; (with_reducible repeat (first | refine blk_drewN ?_ _ | refine blk_drew ?_ | refine blk_alloc ?_ _)); exact BK144.out⟩, ⟨by repeat (first | (with_reducible first | exact HB.out | apply below_alloc | apply pw_below_drewN | apply below_drew1 | refine below_set ?_ GE137.out | refine below_set ?_ GE144.out) | exact HB.out)⟩⟩
            · rw [if_neg c17] at H
              have c17b0 : (t134 == (wrap64 ((wrap64 (t131 + t132)) + t133))) = false := beq_eq_false_iff_ne.mpr c17
              have c17b1 : (t134 != (wrap64 ((wrap64 (t131 + t132)) + t133))) = true := bne_iff_ne.mpr c17
              have H' := Aside0.mk H
              clear H
              have hnb24 := NB137_144.out
              have hnc24 := NB144_137.out
              have hcz25_0 : w9.cell? ⟨gb137, 0, none⟩ = some (.int .i64 t131) := (blk_cell BK137.out 0).trans rfl
              have hcz25_1 : w9.cell? ⟨gb137, 1, none⟩ = some (.int .i64 t132) := (blk_cell BK137.out 1).trans rfl
              have hcz25_2 : w9.cell? ⟨gb137, 2, none⟩ = some (.int .i64 t133) := (blk_cell BK137.out 2).trans rfl
              have hcz25_3 : w9.cell? ⟨gb137, 3, none⟩ = some (.int .i64 t134) := (blk_cell BK137.out 3).trans rfl
              have hcz25_4 : w9.cell? ⟨gb137, 4, none⟩ = some (.int .i64 t135) := (blk_cell BK137.out 4).trans rfl
              have hfz25_0 := blk_frozen BK137.out 0
              have hfz25_1 := blk_frozen BK137.out 1
              have hfz25_2 := blk_frozen BK137.out 2
              have hfz25_3 := blk_frozen BK137.out 3
              have hfz25_4 := blk_frozen BK137.out 4
              go_wp2_with (first | (go_at_call 8; (with_reducible refine (IsPrime.calls t132 true _ A15.out).mono ?_); rintro e w' ⟨rfl, ⟨nd, rfl⟩⟩))
              go_meet
              case rel => exact ⟨_, (true), (by first | rfl | (simp; done) | (simp [*]; done)), H', ⟨by first | omega | exact Nat.le_refl _⟩, ⟨by (with_reducible repeat (first | refine blk_drewN ?_ _ | refine blk_drew ?_ | refine blk_alloc ?_ _)); refine blk_far ?_ NB137_144.out _; (with_reducible repeat (first | refine blk_drewN ?_ _ | refine blk_drew ?_ | refine blk_alloc ?_ _)); refine blk_far ?_ NB137_144.out _; (with_reducible repeat (first | refine blk_drewN ?_ _ | refine blk_drew ?_ | refine blk_alloc ?_ _)); refine blk_far ?_ NB137_144.out _; (with_reducible repeat (first | refine blk_drewN ?_ _ | refine blk_drew ?_ | refine blk_alloc ?_ _)); refine blk_far ?_ NB137_144.out _; (with_reducible repeat (first | refine blk_drewN ?_ _ | refine blk_drew ?_ | refine blk_alloc ?_ _)); refine blk_far ?_ NB137_144.out _; (with_reducible repeat (first | refine blk_drewN ?_ _ | refine blk_drew ?_ | refine blk_alloc ?_ _)); exact BK137.out⟩, ⟨by (with_reducible repeat (first | refine blk_drewN ?_ _ | refine blk_drew ?_ | refine blk_alloc ?_ _)); refine blk_put (cs := #[.int .i64 t138, .int .i64 t139, .int .i64 t140, .int .i64 t141, .int .i64 0]) ?_ 4 _ rfl; (with_reducible repeat (first | refine blk_drewN ?_ _ | refine blk_drew ?_ | refine blk_alloc ?_ _)); refine blk_put (cs := #[.int .i64 t138, .int .i64 t139, .int .i64 t140, .int .i64 0, .int .i64 0]) ?_ 3 _ rfl; (with_reducible repeat (first | refine blk_drewN ?_ _ | refine blk_drew ?_ | refine blk_alloc ?_ _)); refine blk_put (cs := #[.int .i64 t138, .int .i64 t139, .int .i64 0, .int .i64 0, .int .i64 0]) ?_ 2 _ rfl; (with_reducible repeat (first | refine blk_drewN ?_ _ | refine blk_drew ?_ | refine blk_alloc ?_ _)); refine blk_put (cs := #[.int .i64 t138, .int .i64 0, .int .i64 0, .int .i64 0, .int .i64 0]) ?_ 1 _ rfl; (with_reducible repeat (first | refine blk_drewN ?_ _ | refine blk_drew ?_ | refine blk_alloc ?_ _)); refine blk_put (cs := #[.int .i64 0, .int .i64 0, .int .i64 0, .int .i64 0, .int .i64 0]) ?_ 0 _ rfl; (with_reducible repeat (first | refine blk_drewN ?_ _ | refine blk_drew ?_ | refine blk_alloc ?_ _)); exact BK144.out⟩, ⟨by repeat (first | (with_reducible first | exact HB.out | apply below_alloc | apply pw_below_drewN | apply below_drew1 | refine below_set ?_ GE137.out | refine below_set ?_ GE144.out) | exact HB.out)⟩⟩
          · replace c16 := Bool.eq_false_iff.mpr c16
            subst c16
            have H1 : (geyserlaw08_ParamsRight.j0 k true t131 t132 t133 t134 t135 t138 t139 t140 t141 t142) = some r := by rw [if_neg (show ¬ (false = true) by decide)] at H; exact H
            clear H
            have H := H1
            clear H1
            have H' := Aside0.mk H
            clear H
            have hnb26 := NB137_144.out
            have hnc26 := NB144_137.out
            have hcz27_0 : w9.cell? ⟨gb137, 0, none⟩ = some (.int .i64 t131) := (blk_cell BK137.out 0).trans rfl
            have hcz27_1 : w9.cell? ⟨gb137, 1, none⟩ = some (.int .i64 t132) := (blk_cell BK137.out 1).trans rfl
            have hcz27_2 : w9.cell? ⟨gb137, 2, none⟩ = some (.int .i64 t133) := (blk_cell BK137.out 2).trans rfl
            have hcz27_3 : w9.cell? ⟨gb137, 3, none⟩ = some (.int .i64 t134) := (blk_cell BK137.out 3).trans rfl
            have hcz27_4 : w9.cell? ⟨gb137, 4, none⟩ = some (.int .i64 t135) := (blk_cell BK137.out 4).trans rfl
            have hfz27_0 := blk_frozen BK137.out 0
            have hfz27_1 := blk_frozen BK137.out 1
            have hfz27_2 := blk_frozen BK137.out 2
            have hfz27_3 := blk_frozen BK137.out 3
            have hfz27_4 := blk_frozen BK137.out 4
            go_wp2_with (first | (go_at_call 8; (with_reducible refine (IsPrime.calls t132 false _ A15.out).mono ?_); rintro e w' ⟨rfl, ⟨nd, rfl⟩⟩))
            go_meet
            case rel => exact ⟨_, (true), (by first | rfl | (simp; done) | (simp [*]; done)), H', ⟨by first | omega | exact Nat.le_refl _⟩, ⟨by (with_reducible repeat (first | refine blk_drewN ?_ _ | refine blk_drew ?_ | refine blk_alloc ?_ _)); refine blk_far ?_ NB137_144.out _; (with_reducible repeat (first | refine blk_drewN ?_ _ | refine blk_drew ?_ | refine blk_alloc ?_ _)); refine blk_far ?_ NB137_144.out _; (with_reducible repeat (first | refine blk_drewN ?_ _ | refine blk_drew ?_ | refine blk_alloc ?_ _)); refine blk_far ?_ NB137_144.out _; (with_reducible repeat (first | refine blk_drewN ?_ _ | refine blk_drew ?_ | refine blk_alloc ?_ _)); refine blk_far ?_ NB137_144.out _; (with_reducible repeat (first | refine blk_drewN ?_ _ | refine blk_drew ?_ | refine blk_alloc ?_ _)); refine blk_far ?_ NB137_144.out _; (with_reducible repeat (first | refine blk_drewN ?_ _ | refine blk_drew ?_ | refine blk_alloc ?_ _)); exact BK137.out⟩, ⟨by (with_reducible repeat (first | refine blk_drewN ?_ _ | refine blk_drew ?_ | refine blk_alloc ?_ _)); refine blk_put (cs := #[.int .i64 t138, .int .i64 t139, .int .i64 t140, .int .i64 t141, .int .i64 0]) ?_ 4 _ rfl; (with_reducible repeat (first | refine blk_drewN ?_ _ | refine blk_drew ?_ | refine blk_alloc ?_ _)); refine blk_put (cs := #[.int .i64 t138, .int .i64 t139, .int .i64 t140, .int .i64 0, .int .i64 0]) ?_ 3 _ rfl; (with_reducible repeat (first | refine blk_drewN ?_ _ | refine blk_drew ?_ | refine blk_alloc ?_ _)); refine blk_put (cs := #[.int .i64 t138, .int .i64 t139, .int .i64 0, .int .i64 0, .int .i64 0]) ?_ 2 _ rfl; (with_reducible repeat (first | refine blk_drewN ?_ _ | refine blk_drew ?_ | refine blk_alloc ?_ _)); refine blk_put (cs := #[.int .i64 t138, .int .i64 0, .int .i64 0, .int .i64 0, .int .i64 0]) ?_ 1 _ rfl; (with_reducible repeat (first | refine blk_drewN ?_ _ | refine blk_drew ?_ | refine blk_alloc ?_ _)); refine blk_put (cs := #[.int .i64 0, .int .i64 0, .int .i64 0, .int .i64 0, .int .i64 0]) ?_ 0 _ rfl; (with_reducible repeat (first | refine blk_drewN ?_ _ | refine blk_drew ?_ | refine blk_alloc ?_ _)); exact BK144.out⟩, ⟨by repeat (first | (with_reducible first | exact HB.out | apply below_alloc | apply pw_below_drewN | apply below_drew1 | refine below_set ?_ GE137.out | refine below_set ?_ GE144.out) | exact HB.out)⟩⟩
      · have H1 : (geyserlaw08_ParamsRight.j0 k true t131 t132 t133 t134 t135 t138 t139 t140 t141 t142) = some r := by rw [if_neg (show ¬ (some q146).isNone = true by simp)] at H; exact H
        clear H
        have H := H1
        clear H1
        try simp only [errW_none, errW_some]
        (try (obtain ⟨ad_q146, rfl⟩ := ErR_ptr HE_t143.out; have HE_q146 := HE_t143; clear HE_t143))
        have H' := Aside0.mk H
        clear H
        go_wp2
        go_meet
        case rel => exact ⟨_, (true), (by first | rfl | (simp; done) | (simp [*]; done)), H', ⟨by first | omega | exact Nat.le_refl _⟩, ⟨by (with_reducible repeat (first | refine blk_drewN ?_ _ | refine blk_drew ?_ | refine blk_alloc ?_ _)); refine blk_far ?_ NB137_144.out _; (with_reducible repeat (first | refine blk_drewN ?_ _ | refine blk_drew ?_ | refine blk_alloc ?_ _)); refine blk_far ?_ NB137_144.out _; (with_reducible repeat (first | refine blk_drewN ?_ _ | refine blk_drew ?_ | refine blk_alloc ?_ _)); refine blk_far ?_ NB137_144.out _; (with_reducible repeat (first | refine blk_drewN ?_ _ | refine blk_drew ?_ | refine blk_alloc ?_ _)); refine blk_far ?_ NB137_144.out _; (with_reducible repeat (first | refine blk_drewN ?_ _ | refine blk_drew ?_ | refine blk_alloc ?_ _)); refine blk_far ?_ NB137_144.out _; (with_reducible repeat (first | refine blk_drewN ?_ _ | refine blk_drew ?_ | refine blk_alloc ?_ _)); exact BK137.out⟩, ⟨by (with_reducible repeat (first | refine blk_drewN ?_ _ | refine blk_drew ?_ | refine blk_alloc ?_ _)); refine blk_put (cs := #[.int .i64 t138, .int .i64 t139, .int .i64 t140, .int .i64 t141, .int .i64 0]) ?_ 4 _ rfl; (with_reducible repeat (first | refine blk_drewN ?_ _ | refine blk_drew ?_ | refine blk_alloc ?_ _)); refine blk_put (cs := #[.int .i64 t138, .int .i64 t139, .int .i64 t140, .int .i64 0, .int .i64 0]) ?_ 3 _ rfl; (with_reducible repeat (first | refine blk_drewN ?_ _ | refine blk_drew ?_ | refine blk_alloc ?_ _)); refine blk_put (cs := #[.int .i64 t138, .int .i64 t139, .int .i64 0, .int .i64 0, .int .i64 0]) ?_ 2 _ rfl; (with_reducible repeat (first | refine blk_drewN ?_ _ | refine blk_drew ?_ | refine blk_alloc ?_ _)); refine blk_put (cs := #[.int .i64 t138, .int .i64 0, .int .i64 0, .int .i64 0, .int .i64 0]) ?_ 1 _ rfl; (with_reducible repeat (first | refine blk_drewN ?_ _ | refine blk_drew ?_ | refine blk_alloc ?_ _)); refine blk_put (cs := #[.int .i64 0, .int .i64 0, .int .i64 0, .int .i64 0, .int .i64 0]) ?_ 0 _ rfl; (with_reducible repeat (first | refine blk_drewN ?_ _ | refine blk_drew ?_ | refine blk_alloc ?_ _)); exact BK144.out⟩, ⟨by repeat (first | (with_reducible first | exact HB.out | apply below_alloc | apply pw_below_drewN | apply below_drew1 | refine below_set ?_ GE137.out | refine below_set ?_ GE144.out) | exact HB.out)⟩⟩
    · have H1 : (geyserlaw08_ParamsRight.j0 k true t131 t132 t133 t134 t135 t138 t139 t140 t141 t142) = some r := by rw [if_neg (show ¬ (some q145).isNone = true by simp)] at H; exact H
      clear H
      have H := H1
      clear H1
      try simp only [errW_none, errW_some]
      (try (obtain ⟨ad_q145, rfl⟩ := ErR_ptr HE_t136.out; have HE_q145 := HE_t136; clear HE_t136))
      have H' := Aside0.mk H
      clear H
      go_wp2
      go_meet
      case rel => exact ⟨_, (true), (by first | rfl | (simp; done) | (simp [*]; done)), H', ⟨by first | omega | exact Nat.le_refl _⟩, ⟨by (with_reducible repeat (first | refine blk_drewN ?_ _ | refine blk_drew ?_ | refine blk_alloc ?_ _)); refine blk_far ?_ NB137_144.out _; (with_reducible repeat (first | refine blk_drewN ?_ _ | refine blk_drew ?_ | refine blk_alloc ?_ _)); refine blk_far ?_ NB137_144.out _; (with_reducible repeat (first | refine blk_drewN ?_ _ | refine blk_drew ?_ | refine blk_alloc ?_ _)); refine blk_far ?_ NB137_144.out _; (with_reducible repeat (first | refine blk_drewN ?_ _ | refine blk_drew ?_ | refine blk_alloc ?_ _)); refine blk_far ?_ NB137_144.out _; (with_reducible repeat (first | refine blk_drewN ?_ _ | refine blk_drew ?_ | refine blk_alloc ?_ _)); refine blk_far ?_ NB137_144.out _; (with_reducible repeat (first | refine blk_drewN ?_ _ | refine blk_drew ?_ | refine blk_alloc ?_ _)); exact BK137.out⟩, ⟨by (with_reducible repeat (first | refine blk_drewN ?_ _ | refine blk_drew ?_ | refine blk_alloc ?_ _)); refine blk_put (cs := #[.int .i64 t138, .int .i64 t139, .int .i64 t140, .int .i64 t141, .int .i64 0]) ?_ 4 _ rfl; (with_reducible repeat (first | refine blk_drewN ?_ _ | refine blk_drew ?_ | refine blk_alloc ?_ _)); refine blk_put (cs := #[.int .i64 t138, .int .i64 t139, .int .i64 t140, .int .i64 0, .int .i64 0]) ?_ 3 _ rfl; (with_reducible repeat (first | refine blk_drewN ?_ _ | refine blk_drew ?_ | refine blk_alloc ?_ _)); refine blk_put (cs := #[.int .i64 t138, .int .i64 t139, .int .i64 0, .int .i64 0, .int .i64 0]) ?_ 2 _ rfl; (with_reducible repeat (first | refine blk_drewN ?_ _ | refine blk_drew ?_ | refine blk_alloc ?_ _)); refine blk_put (cs := #[.int .i64 t138, .int .i64 0, .int .i64 0, .int .i64 0, .int .i64 0]) ?_ 1 _ rfl; (with_reducible repeat (first | refine blk_drewN ?_ _ | refine blk_drew ?_ | refine blk_alloc ?_ _)); refine blk_put (cs := #[.int .i64 0, .int .i64 0, .int .i64 0, .int .i64 0, .int .i64 0]) ?_ 0 _ rfl; (with_reducible repeat (first | refine blk_drewN ?_ _ | refine blk_drew ?_ | refine blk_alloc ?_ _)); exact BK144.out⟩, ⟨by repeat (first | (with_reducible first | exact HB.out | apply below_alloc | apply pw_below_drewN | apply below_drew1 | refine below_set ?_ GE137.out | refine below_set ?_ GE144.out) | exact HB.out)⟩⟩
  case rest =>
    clear HC4
    try clear c1
    try clear q1
    try clear c2
    try clear p2
    try clear c5
    try clear p6
    try clear c10
    try clear c12
    try clear c12b0
    try clear c13
    try clear q14
    try clear c16
    try clear c17
    try clear c17b0
    try clear c17b1
    try clear c18
    try clear c18b0
    try clear c19
    try clear c22
    try clear c24
    try clear c26
    try clear hcz11_0
    try clear hcz11_1
    try clear hcz11_2
    try clear hcz11_3
    try clear hcz11_4
    try clear hcz14_0
    try clear hcz14_1
    try clear hcz14_2
    try clear hcz14_3
    try clear hcz14_4
    try clear hcz20_0
    try clear hcz20_1
    try clear hcz20_2
    try clear hcz20_3
    try clear hcz20_4
    try clear hcz23_0
    try clear hcz23_1
    try clear hcz23_2
    try clear hcz23_3
    try clear hcz23_4
    try clear hcz25_0
    try clear hcz25_1
    try clear hcz25_2
    try clear hcz25_3
    try clear hcz25_4
    try clear hcz27_0
    try clear hcz27_1
    try clear hcz27_2
    try clear hcz27_3
    try clear hcz27_4
    try clear hcz7_0
    try clear hcz7_1
    try clear hcz7_2
    try clear hcz7_3
    try clear hcz7_4
    try clear hfz11_0
    try clear hfz11_1
    try clear hfz11_2
    try clear hfz11_3
    try clear hfz11_4
    try clear hfz14_0
    try clear hfz14_1
    try clear hfz14_2
    try clear hfz14_3
    try clear hfz14_4
    try clear hfz20_0
    try clear hfz20_1
    try clear hfz20_2
    try clear hfz20_3
    try clear hfz20_4
    try clear hfz23_0
    try clear hfz23_1
    try clear hfz23_2
    try clear hfz23_3
    try clear hfz23_4
    try clear hfz25_0
    try clear hfz25_1
    try clear hfz25_2
    try clear hfz25_3
    try clear hfz25_4
    try clear hfz27_0
    try clear hfz27_1
    try clear hfz27_2
    try clear hfz27_3
    try clear hfz27_4
    try clear hfz7_0
    try clear hfz7_1
    try clear hfz7_2
    try clear hfz7_3
    try clear hfz7_4
    try clear q145
    try clear q146
    obtain ⟨kq, x69_3, rfl, HA, HJ3, BK137, BK144, HB⟩ := hcut
    cases kq with
    | zero => exact absurd HA.out (by simp [geyserlaw08_ParamsRight.j0])
    | succ kj3 =>
      have H := HA.out
      clear HA
      simp only [geyserlaw08_ParamsRight.j0] at H
      by_cases c28 : x69_3 = true
      · subst c28
        have H1 : (some false) = some r := by rw [if_pos rfl] at H; exact H
        clear H
        have H := H1
        clear H1
        obtain rfl := Option.some.inj H
        go_wp2
        go_ret
        exact ⟨by first | rfl | (simp [errW_none, errW_some] <;> rfl) | (simp [*, errW_none, errW_some] <;> rfl), by repeat (first | (with_reducible first | exact HB.out | apply below_alloc | apply pw_below_drewN | apply below_drew1 | refine below_set ?_ GE137.out | refine below_set ?_ GE144.out) | exact HB.out)⟩
      · replace c28 := Bool.eq_false_iff.mpr c28
        subst c28
        have H1 : ((Choose.f t133 (wrap64 (Int.tdiv (wrap64 (t133 + 1)) 2))).bind fun bt149 => ((Choose.f (wrap64 (t133 - 1)) (wrap64 (Int.tdiv t133 2))).bind fun bt151 => (if bt149.2.isNone = true then (if bt151.2.isNone = true then (if bt149.1 ≥ (wrap64 (t131 + t132)) then (if bt151.1 < (wrap64 (t131 + t132)) then (if t139 ≥ t132 then (if t140 ≥ t133 then (if t141 > t134 then (if t142 ≥ t135 then ((geyserlaw08_awake.f kj3).bind fun t155 => (some t155)) else (some false)) else (some false)) else (some false)) else (some false)) else (some false)) else (some false)) else (some false)) else (some false)))) = some r := by rw [if_neg (show ¬ (false = true) by decide)] at H; exact H
        clear H
        have H := H1
        clear H1
        replace H := Option.bind_eq_some_iff.mp H
        obtain ⟨⟨t149, t150⟩, A290, H⟩ := H
        replace H : ((Choose.f (wrap64 (t133 - 1)) (wrap64 (Int.tdiv t133 2))).bind fun bt151 => (if t150.isNone = true then (if bt151.2.isNone = true then (if t149 ≥ (wrap64 (t131 + t132)) then (if bt151.1 < (wrap64 (t131 + t132)) then (if t139 ≥ t132 then (if t140 ≥ t133 then (if t141 > t134 then (if t142 ≥ t135 then ((geyserlaw08_awake.f kj3).bind fun t155 => (some t155)) else (some false)) else (some false)) else (some false)) else (some false)) else (some false)) else (some false)) else (some false)) else (some false))) = some r := H
        have A29 := Aside0.mk A290
        clear A290
        replace H := Option.bind_eq_some_iff.mp H
        obtain ⟨⟨t151, t152⟩, A300, H⟩ := H
        replace H : (if t150.isNone = true then (if t152.isNone = true then (if t149 ≥ (wrap64 (t131 + t132)) then (if t151 < (wrap64 (t131 + t132)) then (if t139 ≥ t132 then (if t140 ≥ t133 then (if t141 > t134 then (if t142 ≥ t135 then ((geyserlaw08_awake.f kj3).bind fun t155 => (some t155)) else (some false)) else (some false)) else (some false)) else (some false)) else (some false)) else (some false)) else (some false)) else (some false)) = some r := H
        have A30 := Aside0.mk A300
        clear A300
        rcases t150 with _ | q153
        · have H1 : (if t152.isNone = true then (if t149 ≥ (wrap64 (t131 + t132)) then (if t151 < (wrap64 (t131 + t132)) then (if t139 ≥ t132 then (if t140 ≥ t133 then (if t141 > t134 then (if t142 ≥ t135 then ((geyserlaw08_awake.f kj3).bind fun t155 => (some t155)) else (some false)) else (some false)) else (some false)) else (some false)) else (some false)) else (some false)) else (some false)) = some r := by rw [if_pos (show (none : Option Er).isNone = true by rfl)] at H; exact H
          clear H
          have H := H1
          clear H1
          try simp only [errW_none, errW_some]
          (try (obtain rfl := ErR_nil HE_t150.out; clear HE_t150))
          rcases t152 with _ | q154
          · have H1 : (if t149 ≥ (wrap64 (t131 + t132)) then (if t151 < (wrap64 (t131 + t132)) then (if t139 ≥ t132 then (if t140 ≥ t133 then (if t141 > t134 then (if t142 ≥ t135 then ((geyserlaw08_awake.f kj3).bind fun t155 => (some t155)) else (some false)) else (some false)) else (some false)) else (some false)) else (some false)) else (some false)) = some r := by rw [if_pos (show (none : Option Er).isNone = true by rfl)] at H; exact H
            clear H
            have H := H1
            clear H1
            try simp only [errW_none, errW_some]
            (try (obtain rfl := ErR_nil HE_t152.out; clear HE_t152))
            by_cases c31 : t149 ≥ (wrap64 (t131 + t132))
            · rw [if_pos c31] at H
              have c31b0 : decide ((wrap64 (t131 + t132)) ≤ t149) = true := decide_eq_true c31
              clear c31
              by_cases c32 : t151 < (wrap64 (t131 + t132))
              · rw [if_pos c32] at H
                have c32b0 : decide (t151 < (wrap64 (t131 + t132))) = true := decide_eq_true c32
                clear c32
                by_cases c33 : t139 ≥ t132
                · rw [if_pos c33] at H
                  have c33b0 : decide (t132 ≤ t139) = true := decide_eq_true c33
                  clear c33
                  by_cases c34 : t140 ≥ t133
                  · rw [if_pos c34] at H
                    have c34b0 : decide (t133 ≤ t140) = true := decide_eq_true c34
                    clear c34
                    by_cases c35 : t141 > t134
                    · rw [if_pos c35] at H
                      have c35b0 : decide (t134 < t141) = true := decide_eq_true c35
                      clear c35
                      by_cases c36 : t142 ≥ t135
                      · rw [if_pos c36] at H
                        have c36b0 : decide (t135 ≤ t142) = true := decide_eq_true c36
                        clear c36
                        replace H := Option.bind_eq_some_iff.mp H
                        obtain ⟨t155, A370, H⟩ := H
                        replace H : (some t155) = some r := H
                        have A37 := Aside0.mk A370
                        clear A370
                        obtain rfl := Option.some.inj H
                        have hnb38 := NB137_144.out
                        have hnc38 := NB144_137.out
                        have hcz39_0 : wc.cell? ⟨gb137, 0, none⟩ = some (.int .i64 t131) := (blk_cell BK137.out 0).trans rfl
                        have hcz39_1 : wc.cell? ⟨gb137, 1, none⟩ = some (.int .i64 t132) := (blk_cell BK137.out 1).trans rfl
                        have hcz39_2 : wc.cell? ⟨gb137, 2, none⟩ = some (.int .i64 t133) := (blk_cell BK137.out 2).trans rfl
                        have hcz39_3 : wc.cell? ⟨gb137, 3, none⟩ = some (.int .i64 t134) := (blk_cell BK137.out 3).trans rfl
                        have hcz39_4 : wc.cell? ⟨gb137, 4, none⟩ = some (.int .i64 t135) := (blk_cell BK137.out 4).trans rfl
                        have hfz39_0 := blk_frozen BK137.out 0
                        have hfz39_1 := blk_frozen BK137.out 1
                        have hfz39_2 := blk_frozen BK137.out 2
                        have hfz39_3 := blk_frozen BK137.out 3
                        have hfz39_4 := blk_frozen BK137.out 4
                        go_wp2_with (first | ((with_reducible refine gate_callee (f := 9) rfl ?_); refine goesL_ (some 77) rfl rfl Try.func9 (by kernel_rfl) rfl #[.int .i64 t133, .int .i64 (wrap64 (Int.tdiv (wrap64 (t133 + 1)) 2))] rfl (by (try simp only [List.map_toArray, List.map_cons, List.map_nil]); first | done | rfl | (simp only [List.length_drop, List.length_take]; rfl)) ?_; (with_reducible refine (Choose.calls t133 (wrap64 (Int.tdiv (wrap64 (t133 + 1)) 2)) t149 none _ A29.out).mono ?_); rintro e w40 ⟨ez0, rfl, he0, hb⟩; refine ⟨_, rfl, ?_⟩; have n0_ := Aside0.mk (blk_below (g := gb137) (o := .cells #[.int .i64 t131, .int .i64 t132, .int .i64 t133, .int .i64 t134, .int .i64 t135] 32 (0, 0)) (by (with_reducible repeat (first | refine blk_drewN ?_ _ | refine blk_drew ?_ | refine blk_alloc ?_ _)); exact BK137.out) hb); have n1_ := Aside0.mk (blk_below (g := gb144) (o := .cells #[.int .i64 t138, .int .i64 t139, .int .i64 t140, .int .i64 t141, .int .i64 t142] 32 (0, 0)) (by (with_reducible repeat (first | refine blk_drewN ?_ _ | refine blk_drew ?_ | refine blk_alloc ?_ _)); exact BK144.out) hb); have n2_ := Aside0.mk (below_step (by repeat (first | (with_reducible first | exact HB.out | apply below_alloc | apply pw_below_drewN | apply below_drew1 | refine below_set ?_ GE137.out | refine below_set ?_ GE144.out) | exact HB.out)) hb); clear BK137; clear BK144; clear HB; have BK137 := n0_; have BK144 := n1_; have HB := n2_; clear n0_ n1_ n2_; (try clear hb); (try clear hb2); (try clear hk); (try clear hi); obtain rfl := ErR_nil he0; clear he0; have hcz41_0 : w40.cell? ⟨gb137, 0, none⟩ = some (.int .i64 t131) := (blk_cell BK137.out 0).trans rfl; have hcz41_1 : w40.cell? ⟨gb137, 1, none⟩ = some (.int .i64 t132) := (blk_cell BK137.out 1).trans rfl; have hcz41_2 : w40.cell? ⟨gb137, 2, none⟩ = some (.int .i64 t133) := (blk_cell BK137.out 2).trans rfl; have hcz41_3 : w40.cell? ⟨gb137, 3, none⟩ = some (.int .i64 t134) := (blk_cell BK137.out 3).trans rfl; have hcz41_4 : w40.cell? ⟨gb137, 4, none⟩ = some (.int .i64 t135) := (blk_cell BK137.out 4).trans rfl; have hfz41_0 := blk_frozen BK137.out 0; have hfz41_1 := blk_frozen BK137.out 1; have hfz41_2 := blk_frozen BK137.out 2; have hfz41_3 := blk_frozen BK137.out 3; have hfz41_4 := blk_frozen BK137.out 4) | ((with_reducible refine gate_callee (f := 9) rfl ?_); refine goesL_ (some 87) rfl rfl Try.func9 (by kernel_rfl) rfl #[.int .i64 (wrap64 (t133 - 1)), .int .i64 (wrap64 (Int.tdiv t133 2))] rfl (by (try simp only [List.map_toArray, List.map_cons, List.map_nil]); first | done | rfl | (simp only [List.length_drop, List.length_take]; rfl)) ?_; (with_reducible refine (Choose.calls (wrap64 (t133 - 1)) (wrap64 (Int.tdiv t133 2)) t151 none _ A30.out).mono ?_); rintro e w42 ⟨ez0, rfl, he0, hb⟩; refine ⟨_, rfl, ?_⟩; have n0_ := Aside0.mk (blk_below (g := gb137) (o := .cells #[.int .i64 t131, .int .i64 t132, .int .i64 t133, .int .i64 t134, .int .i64 t135] 32 (0, 0)) (by (with_reducible repeat (first | refine blk_drewN ?_ _ | refine blk_drew ?_ | refine blk_alloc ?_ _)); exact BK137.out) hb); have n1_ := Aside0.mk (blk_below (g := gb144) (o := .cells #[.int .i64 t138, .int .i64 t139, .int .i64 t140, .int .i64 t141, .int .i64 t142] 32 (0, 0)) (by (with_reducible repeat (first | refine blk_drewN ?_ _ | refine blk_drew ?_ | refine blk_alloc ?_ _)); exact BK144.out) hb); have n2_ := Aside0.mk (below_step (by repeat (first | (with_reducible first | exact HB.out | apply below_alloc | apply pw_below_drewN | apply below_drew1 | refine below_set ?_ GE137.out | refine below_set ?_ GE144.out) | exact HB.out)) hb); clear BK137; clear BK144; clear HB; have BK137 := n0_; have BK144 := n1_; have HB := n2_; clear n0_ n1_ n2_; (try clear hb); (try clear hb2); (try clear hk); (try clear hi); obtain rfl := ErR_nil he0; clear he0; have hcz43_0 : w42.cell? ⟨gb137, 0, none⟩ = some (.int .i64 t131) := (blk_cell BK137.out 0).trans rfl; have hcz43_1 : w42.cell? ⟨gb137, 1, none⟩ = some (.int .i64 t132) := (blk_cell BK137.out 1).trans rfl; have hcz43_2 : w42.cell? ⟨gb137, 2, none⟩ = some (.int .i64 t133) := (blk_cell BK137.out 2).trans rfl; have hcz43_3 : w42.cell? ⟨gb137, 3, none⟩ = some (.int .i64 t134) := (blk_cell BK137.out 3).trans rfl; have hcz43_4 : w42.cell? ⟨gb137, 4, none⟩ = some (.int .i64 t135) := (blk_cell BK137.out 4).trans rfl; have hfz43_0 := blk_frozen BK137.out 0; have hfz43_1 := blk_frozen BK137.out 1; have hfz43_2 := blk_frozen BK137.out 2; have hfz43_3 := blk_frozen BK137.out 3; have hfz43_4 := blk_frozen BK137.out 4; have hcz44_0 : w42.cell? ⟨gb144, 0, none⟩ = some (.int .i64 t138) := (blk_cell BK144.out 0).trans rfl; have hcz44_1 : w42.cell? ⟨gb144, 1, none⟩ = some (.int .i64 t139) := (blk_cell BK144.out 1).trans rfl; have hcz44_2 : w42.cell? ⟨gb144, 2, none⟩ = some (.int .i64 t140) := (blk_cell BK144.out 2).trans rfl; have hcz44_3 : w42.cell? ⟨gb144, 3, none⟩ = some (.int .i64 t141) := (blk_cell BK144.out 3).trans rfl; have hcz44_4 : w42.cell? ⟨gb144, 4, none⟩ = some (.int .i64 t142) := (blk_cell BK144.out 4).trans rfl; have hfz44_0 := blk_frozen BK144.out 0; have hfz44_1 := blk_frozen BK144.out 1; have hfz44_2 := blk_frozen BK144.out 2; have hfz44_3 := blk_frozen BK144.out 3; have hfz44_4 := blk_frozen BK144.out 4) | (go_at_call 7; (with_reducible refine (geyserlaw08_awake.calls kj3  t155 _ A37.out).mono ?_); rintro e w45 ⟨rfl, hb⟩; have n0_ := Aside0.mk (blk_below (g := gb137) (o := .cells #[.int .i64 t131, .int .i64 t132, .int .i64 t133, .int .i64 t134, .int .i64 t135] 32 (0, 0)) (by (with_reducible repeat (first | refine blk_drewN ?_ _ | refine blk_drew ?_ | refine blk_alloc ?_ _)); exact BK137.out) hb); have n1_ := Aside0.mk (blk_below (g := gb144) (o := .cells #[.int .i64 t138, .int .i64 t139, .int .i64 t140, .int .i64 t141, .int .i64 t142] 32 (0, 0)) (by (with_reducible repeat (first | refine blk_drewN ?_ _ | refine blk_drew ?_ | refine blk_alloc ?_ _)); exact BK144.out) hb); have n2_ := Aside0.mk (below_step (by repeat (first | (with_reducible first | exact HB.out | apply below_alloc | apply pw_below_drewN | apply below_drew1 | refine below_set ?_ GE137.out | refine below_set ?_ GE144.out) | exact HB.out)) hb); clear BK137; clear BK144; clear HB; have BK137 := n0_; have BK144 := n1_; have HB := n2_; clear n0_ n1_ n2_; (try clear hb); (try clear hb2); (try clear hk); (try clear hi)))
                        go_ret
                        exact ⟨by first | rfl | (simp [errW_none, errW_some] <;> rfl) | (simp [*, errW_none, errW_some] <;> rfl), by repeat (first | (with_reducible first | exact HB.out | apply below_alloc | apply pw_below_drewN | apply below_drew1 | refine below_set ?_ GE137.out | refine below_set ?_ GE144.out) | exact HB.out)⟩
                      · rw [if_neg c36] at H
                        have c36b0 : decide (t135 ≤ t142) = false := decide_eq_false c36
                        clear c36
                        obtain rfl := Option.some.inj H
                        have hnb46 := NB137_144.out
                        have hnc46 := NB144_137.out
                        have hcz47_0 : wc.cell? ⟨gb137, 0, none⟩ = some (.int .i64 t131) := (blk_cell BK137.out 0).trans rfl
                        have hcz47_1 : wc.cell? ⟨gb137, 1, none⟩ = some (.int .i64 t132) := (blk_cell BK137.out 1).trans rfl
                        have hcz47_2 : wc.cell? ⟨gb137, 2, none⟩ = some (.int .i64 t133) := (blk_cell BK137.out 2).trans rfl
                        have hcz47_3 : wc.cell? ⟨gb137, 3, none⟩ = some (.int .i64 t134) := (blk_cell BK137.out 3).trans rfl
                        have hcz47_4 : wc.cell? ⟨gb137, 4, none⟩ = some (.int .i64 t135) := (blk_cell BK137.out 4).trans rfl
                        have hfz47_0 := blk_frozen BK137.out 0
                        have hfz47_1 := blk_frozen BK137.out 1
                        have hfz47_2 := blk_frozen BK137.out 2
                        have hfz47_3 := blk_frozen BK137.out 3
                        have hfz47_4 := blk_frozen BK137.out 4
                        go_wp2_with (first | ((with_reducible refine gate_callee (f := 9) rfl ?_); refine goesL_ (some 77) rfl rfl Try.func9 (by kernel_rfl) rfl #[.int .i64 t133, .int .i64 (wrap64 (Int.tdiv (wrap64 (t133 + 1)) 2))] rfl (by (try simp only [List.map_toArray, List.map_cons, List.map_nil]); first | done | rfl | (simp only [List.length_drop, List.length_take]; rfl)) ?_; (with_reducible refine (Choose.calls t133 (wrap64 (Int.tdiv (wrap64 (t133 + 1)) 2)) t149 none _ A29.out).mono ?_); rintro e w48 ⟨ez0, rfl, he0, hb⟩; refine ⟨_, rfl, ?_⟩; have n0_ := Aside0.mk (blk_below (g := gb137) (o := .cells #[.int .i64 t131, .int .i64 t132, .int .i64 t133, .int .i64 t134, .int .i64 t135] 32 (0, 0)) (by (with_reducible repeat (first | refine blk_drewN ?_ _ | refine blk_drew ?_ | refine blk_alloc ?_ _)); exact BK137.out) hb); have n1_ := Aside0.mk (blk_below (g := gb144) (o := .cells #[.int .i64 t138, .int .i64 t139, .int .i64 t140, .int .i64 t141, .int .i64 t142] 32 (0, 0)) (by (with_reducible repeat (first | refine blk_drewN ?_ _ | refine blk_drew ?_ | refine blk_alloc ?_ _)); exact BK144.out) hb); have n2_ := Aside0.mk (below_step (by repeat (first | (with_reducible first | exact HB.out | apply below_alloc | apply pw_below_drewN | apply below_drew1 | refine below_set ?_ GE137.out | refine below_set ?_ GE144.out) | exact HB.out)) hb); clear BK137; clear BK144; clear HB; have BK137 := n0_; have BK144 := n1_; have HB := n2_; clear n0_ n1_ n2_; (try clear hb); (try clear hb2); (try clear hk); (try clear hi); obtain rfl := ErR_nil he0; clear he0; have hcz49_0 : w48.cell? ⟨gb137, 0, none⟩ = some (.int .i64 t131) := (blk_cell BK137.out 0).trans rfl; have hcz49_1 : w48.cell? ⟨gb137, 1, none⟩ = some (.int .i64 t132) := (blk_cell BK137.out 1).trans rfl; have hcz49_2 : w48.cell? ⟨gb137, 2, none⟩ = some (.int .i64 t133) := (blk_cell BK137.out 2).trans rfl; have hcz49_3 : w48.cell? ⟨gb137, 3, none⟩ = some (.int .i64 t134) := (blk_cell BK137.out 3).trans rfl; have hcz49_4 : w48.cell? ⟨gb137, 4, none⟩ = some (.int .i64 t135) := (blk_cell BK137.out 4).trans rfl; have hfz49_0 := blk_frozen BK137.out 0; have hfz49_1 := blk_frozen BK137.out 1; have hfz49_2 := blk_frozen BK137.out 2; have hfz49_3 := blk_frozen BK137.out 3; have hfz49_4 := blk_frozen BK137.out 4) | ((with_reducible refine gate_callee (f := 9) rfl ?_); refine goesL_ (some 87) rfl rfl Try.func9 (by kernel_rfl) rfl #[.int .i64 (wrap64 (t133 - 1)), .int .i64 (wrap64 (Int.tdiv t133 2))] rfl (by (try simp only [List.map_toArray, List.map_cons, List.map_nil]); first | done | rfl | (simp only [List.length_drop, List.length_take]; rfl)) ?_; (with_reducible refine (Choose.calls (wrap64 (t133 - 1)) (wrap64 (Int.tdiv t133 2)) t151 none _ A30.out).mono ?_); rintro e w50 ⟨ez0, rfl, he0, hb⟩; refine ⟨_, rfl, ?_⟩; have n0_ := Aside0.mk (blk_below (g := gb137) (o := .cells #[.int .i64 t131, .int .i64 t132, .int .i64 t133, .int .i64 t134, .int .i64 t135] 32 (0, 0)) (by (with_reducible repeat (first | refine blk_drewN ?_ _ | refine blk_drew ?_ | refine blk_alloc ?_ _)); exact BK137.out) hb); have n1_ := Aside0.mk (blk_below (g := gb144) (o := .cells #[.int .i64 t138, .int .i64 t139, .int .i64 t140, .int .i64 t141, .int .i64 t142] 32 (0, 0)) (by (with_reducible repeat (first | refine blk_drewN ?_ _ | refine blk_drew ?_ | refine blk_alloc ?_ _)); exact BK144.out) hb); have n2_ := Aside0.mk (below_step (by repeat (first | (with_reducible first | exact HB.out | apply below_alloc | apply pw_below_drewN | apply below_drew1 | refine below_set ?_ GE137.out | refine below_set ?_ GE144.out) | exact HB.out)) hb); clear BK137; clear BK144; clear HB; have BK137 := n0_; have BK144 := n1_; have HB := n2_; clear n0_ n1_ n2_; (try clear hb); (try clear hb2); (try clear hk); (try clear hi); obtain rfl := ErR_nil he0; clear he0; have hcz51_0 : w50.cell? ⟨gb137, 0, none⟩ = some (.int .i64 t131) := (blk_cell BK137.out 0).trans rfl; have hcz51_1 : w50.cell? ⟨gb137, 1, none⟩ = some (.int .i64 t132) := (blk_cell BK137.out 1).trans rfl; have hcz51_2 : w50.cell? ⟨gb137, 2, none⟩ = some (.int .i64 t133) := (blk_cell BK137.out 2).trans rfl; have hcz51_3 : w50.cell? ⟨gb137, 3, none⟩ = some (.int .i64 t134) := (blk_cell BK137.out 3).trans rfl; have hcz51_4 : w50.cell? ⟨gb137, 4, none⟩ = some (.int .i64 t135) := (blk_cell BK137.out 4).trans rfl; have hfz51_0 := blk_frozen BK137.out 0; have hfz51_1 := blk_frozen BK137.out 1; have hfz51_2 := blk_frozen BK137.out 2; have hfz51_3 := blk_frozen BK137.out 3; have hfz51_4 := blk_frozen BK137.out 4; have hcz52_0 : w50.cell? ⟨gb144, 0, none⟩ = some (.int .i64 t138) := (blk_cell BK144.out 0).trans rfl; have hcz52_1 : w50.cell? ⟨gb144, 1, none⟩ = some (.int .i64 t139) := (blk_cell BK144.out 1).trans rfl; have hcz52_2 : w50.cell? ⟨gb144, 2, none⟩ = some (.int .i64 t140) := (blk_cell BK144.out 2).trans rfl; have hcz52_3 : w50.cell? ⟨gb144, 3, none⟩ = some (.int .i64 t141) := (blk_cell BK144.out 3).trans rfl; have hcz52_4 : w50.cell? ⟨gb144, 4, none⟩ = some (.int .i64 t142) := (blk_cell BK144.out 4).trans rfl; have hfz52_0 := blk_frozen BK144.out 0; have hfz52_1 := blk_frozen BK144.out 1; have hfz52_2 := blk_frozen BK144.out 2; have hfz52_3 := blk_frozen BK144.out 3; have hfz52_4 := blk_frozen BK144.out 4))
                        go_ret
                        exact ⟨by first | rfl | (simp [errW_none, errW_some] <;> rfl) | (simp [*, errW_none, errW_some] <;> rfl), by repeat (first | (with_reducible first | exact HB.out | apply below_alloc | apply pw_below_drewN | apply below_drew1 | refine below_set ?_ GE137.out | refine below_set ?_ GE144.out) | exact HB.out)⟩
                    · rw [if_neg c35] at H
                      have c35b0 : decide (t134 < t141) = false := decide_eq_false c35
                      clear c35
                      obtain rfl := Option.some.inj H
                      have hnb53 := NB137_144.out
                      have hnc53 := NB144_137.out
                      have hcz54_0 : wc.cell? ⟨gb137, 0, none⟩ = some (.int .i64 t131) := (blk_cell BK137.out 0).trans rfl
                      have hcz54_1 : wc.cell? ⟨gb137, 1, none⟩ = some (.int .i64 t132) := (blk_cell BK137.out 1).trans rfl
                      have hcz54_2 : wc.cell? ⟨gb137, 2, none⟩ = some (.int .i64 t133) := (blk_cell BK137.out 2).trans rfl
                      have hcz54_3 : wc.cell? ⟨gb137, 3, none⟩ = some (.int .i64 t134) := (blk_cell BK137.out 3).trans rfl
                      have hcz54_4 : wc.cell? ⟨gb137, 4, none⟩ = some (.int .i64 t135) := (blk_cell BK137.out 4).trans rfl
                      have hfz54_0 := blk_frozen BK137.out 0
                      have hfz54_1 := blk_frozen BK137.out 1
                      have hfz54_2 := blk_frozen BK137.out 2
                      have hfz54_3 := blk_frozen BK137.out 3
                      have hfz54_4 := blk_frozen BK137.out 4
                      go_wp2_with (first | ((with_reducible refine gate_callee (f := 9) rfl ?_); refine goesL_ (some 77) rfl rfl Try.func9 (by kernel_rfl) rfl #[.int .i64 t133, .int .i64 (wrap64 (Int.tdiv (wrap64 (t133 + 1)) 2))] rfl (by (try simp only [List.map_toArray, List.map_cons, List.map_nil]); first | done | rfl | (simp only [List.length_drop, List.length_take]; rfl)) ?_; (with_reducible refine (Choose.calls t133 (wrap64 (Int.tdiv (wrap64 (t133 + 1)) 2)) t149 none _ A29.out).mono ?_); rintro e w55 ⟨ez0, rfl, he0, hb⟩; refine ⟨_, rfl, ?_⟩; have n0_ := Aside0.mk (blk_below (g := gb137) (o := .cells #[.int .i64 t131, .int .i64 t132, .int .i64 t133, .int .i64 t134, .int .i64 t135] 32 (0, 0)) (by (with_reducible repeat (first | refine blk_drewN ?_ _ | refine blk_drew ?_ | refine blk_alloc ?_ _)); exact BK137.out) hb); have n1_ := Aside0.mk (blk_below (g := gb144) (o := .cells #[.int .i64 t138, .int .i64 t139, .int .i64 t140, .int .i64 t141, .int .i64 t142] 32 (0, 0)) (by (with_reducible repeat (first | refine blk_drewN ?_ _ | refine blk_drew ?_ | refine blk_alloc ?_ _)); exact BK144.out) hb); have n2_ := Aside0.mk (below_step (by repeat (first | (with_reducible first | exact HB.out | apply below_alloc | apply pw_below_drewN | apply below_drew1 | refine below_set ?_ GE137.out | refine below_set ?_ GE144.out) | exact HB.out)) hb); clear BK137; clear BK144; clear HB; have BK137 := n0_; have BK144 := n1_; have HB := n2_; clear n0_ n1_ n2_; (try clear hb); (try clear hb2); (try clear hk); (try clear hi); obtain rfl := ErR_nil he0; clear he0; have hcz56_0 : w55.cell? ⟨gb137, 0, none⟩ = some (.int .i64 t131) := (blk_cell BK137.out 0).trans rfl; have hcz56_1 : w55.cell? ⟨gb137, 1, none⟩ = some (.int .i64 t132) := (blk_cell BK137.out 1).trans rfl; have hcz56_2 : w55.cell? ⟨gb137, 2, none⟩ = some (.int .i64 t133) := (blk_cell BK137.out 2).trans rfl; have hcz56_3 : w55.cell? ⟨gb137, 3, none⟩ = some (.int .i64 t134) := (blk_cell BK137.out 3).trans rfl; have hcz56_4 : w55.cell? ⟨gb137, 4, none⟩ = some (.int .i64 t135) := (blk_cell BK137.out 4).trans rfl; have hfz56_0 := blk_frozen BK137.out 0; have hfz56_1 := blk_frozen BK137.out 1; have hfz56_2 := blk_frozen BK137.out 2; have hfz56_3 := blk_frozen BK137.out 3; have hfz56_4 := blk_frozen BK137.out 4) | ((with_reducible refine gate_callee (f := 9) rfl ?_); refine goesL_ (some 87) rfl rfl Try.func9 (by kernel_rfl) rfl #[.int .i64 (wrap64 (t133 - 1)), .int .i64 (wrap64 (Int.tdiv t133 2))] rfl (by (try simp only [List.map_toArray, List.map_cons, List.map_nil]); first | done | rfl | (simp only [List.length_drop, List.length_take]; rfl)) ?_; (with_reducible refine (Choose.calls (wrap64 (t133 - 1)) (wrap64 (Int.tdiv t133 2)) t151 none _ A30.out).mono ?_); rintro e w57 ⟨ez0, rfl, he0, hb⟩; refine ⟨_, rfl, ?_⟩; have n0_ := Aside0.mk (blk_below (g := gb137) (o := .cells #[.int .i64 t131, .int .i64 t132, .int .i64 t133, .int .i64 t134, .int .i64 t135] 32 (0, 0)) (by (with_reducible repeat (first | refine blk_drewN ?_ _ | refine blk_drew ?_ | refine blk_alloc ?_ _)); exact BK137.out) hb); have n1_ := Aside0.mk (blk_below (g := gb144) (o := .cells #[.int .i64 t138, .int .i64 t139, .int .i64 t140, .int .i64 t141, .int .i64 t142] 32 (0, 0)) (by (with_reducible repeat (first | refine blk_drewN ?_ _ | refine blk_drew ?_ | refine blk_alloc ?_ _)); exact BK144.out) hb); have n2_ := Aside0.mk (below_step (by repeat (first | (with_reducible first | exact HB.out | apply below_alloc | apply pw_below_drewN | apply below_drew1 | refine below_set ?_ GE137.out | refine below_set ?_ GE144.out) | exact HB.out)) hb); clear BK137; clear BK144; clear HB; have BK137 := n0_; have BK144 := n1_; have HB := n2_; clear n0_ n1_ n2_; (try clear hb); (try clear hb2); (try clear hk); (try clear hi); obtain rfl := ErR_nil he0; clear he0; have hcz58_0 : w57.cell? ⟨gb137, 0, none⟩ = some (.int .i64 t131) := (blk_cell BK137.out 0).trans rfl; have hcz58_1 : w57.cell? ⟨gb137, 1, none⟩ = some (.int .i64 t132) := (blk_cell BK137.out 1).trans rfl; have hcz58_2 : w57.cell? ⟨gb137, 2, none⟩ = some (.int .i64 t133) := (blk_cell BK137.out 2).trans rfl; have hcz58_3 : w57.cell? ⟨gb137, 3, none⟩ = some (.int .i64 t134) := (blk_cell BK137.out 3).trans rfl; have hcz58_4 : w57.cell? ⟨gb137, 4, none⟩ = some (.int .i64 t135) := (blk_cell BK137.out 4).trans rfl; have hfz58_0 := blk_frozen BK137.out 0; have hfz58_1 := blk_frozen BK137.out 1; have hfz58_2 := blk_frozen BK137.out 2; have hfz58_3 := blk_frozen BK137.out 3; have hfz58_4 := blk_frozen BK137.out 4; have hcz59_0 : w57.cell? ⟨gb144, 0, none⟩ = some (.int .i64 t138) := (blk_cell BK144.out 0).trans rfl; have hcz59_1 : w57.cell? ⟨gb144, 1, none⟩ = some (.int .i64 t139) := (blk_cell BK144.out 1).trans rfl; have hcz59_2 : w57.cell? ⟨gb144, 2, none⟩ = some (.int .i64 t140) := (blk_cell BK144.out 2).trans rfl; have hcz59_3 : w57.cell? ⟨gb144, 3, none⟩ = some (.int .i64 t141) := (blk_cell BK144.out 3).trans rfl; have hcz59_4 : w57.cell? ⟨gb144, 4, none⟩ = some (.int .i64 t142) := (blk_cell BK144.out 4).trans rfl; have hfz59_0 := blk_frozen BK144.out 0; have hfz59_1 := blk_frozen BK144.out 1; have hfz59_2 := blk_frozen BK144.out 2; have hfz59_3 := blk_frozen BK144.out 3; have hfz59_4 := blk_frozen BK144.out 4))
                      go_ret
                      exact ⟨by first | rfl | (simp [errW_none, errW_some] <;> rfl) | (simp [*, errW_none, errW_some] <;> rfl), by repeat (first | (with_reducible first | exact HB.out | apply below_alloc | apply pw_below_drewN | apply below_drew1 | refine below_set ?_ GE137.out | refine below_set ?_ GE144.out) | exact HB.out)⟩
                  · rw [if_neg c34] at H
                    have c34b0 : decide (t133 ≤ t140) = false := decide_eq_false c34
                    clear c34
                    obtain rfl := Option.some.inj H
                    have hnb60 := NB137_144.out
                    have hnc60 := NB144_137.out
                    have hcz61_0 : wc.cell? ⟨gb137, 0, none⟩ = some (.int .i64 t131) := (blk_cell BK137.out 0).trans rfl
                    have hcz61_1 : wc.cell? ⟨gb137, 1, none⟩ = some (.int .i64 t132) := (blk_cell BK137.out 1).trans rfl
                    have hcz61_2 : wc.cell? ⟨gb137, 2, none⟩ = some (.int .i64 t133) := (blk_cell BK137.out 2).trans rfl
                    have hcz61_3 : wc.cell? ⟨gb137, 3, none⟩ = some (.int .i64 t134) := (blk_cell BK137.out 3).trans rfl
                    have hcz61_4 : wc.cell? ⟨gb137, 4, none⟩ = some (.int .i64 t135) := (blk_cell BK137.out 4).trans rfl
                    have hfz61_0 := blk_frozen BK137.out 0
                    have hfz61_1 := blk_frozen BK137.out 1
                    have hfz61_2 := blk_frozen BK137.out 2
                    have hfz61_3 := blk_frozen BK137.out 3
                    have hfz61_4 := blk_frozen BK137.out 4
                    go_wp2_with (first | ((with_reducible refine gate_callee (f := 9) rfl ?_); refine goesL_ (some 77) rfl rfl Try.func9 (by kernel_rfl) rfl #[.int .i64 t133, .int .i64 (wrap64 (Int.tdiv (wrap64 (t133 + 1)) 2))] rfl (by (try simp only [List.map_toArray, List.map_cons, List.map_nil]); first | done | rfl | (simp only [List.length_drop, List.length_take]; rfl)) ?_; (with_reducible refine (Choose.calls t133 (wrap64 (Int.tdiv (wrap64 (t133 + 1)) 2)) t149 none _ A29.out).mono ?_); rintro e w62 ⟨ez0, rfl, he0, hb⟩; refine ⟨_, rfl, ?_⟩; have n0_ := Aside0.mk (blk_below (g := gb137) (o := .cells #[.int .i64 t131, .int .i64 t132, .int .i64 t133, .int .i64 t134, .int .i64 t135] 32 (0, 0)) (by (with_reducible repeat (first | refine blk_drewN ?_ _ | refine blk_drew ?_ | refine blk_alloc ?_ _)); exact BK137.out) hb); have n1_ := Aside0.mk (blk_below (g := gb144) (o := .cells #[.int .i64 t138, .int .i64 t139, .int .i64 t140, .int .i64 t141, .int .i64 t142] 32 (0, 0)) (by (with_reducible repeat (first | refine blk_drewN ?_ _ | refine blk_drew ?_ | refine blk_alloc ?_ _)); exact BK144.out) hb); have n2_ := Aside0.mk (below_step (by repeat (first | (with_reducible first | exact HB.out | apply below_alloc | apply pw_below_drewN | apply below_drew1 | refine below_set ?_ GE137.out | refine below_set ?_ GE144.out) | exact HB.out)) hb); clear BK137; clear BK144; clear HB; have BK137 := n0_; have BK144 := n1_; have HB := n2_; clear n0_ n1_ n2_; (try clear hb); (try clear hb2); (try clear hk); (try clear hi); obtain rfl := ErR_nil he0; clear he0; have hcz63_0 : w62.cell? ⟨gb137, 0, none⟩ = some (.int .i64 t131) := (blk_cell BK137.out 0).trans rfl; have hcz63_1 : w62.cell? ⟨gb137, 1, none⟩ = some (.int .i64 t132) := (blk_cell BK137.out 1).trans rfl; have hcz63_2 : w62.cell? ⟨gb137, 2, none⟩ = some (.int .i64 t133) := (blk_cell BK137.out 2).trans rfl; have hcz63_3 : w62.cell? ⟨gb137, 3, none⟩ = some (.int .i64 t134) := (blk_cell BK137.out 3).trans rfl; have hcz63_4 : w62.cell? ⟨gb137, 4, none⟩ = some (.int .i64 t135) := (blk_cell BK137.out 4).trans rfl; have hfz63_0 := blk_frozen BK137.out 0; have hfz63_1 := blk_frozen BK137.out 1; have hfz63_2 := blk_frozen BK137.out 2; have hfz63_3 := blk_frozen BK137.out 3; have hfz63_4 := blk_frozen BK137.out 4) | ((with_reducible refine gate_callee (f := 9) rfl ?_); refine goesL_ (some 87) rfl rfl Try.func9 (by kernel_rfl) rfl #[.int .i64 (wrap64 (t133 - 1)), .int .i64 (wrap64 (Int.tdiv t133 2))] rfl (by (try simp only [List.map_toArray, List.map_cons, List.map_nil]); first | done | rfl | (simp only [List.length_drop, List.length_take]; rfl)) ?_; (with_reducible refine (Choose.calls (wrap64 (t133 - 1)) (wrap64 (Int.tdiv t133 2)) t151 none _ A30.out).mono ?_); rintro e w64 ⟨ez0, rfl, he0, hb⟩; refine ⟨_, rfl, ?_⟩; have n0_ := Aside0.mk (blk_below (g := gb137) (o := .cells #[.int .i64 t131, .int .i64 t132, .int .i64 t133, .int .i64 t134, .int .i64 t135] 32 (0, 0)) (by (with_reducible repeat (first | refine blk_drewN ?_ _ | refine blk_drew ?_ | refine blk_alloc ?_ _)); exact BK137.out) hb); have n1_ := Aside0.mk (blk_below (g := gb144) (o := .cells #[.int .i64 t138, .int .i64 t139, .int .i64 t140, .int .i64 t141, .int .i64 t142] 32 (0, 0)) (by (with_reducible repeat (first | refine blk_drewN ?_ _ | refine blk_drew ?_ | refine blk_alloc ?_ _)); exact BK144.out) hb); have n2_ := Aside0.mk (below_step (by repeat (first | (with_reducible first | exact HB.out | apply below_alloc | apply pw_below_drewN | apply below_drew1 | refine below_set ?_ GE137.out | refine below_set ?_ GE144.out) | exact HB.out)) hb); clear BK137; clear BK144; clear HB; have BK137 := n0_; have BK144 := n1_; have HB := n2_; clear n0_ n1_ n2_; (try clear hb); (try clear hb2); (try clear hk); (try clear hi); obtain rfl := ErR_nil he0; clear he0; have hcz65_0 : w64.cell? ⟨gb137, 0, none⟩ = some (.int .i64 t131) := (blk_cell BK137.out 0).trans rfl; have hcz65_1 : w64.cell? ⟨gb137, 1, none⟩ = some (.int .i64 t132) := (blk_cell BK137.out 1).trans rfl; have hcz65_2 : w64.cell? ⟨gb137, 2, none⟩ = some (.int .i64 t133) := (blk_cell BK137.out 2).trans rfl; have hcz65_3 : w64.cell? ⟨gb137, 3, none⟩ = some (.int .i64 t134) := (blk_cell BK137.out 3).trans rfl; have hcz65_4 : w64.cell? ⟨gb137, 4, none⟩ = some (.int .i64 t135) := (blk_cell BK137.out 4).trans rfl; have hfz65_0 := blk_frozen BK137.out 0; have hfz65_1 := blk_frozen BK137.out 1; have hfz65_2 := blk_frozen BK137.out 2; have hfz65_3 := blk_frozen BK137.out 3; have hfz65_4 := blk_frozen BK137.out 4; have hcz66_0 : w64.cell? ⟨gb144, 0, none⟩ = some (.int .i64 t138) := (blk_cell BK144.out 0).trans rfl; have hcz66_1 : w64.cell? ⟨gb144, 1, none⟩ = some (.int .i64 t139) := (blk_cell BK144.out 1).trans rfl; have hcz66_2 : w64.cell? ⟨gb144, 2, none⟩ = some (.int .i64 t140) := (blk_cell BK144.out 2).trans rfl; have hcz66_3 : w64.cell? ⟨gb144, 3, none⟩ = some (.int .i64 t141) := (blk_cell BK144.out 3).trans rfl; have hcz66_4 : w64.cell? ⟨gb144, 4, none⟩ = some (.int .i64 t142) := (blk_cell BK144.out 4).trans rfl; have hfz66_0 := blk_frozen BK144.out 0; have hfz66_1 := blk_frozen BK144.out 1; have hfz66_2 := blk_frozen BK144.out 2; have hfz66_3 := blk_frozen BK144.out 3; have hfz66_4 := blk_frozen BK144.out 4))
                    go_ret
                    exact ⟨by first | rfl | (simp [errW_none, errW_some] <;> rfl) | (simp [*, errW_none, errW_some] <;> rfl), by repeat (first | (with_reducible first | exact HB.out | apply below_alloc | apply pw_below_drewN | apply below_drew1 | refine below_set ?_ GE137.out | refine below_set ?_ GE144.out) | exact HB.out)⟩
                · rw [if_neg c33] at H
                  have c33b0 : decide (t132 ≤ t139) = false := decide_eq_false c33
                  clear c33
                  obtain rfl := Option.some.inj H
                  have hnb67 := NB137_144.out
                  have hnc67 := NB144_137.out
                  have hcz68_0 : wc.cell? ⟨gb137, 0, none⟩ = some (.int .i64 t131) := (blk_cell BK137.out 0).trans rfl
                  have hcz68_1 : wc.cell? ⟨gb137, 1, none⟩ = some (.int .i64 t132) := (blk_cell BK137.out 1).trans rfl
                  have hcz68_2 : wc.cell? ⟨gb137, 2, none⟩ = some (.int .i64 t133) := (blk_cell BK137.out 2).trans rfl
                  have hcz68_3 : wc.cell? ⟨gb137, 3, none⟩ = some (.int .i64 t134) := (blk_cell BK137.out 3).trans rfl
                  have hcz68_4 : wc.cell? ⟨gb137, 4, none⟩ = some (.int .i64 t135) := (blk_cell BK137.out 4).trans rfl
                  have hfz68_0 := blk_frozen BK137.out 0
                  have hfz68_1 := blk_frozen BK137.out 1
                  have hfz68_2 := blk_frozen BK137.out 2
                  have hfz68_3 := blk_frozen BK137.out 3
                  have hfz68_4 := blk_frozen BK137.out 4
                  go_wp2_with (first | ((with_reducible refine gate_callee (f := 9) rfl ?_); refine goesL_ (some 77) rfl rfl Try.func9 (by kernel_rfl) rfl #[.int .i64 t133, .int .i64 (wrap64 (Int.tdiv (wrap64 (t133 + 1)) 2))] rfl (by (try simp only [List.map_toArray, List.map_cons, List.map_nil]); first | done | rfl | (simp only [List.length_drop, List.length_take]; rfl)) ?_; (with_reducible refine (Choose.calls t133 (wrap64 (Int.tdiv (wrap64 (t133 + 1)) 2)) t149 none _ A29.out).mono ?_); rintro e w69 ⟨ez0, rfl, he0, hb⟩; refine ⟨_, rfl, ?_⟩; have n0_ := Aside0.mk (blk_below (g := gb137) (o := .cells #[.int .i64 t131, .int .i64 t132, .int .i64 t133, .int .i64 t134, .int .i64 t135] 32 (0, 0)) (by (with_reducible repeat (first | refine blk_drewN ?_ _ | refine blk_drew ?_ | refine blk_alloc ?_ _)); exact BK137.out) hb); have n1_ := Aside0.mk (blk_below (g := gb144) (o := .cells #[.int .i64 t138, .int .i64 t139, .int .i64 t140, .int .i64 t141, .int .i64 t142] 32 (0, 0)) (by (with_reducible repeat (first | refine blk_drewN ?_ _ | refine blk_drew ?_ | refine blk_alloc ?_ _)); exact BK144.out) hb); have n2_ := Aside0.mk (below_step (by repeat (first | (with_reducible first | exact HB.out | apply below_alloc | apply pw_below_drewN | apply below_drew1 | refine below_set ?_ GE137.out | refine below_set ?_ GE144.out) | exact HB.out)) hb); clear BK137; clear BK144; clear HB; have BK137 := n0_; have BK144 := n1_; have HB := n2_; clear n0_ n1_ n2_; (try clear hb); (try clear hb2); (try clear hk); (try clear hi); obtain rfl := ErR_nil he0; clear he0; have hcz70_0 : w69.cell? ⟨gb137, 0, none⟩ = some (.int .i64 t131) := (blk_cell BK137.out 0).trans rfl; have hcz70_1 : w69.cell? ⟨gb137, 1, none⟩ = some (.int .i64 t132) := (blk_cell BK137.out 1).trans rfl; have hcz70_2 : w69.cell? ⟨gb137, 2, none⟩ = some (.int .i64 t133) := (blk_cell BK137.out 2).trans rfl; have hcz70_3 : w69.cell? ⟨gb137, 3, none⟩ = some (.int .i64 t134) := (blk_cell BK137.out 3).trans rfl; have hcz70_4 : w69.cell? ⟨gb137, 4, none⟩ = some (.int .i64 t135) := (blk_cell BK137.out 4).trans rfl; have hfz70_0 := blk_frozen BK137.out 0; have hfz70_1 := blk_frozen BK137.out 1; have hfz70_2 := blk_frozen BK137.out 2; have hfz70_3 := blk_frozen BK137.out 3; have hfz70_4 := blk_frozen BK137.out 4) | ((with_reducible refine gate_callee (f := 9) rfl ?_); refine goesL_ (some 87) rfl rfl Try.func9 (by kernel_rfl) rfl #[.int .i64 (wrap64 (t133 - 1)), .int .i64 (wrap64 (Int.tdiv t133 2))] rfl (by (try simp only [List.map_toArray, List.map_cons, List.map_nil]); first | done | rfl | (simp only [List.length_drop, List.length_take]; rfl)) ?_; (with_reducible refine (Choose.calls (wrap64 (t133 - 1)) (wrap64 (Int.tdiv t133 2)) t151 none _ A30.out).mono ?_); rintro e w71 ⟨ez0, rfl, he0, hb⟩; refine ⟨_, rfl, ?_⟩; have n0_ := Aside0.mk (blk_below (g := gb137) (o := .cells #[.int .i64 t131, .int .i64 t132, .int .i64 t133, .int .i64 t134, .int .i64 t135] 32 (0, 0)) (by (with_reducible repeat (first | refine blk_drewN ?_ _ | refine blk_drew ?_ | refine blk_alloc ?_ _)); exact BK137.out) hb); have n1_ := Aside0.mk (blk_below (g := gb144) (o := .cells #[.int .i64 t138, .int .i64 t139, .int .i64 t140, .int .i64 t141, .int .i64 t142] 32 (0, 0)) (by (with_reducible repeat (first | refine blk_drewN ?_ _ | refine blk_drew ?_ | refine blk_alloc ?_ _)); exact BK144.out) hb); have n2_ := Aside0.mk (below_step (by repeat (first | (with_reducible first | exact HB.out | apply below_alloc | apply pw_below_drewN | apply below_drew1 | refine below_set ?_ GE137.out | refine below_set ?_ GE144.out) | exact HB.out)) hb); clear BK137; clear BK144; clear HB; have BK137 := n0_; have BK144 := n1_; have HB := n2_; clear n0_ n1_ n2_; (try clear hb); (try clear hb2); (try clear hk); (try clear hi); obtain rfl := ErR_nil he0; clear he0; have hcz72_0 : w71.cell? ⟨gb137, 0, none⟩ = some (.int .i64 t131) := (blk_cell BK137.out 0).trans rfl; have hcz72_1 : w71.cell? ⟨gb137, 1, none⟩ = some (.int .i64 t132) := (blk_cell BK137.out 1).trans rfl; have hcz72_2 : w71.cell? ⟨gb137, 2, none⟩ = some (.int .i64 t133) := (blk_cell BK137.out 2).trans rfl; have hcz72_3 : w71.cell? ⟨gb137, 3, none⟩ = some (.int .i64 t134) := (blk_cell BK137.out 3).trans rfl; have hcz72_4 : w71.cell? ⟨gb137, 4, none⟩ = some (.int .i64 t135) := (blk_cell BK137.out 4).trans rfl; have hfz72_0 := blk_frozen BK137.out 0; have hfz72_1 := blk_frozen BK137.out 1; have hfz72_2 := blk_frozen BK137.out 2; have hfz72_3 := blk_frozen BK137.out 3; have hfz72_4 := blk_frozen BK137.out 4; have hcz73_0 : w71.cell? ⟨gb144, 0, none⟩ = some (.int .i64 t138) := (blk_cell BK144.out 0).trans rfl; have hcz73_1 : w71.cell? ⟨gb144, 1, none⟩ = some (.int .i64 t139) := (blk_cell BK144.out 1).trans rfl; have hcz73_2 : w71.cell? ⟨gb144, 2, none⟩ = some (.int .i64 t140) := (blk_cell BK144.out 2).trans rfl; have hcz73_3 : w71.cell? ⟨gb144, 3, none⟩ = some (.int .i64 t141) := (blk_cell BK144.out 3).trans rfl; have hcz73_4 : w71.cell? ⟨gb144, 4, none⟩ = some (.int .i64 t142) := (blk_cell BK144.out 4).trans rfl; have hfz73_0 := blk_frozen BK144.out 0; have hfz73_1 := blk_frozen BK144.out 1; have hfz73_2 := blk_frozen BK144.out 2; have hfz73_3 := blk_frozen BK144.out 3; have hfz73_4 := blk_frozen BK144.out 4))
                  go_ret
                  exact ⟨by first | rfl | (simp [errW_none, errW_some] <;> rfl) | (simp [*, errW_none, errW_some] <;> rfl), by repeat (first | (with_reducible first | exact HB.out | apply below_alloc | apply pw_below_drewN | apply below_drew1 | refine below_set ?_ GE137.out | refine below_set ?_ GE144.out) | exact HB.out)⟩
              · rw [if_neg c32] at H
                have c32b0 : decide (t151 < (wrap64 (t131 + t132))) = false := decide_eq_false c32
                clear c32
                obtain rfl := Option.some.inj H
                have hnb74 := NB137_144.out
                have hnc74 := NB144_137.out
                have hcz75_0 : wc.cell? ⟨gb137, 0, none⟩ = some (.int .i64 t131) := (blk_cell BK137.out 0).trans rfl
                have hcz75_1 : wc.cell? ⟨gb137, 1, none⟩ = some (.int .i64 t132) := (blk_cell BK137.out 1).trans rfl
                have hcz75_2 : wc.cell? ⟨gb137, 2, none⟩ = some (.int .i64 t133) := (blk_cell BK137.out 2).trans rfl
                have hcz75_3 : wc.cell? ⟨gb137, 3, none⟩ = some (.int .i64 t134) := (blk_cell BK137.out 3).trans rfl
                have hcz75_4 : wc.cell? ⟨gb137, 4, none⟩ = some (.int .i64 t135) := (blk_cell BK137.out 4).trans rfl
                have hfz75_0 := blk_frozen BK137.out 0
                have hfz75_1 := blk_frozen BK137.out 1
                have hfz75_2 := blk_frozen BK137.out 2
                have hfz75_3 := blk_frozen BK137.out 3
                have hfz75_4 := blk_frozen BK137.out 4
                go_wp2_with (first | ((with_reducible refine gate_callee (f := 9) rfl ?_); refine goesL_ (some 77) rfl rfl Try.func9 (by kernel_rfl) rfl #[.int .i64 t133, .int .i64 (wrap64 (Int.tdiv (wrap64 (t133 + 1)) 2))] rfl (by (try simp only [List.map_toArray, List.map_cons, List.map_nil]); first | done | rfl | (simp only [List.length_drop, List.length_take]; rfl)) ?_; (with_reducible refine (Choose.calls t133 (wrap64 (Int.tdiv (wrap64 (t133 + 1)) 2)) t149 none _ A29.out).mono ?_); rintro e w76 ⟨ez0, rfl, he0, hb⟩; refine ⟨_, rfl, ?_⟩; have n0_ := Aside0.mk (blk_below (g := gb137) (o := .cells #[.int .i64 t131, .int .i64 t132, .int .i64 t133, .int .i64 t134, .int .i64 t135] 32 (0, 0)) (by (with_reducible repeat (first | refine blk_drewN ?_ _ | refine blk_drew ?_ | refine blk_alloc ?_ _)); exact BK137.out) hb); have n1_ := Aside0.mk (blk_below (g := gb144) (o := .cells #[.int .i64 t138, .int .i64 t139, .int .i64 t140, .int .i64 t141, .int .i64 t142] 32 (0, 0)) (by (with_reducible repeat (first | refine blk_drewN ?_ _ | refine blk_drew ?_ | refine blk_alloc ?_ _)); exact BK144.out) hb); have n2_ := Aside0.mk (below_step (by repeat (first | (with_reducible first | exact HB.out | apply below_alloc | apply pw_below_drewN | apply below_drew1 | refine below_set ?_ GE137.out | refine below_set ?_ GE144.out) | exact HB.out)) hb); clear BK137; clear BK144; clear HB; have BK137 := n0_; have BK144 := n1_; have HB := n2_; clear n0_ n1_ n2_; (try clear hb); (try clear hb2); (try clear hk); (try clear hi); obtain rfl := ErR_nil he0; clear he0; have hcz77_0 : w76.cell? ⟨gb137, 0, none⟩ = some (.int .i64 t131) := (blk_cell BK137.out 0).trans rfl; have hcz77_1 : w76.cell? ⟨gb137, 1, none⟩ = some (.int .i64 t132) := (blk_cell BK137.out 1).trans rfl; have hcz77_2 : w76.cell? ⟨gb137, 2, none⟩ = some (.int .i64 t133) := (blk_cell BK137.out 2).trans rfl; have hcz77_3 : w76.cell? ⟨gb137, 3, none⟩ = some (.int .i64 t134) := (blk_cell BK137.out 3).trans rfl; have hcz77_4 : w76.cell? ⟨gb137, 4, none⟩ = some (.int .i64 t135) := (blk_cell BK137.out 4).trans rfl; have hfz77_0 := blk_frozen BK137.out 0; have hfz77_1 := blk_frozen BK137.out 1; have hfz77_2 := blk_frozen BK137.out 2; have hfz77_3 := blk_frozen BK137.out 3; have hfz77_4 := blk_frozen BK137.out 4) | ((with_reducible refine gate_callee (f := 9) rfl ?_); refine goesL_ (some 87) rfl rfl Try.func9 (by kernel_rfl) rfl #[.int .i64 (wrap64 (t133 - 1)), .int .i64 (wrap64 (Int.tdiv t133 2))] rfl (by (try simp only [List.map_toArray, List.map_cons, List.map_nil]); first | done | rfl | (simp only [List.length_drop, List.length_take]; rfl)) ?_; (with_reducible refine (Choose.calls (wrap64 (t133 - 1)) (wrap64 (Int.tdiv t133 2)) t151 none _ A30.out).mono ?_); rintro e w78 ⟨ez0, rfl, he0, hb⟩; refine ⟨_, rfl, ?_⟩; have n0_ := Aside0.mk (blk_below (g := gb137) (o := .cells #[.int .i64 t131, .int .i64 t132, .int .i64 t133, .int .i64 t134, .int .i64 t135] 32 (0, 0)) (by (with_reducible repeat (first | refine blk_drewN ?_ _ | refine blk_drew ?_ | refine blk_alloc ?_ _)); exact BK137.out) hb); have n1_ := Aside0.mk (blk_below (g := gb144) (o := .cells #[.int .i64 t138, .int .i64 t139, .int .i64 t140, .int .i64 t141, .int .i64 t142] 32 (0, 0)) (by (with_reducible repeat (first | refine blk_drewN ?_ _ | refine blk_drew ?_ | refine blk_alloc ?_ _)); exact BK144.out) hb); have n2_ := Aside0.mk (below_step (by repeat (first | (with_reducible first | exact HB.out | apply below_alloc | apply pw_below_drewN | apply below_drew1 | refine below_set ?_ GE137.out | refine below_set ?_ GE144.out) | exact HB.out)) hb); clear BK137; clear BK144; clear HB; have BK137 := n0_; have BK144 := n1_; have HB := n2_; clear n0_ n1_ n2_; (try clear hb); (try clear hb2); (try clear hk); (try clear hi); obtain rfl := ErR_nil he0; clear he0; have hcz79_0 : w78.cell? ⟨gb137, 0, none⟩ = some (.int .i64 t131) := (blk_cell BK137.out 0).trans rfl; have hcz79_1 : w78.cell? ⟨gb137, 1, none⟩ = some (.int .i64 t132) := (blk_cell BK137.out 1).trans rfl; have hcz79_2 : w78.cell? ⟨gb137, 2, none⟩ = some (.int .i64 t133) := (blk_cell BK137.out 2).trans rfl; have hcz79_3 : w78.cell? ⟨gb137, 3, none⟩ = some (.int .i64 t134) := (blk_cell BK137.out 3).trans rfl; have hcz79_4 : w78.cell? ⟨gb137, 4, none⟩ = some (.int .i64 t135) := (blk_cell BK137.out 4).trans rfl; have hfz79_0 := blk_frozen BK137.out 0; have hfz79_1 := blk_frozen BK137.out 1; have hfz79_2 := blk_frozen BK137.out 2; have hfz79_3 := blk_frozen BK137.out 3; have hfz79_4 := blk_frozen BK137.out 4))
                go_ret
                exact ⟨by first | rfl | (simp [errW_none, errW_some] <;> rfl) | (simp [*, errW_none, errW_some] <;> rfl), by repeat (first | (with_reducible first | exact HB.out | apply below_alloc | apply pw_below_drewN | apply below_drew1 | refine below_set ?_ GE137.out | refine below_set ?_ GE144.out) | exact HB.out)⟩
            · rw [if_neg c31] at H
              have c31b0 : decide ((wrap64 (t131 + t132)) ≤ t149) = false := decide_eq_false c31
              clear c31
              obtain rfl := Option.some.inj H
              have hnb80 := NB137_144.out
              have hnc80 := NB144_137.out
              have hcz81_0 : wc.cell? ⟨gb137, 0, none⟩ = some (.int .i64 t131) := (blk_cell BK137.out 0).trans rfl
              have hcz81_1 : wc.cell? ⟨gb137, 1, none⟩ = some (.int .i64 t132) := (blk_cell BK137.out 1).trans rfl
              have hcz81_2 : wc.cell? ⟨gb137, 2, none⟩ = some (.int .i64 t133) := (blk_cell BK137.out 2).trans rfl
              have hcz81_3 : wc.cell? ⟨gb137, 3, none⟩ = some (.int .i64 t134) := (blk_cell BK137.out 3).trans rfl
              have hcz81_4 : wc.cell? ⟨gb137, 4, none⟩ = some (.int .i64 t135) := (blk_cell BK137.out 4).trans rfl
              have hfz81_0 := blk_frozen BK137.out 0
              have hfz81_1 := blk_frozen BK137.out 1
              have hfz81_2 := blk_frozen BK137.out 2
              have hfz81_3 := blk_frozen BK137.out 3
              have hfz81_4 := blk_frozen BK137.out 4
              go_wp2_with (first | ((with_reducible refine gate_callee (f := 9) rfl ?_); refine goesL_ (some 77) rfl rfl Try.func9 (by kernel_rfl) rfl #[.int .i64 t133, .int .i64 (wrap64 (Int.tdiv (wrap64 (t133 + 1)) 2))] rfl (by (try simp only [List.map_toArray, List.map_cons, List.map_nil]); first | done | rfl | (simp only [List.length_drop, List.length_take]; rfl)) ?_; (with_reducible refine (Choose.calls t133 (wrap64 (Int.tdiv (wrap64 (t133 + 1)) 2)) t149 none _ A29.out).mono ?_); rintro e w82 ⟨ez0, rfl, he0, hb⟩; refine ⟨_, rfl, ?_⟩; have n0_ := Aside0.mk (blk_below (g := gb137) (o := .cells #[.int .i64 t131, .int .i64 t132, .int .i64 t133, .int .i64 t134, .int .i64 t135] 32 (0, 0)) (by (with_reducible repeat (first | refine blk_drewN ?_ _ | refine blk_drew ?_ | refine blk_alloc ?_ _)); exact BK137.out) hb); have n1_ := Aside0.mk (blk_below (g := gb144) (o := .cells #[.int .i64 t138, .int .i64 t139, .int .i64 t140, .int .i64 t141, .int .i64 t142] 32 (0, 0)) (by (with_reducible repeat (first | refine blk_drewN ?_ _ | refine blk_drew ?_ | refine blk_alloc ?_ _)); exact BK144.out) hb); have n2_ := Aside0.mk (below_step (by repeat (first | (with_reducible first | exact HB.out | apply below_alloc | apply pw_below_drewN | apply below_drew1 | refine below_set ?_ GE137.out | refine below_set ?_ GE144.out) | exact HB.out)) hb); clear BK137; clear BK144; clear HB; have BK137 := n0_; have BK144 := n1_; have HB := n2_; clear n0_ n1_ n2_; (try clear hb); (try clear hb2); (try clear hk); (try clear hi); obtain rfl := ErR_nil he0; clear he0; have hcz83_0 : w82.cell? ⟨gb137, 0, none⟩ = some (.int .i64 t131) := (blk_cell BK137.out 0).trans rfl; have hcz83_1 : w82.cell? ⟨gb137, 1, none⟩ = some (.int .i64 t132) := (blk_cell BK137.out 1).trans rfl; have hcz83_2 : w82.cell? ⟨gb137, 2, none⟩ = some (.int .i64 t133) := (blk_cell BK137.out 2).trans rfl; have hcz83_3 : w82.cell? ⟨gb137, 3, none⟩ = some (.int .i64 t134) := (blk_cell BK137.out 3).trans rfl; have hcz83_4 : w82.cell? ⟨gb137, 4, none⟩ = some (.int .i64 t135) := (blk_cell BK137.out 4).trans rfl; have hfz83_0 := blk_frozen BK137.out 0; have hfz83_1 := blk_frozen BK137.out 1; have hfz83_2 := blk_frozen BK137.out 2; have hfz83_3 := blk_frozen BK137.out 3; have hfz83_4 := blk_frozen BK137.out 4) | ((with_reducible refine gate_callee (f := 9) rfl ?_); refine goesL_ (some 87) rfl rfl Try.func9 (by kernel_rfl) rfl #[.int .i64 (wrap64 (t133 - 1)), .int .i64 (wrap64 (Int.tdiv t133 2))] rfl (by (try simp only [List.map_toArray, List.map_cons, List.map_nil]); first | done | rfl | (simp only [List.length_drop, List.length_take]; rfl)) ?_; (with_reducible refine (Choose.calls (wrap64 (t133 - 1)) (wrap64 (Int.tdiv t133 2)) t151 none _ A30.out).mono ?_); rintro e w84 ⟨ez0, rfl, he0, hb⟩; refine ⟨_, rfl, ?_⟩; have n0_ := Aside0.mk (blk_below (g := gb137) (o := .cells #[.int .i64 t131, .int .i64 t132, .int .i64 t133, .int .i64 t134, .int .i64 t135] 32 (0, 0)) (by (with_reducible repeat (first | refine blk_drewN ?_ _ | refine blk_drew ?_ | refine blk_alloc ?_ _)); exact BK137.out) hb); have n1_ := Aside0.mk (blk_below (g := gb144) (o := .cells #[.int .i64 t138, .int .i64 t139, .int .i64 t140, .int .i64 t141, .int .i64 t142] 32 (0, 0)) (by (with_reducible repeat (first | refine blk_drewN ?_ _ | refine blk_drew ?_ | refine blk_alloc ?_ _)); exact BK144.out) hb); have n2_ := Aside0.mk (below_step (by repeat (first | (with_reducible first | exact HB.out | apply below_alloc | apply pw_below_drewN | apply below_drew1 | refine below_set ?_ GE137.out | refine below_set ?_ GE144.out) | exact HB.out)) hb); clear BK137; clear BK144; clear HB; have BK137 := n0_; have BK144 := n1_; have HB := n2_; clear n0_ n1_ n2_; (try clear hb); (try clear hb2); (try clear hk); (try clear hi); obtain rfl := ErR_nil he0; clear he0; have hcz85_0 : w84.cell? ⟨gb137, 0, none⟩ = some (.int .i64 t131) := (blk_cell BK137.out 0).trans rfl; have hcz85_1 : w84.cell? ⟨gb137, 1, none⟩ = some (.int .i64 t132) := (blk_cell BK137.out 1).trans rfl; have hcz85_2 : w84.cell? ⟨gb137, 2, none⟩ = some (.int .i64 t133) := (blk_cell BK137.out 2).trans rfl; have hcz85_3 : w84.cell? ⟨gb137, 3, none⟩ = some (.int .i64 t134) := (blk_cell BK137.out 3).trans rfl; have hcz85_4 : w84.cell? ⟨gb137, 4, none⟩ = some (.int .i64 t135) := (blk_cell BK137.out 4).trans rfl; have hfz85_0 := blk_frozen BK137.out 0; have hfz85_1 := blk_frozen BK137.out 1; have hfz85_2 := blk_frozen BK137.out 2; have hfz85_3 := blk_frozen BK137.out 3; have hfz85_4 := blk_frozen BK137.out 4))
              go_ret
              exact ⟨by first | rfl | (simp [errW_none, errW_some] <;> rfl) | (simp [*, errW_none, errW_some] <;> rfl), by repeat (first | (with_reducible first | exact HB.out | apply below_alloc | apply pw_below_drewN | apply below_drew1 | refine below_set ?_ GE137.out | refine below_set ?_ GE144.out) | exact HB.out)⟩
          · have H1 : (some false) = some r := by rw [if_neg (show ¬ (some q154).isNone = true by simp)] at H; exact H
            clear H
            have H := H1
            clear H1
            try simp only [errW_none, errW_some]
            (try (obtain ⟨ad_q154, rfl⟩ := ErR_ptr HE_t152.out; have HE_q154 := HE_t152; clear HE_t152))
            obtain rfl := Option.some.inj H
            have hnb86 := NB137_144.out
            have hnc86 := NB144_137.out
            have hcz87_0 : wc.cell? ⟨gb137, 0, none⟩ = some (.int .i64 t131) := (blk_cell BK137.out 0).trans rfl
            have hcz87_1 : wc.cell? ⟨gb137, 1, none⟩ = some (.int .i64 t132) := (blk_cell BK137.out 1).trans rfl
            have hcz87_2 : wc.cell? ⟨gb137, 2, none⟩ = some (.int .i64 t133) := (blk_cell BK137.out 2).trans rfl
            have hcz87_3 : wc.cell? ⟨gb137, 3, none⟩ = some (.int .i64 t134) := (blk_cell BK137.out 3).trans rfl
            have hcz87_4 : wc.cell? ⟨gb137, 4, none⟩ = some (.int .i64 t135) := (blk_cell BK137.out 4).trans rfl
            have hfz87_0 := blk_frozen BK137.out 0
            have hfz87_1 := blk_frozen BK137.out 1
            have hfz87_2 := blk_frozen BK137.out 2
            have hfz87_3 := blk_frozen BK137.out 3
            have hfz87_4 := blk_frozen BK137.out 4
            go_wp2_with (first | ((with_reducible refine gate_callee (f := 9) rfl ?_); refine goesL_ (some 77) rfl rfl Try.func9 (by kernel_rfl) rfl #[.int .i64 t133, .int .i64 (wrap64 (Int.tdiv (wrap64 (t133 + 1)) 2))] rfl (by (try simp only [List.map_toArray, List.map_cons, List.map_nil]); first | done | rfl | (simp only [List.length_drop, List.length_take]; rfl)) ?_; (with_reducible refine (Choose.calls t133 (wrap64 (Int.tdiv (wrap64 (t133 + 1)) 2)) t149 none _ A29.out).mono ?_); rintro e w88 ⟨ez0, rfl, he0, hb⟩; refine ⟨_, rfl, ?_⟩; have n0_ := Aside0.mk (blk_below (g := gb137) (o := .cells #[.int .i64 t131, .int .i64 t132, .int .i64 t133, .int .i64 t134, .int .i64 t135] 32 (0, 0)) (by (with_reducible repeat (first | refine blk_drewN ?_ _ | refine blk_drew ?_ | refine blk_alloc ?_ _)); exact BK137.out) hb); have n1_ := Aside0.mk (blk_below (g := gb144) (o := .cells #[.int .i64 t138, .int .i64 t139, .int .i64 t140, .int .i64 t141, .int .i64 t142] 32 (0, 0)) (by (with_reducible repeat (first | refine blk_drewN ?_ _ | refine blk_drew ?_ | refine blk_alloc ?_ _)); exact BK144.out) hb); have n2_ := Aside0.mk (below_step (by repeat (first | (with_reducible first | exact HB.out | apply below_alloc | apply pw_below_drewN | apply below_drew1 | refine below_set ?_ GE137.out | refine below_set ?_ GE144.out) | exact HB.out)) hb); clear BK137; clear BK144; clear HB; have BK137 := n0_; have BK144 := n1_; have HB := n2_; clear n0_ n1_ n2_; (try clear hb); (try clear hb2); (try clear hk); (try clear hi); obtain rfl := ErR_nil he0; clear he0; have hcz89_0 : w88.cell? ⟨gb137, 0, none⟩ = some (.int .i64 t131) := (blk_cell BK137.out 0).trans rfl; have hcz89_1 : w88.cell? ⟨gb137, 1, none⟩ = some (.int .i64 t132) := (blk_cell BK137.out 1).trans rfl; have hcz89_2 : w88.cell? ⟨gb137, 2, none⟩ = some (.int .i64 t133) := (blk_cell BK137.out 2).trans rfl; have hcz89_3 : w88.cell? ⟨gb137, 3, none⟩ = some (.int .i64 t134) := (blk_cell BK137.out 3).trans rfl; have hcz89_4 : w88.cell? ⟨gb137, 4, none⟩ = some (.int .i64 t135) := (blk_cell BK137.out 4).trans rfl; have hfz89_0 := blk_frozen BK137.out 0; have hfz89_1 := blk_frozen BK137.out 1; have hfz89_2 := blk_frozen BK137.out 2; have hfz89_3 := blk_frozen BK137.out 3; have hfz89_4 := blk_frozen BK137.out 4) | ((with_reducible refine gate_callee (f := 9) rfl ?_); refine goesL_ (some 87) rfl rfl Try.func9 (by kernel_rfl) rfl #[.int .i64 (wrap64 (t133 - 1)), .int .i64 (wrap64 (Int.tdiv t133 2))] rfl (by (try simp only [List.map_toArray, List.map_cons, List.map_nil]); first | done | rfl | (simp only [List.length_drop, List.length_take]; rfl)) ?_; (with_reducible refine (Choose.calls (wrap64 (t133 - 1)) (wrap64 (Int.tdiv t133 2)) t151 (some q154) _ A30.out).mono ?_); rintro e w90 ⟨ez0, rfl, he0, hb⟩; refine ⟨_, rfl, ?_⟩; have n0_ := Aside0.mk (blk_below (g := gb137) (o := .cells #[.int .i64 t131, .int .i64 t132, .int .i64 t133, .int .i64 t134, .int .i64 t135] 32 (0, 0)) (by (with_reducible repeat (first | refine blk_drewN ?_ _ | refine blk_drew ?_ | refine blk_alloc ?_ _)); exact BK137.out) hb); have n1_ := Aside0.mk (blk_below (g := gb144) (o := .cells #[.int .i64 t138, .int .i64 t139, .int .i64 t140, .int .i64 t141, .int .i64 t142] 32 (0, 0)) (by (with_reducible repeat (first | refine blk_drewN ?_ _ | refine blk_drew ?_ | refine blk_alloc ?_ _)); exact BK144.out) hb); have n2_ := Aside0.mk (below_step (by repeat (first | (with_reducible first | exact HB.out | apply below_alloc | apply pw_below_drewN | apply below_drew1 | refine below_set ?_ GE137.out | refine below_set ?_ GE144.out) | exact HB.out)) hb); clear BK137; clear BK144; clear HB; have BK137 := n0_; have BK144 := n1_; have HB := n2_; clear n0_ n1_ n2_; (try clear hb); (try clear hb2); (try clear hk); (try clear hi); obtain ⟨ad_q154, rfl⟩ := ErR_ptr he0; have HE_q154 := Aside0.mk he0; clear he0))
            go_ret
            exact ⟨by first | rfl | (simp [errW_none, errW_some] <;> rfl) | (simp [*, errW_none, errW_some] <;> rfl), by repeat (first | (with_reducible first | exact HB.out | apply below_alloc | apply pw_below_drewN | apply below_drew1 | refine below_set ?_ GE137.out | refine below_set ?_ GE144.out) | exact HB.out)⟩
        · have H1 : (some false) = some r := by rw [if_neg (show ¬ (some q153).isNone = true by simp)] at H; exact H
          clear H
          have H := H1
          clear H1
          try simp only [errW_none, errW_some]
          (try (obtain ⟨ad_q153, rfl⟩ := ErR_ptr HE_t150.out; have HE_q153 := HE_t150; clear HE_t150))
          obtain rfl := Option.some.inj H
          have hnb91 := NB137_144.out
          have hnc91 := NB144_137.out
          have hcz92_0 : wc.cell? ⟨gb137, 0, none⟩ = some (.int .i64 t131) := (blk_cell BK137.out 0).trans rfl
          have hcz92_1 : wc.cell? ⟨gb137, 1, none⟩ = some (.int .i64 t132) := (blk_cell BK137.out 1).trans rfl
          have hcz92_2 : wc.cell? ⟨gb137, 2, none⟩ = some (.int .i64 t133) := (blk_cell BK137.out 2).trans rfl
          have hcz92_3 : wc.cell? ⟨gb137, 3, none⟩ = some (.int .i64 t134) := (blk_cell BK137.out 3).trans rfl
          have hcz92_4 : wc.cell? ⟨gb137, 4, none⟩ = some (.int .i64 t135) := (blk_cell BK137.out 4).trans rfl
          have hfz92_0 := blk_frozen BK137.out 0
          have hfz92_1 := blk_frozen BK137.out 1
          have hfz92_2 := blk_frozen BK137.out 2
          have hfz92_3 := blk_frozen BK137.out 3
          have hfz92_4 := blk_frozen BK137.out 4
          go_wp2_with (first | ((with_reducible refine gate_callee (f := 9) rfl ?_); refine goesL_ (some 77) rfl rfl Try.func9 (by kernel_rfl) rfl #[.int .i64 t133, .int .i64 (wrap64 (Int.tdiv (wrap64 (t133 + 1)) 2))] rfl (by (try simp only [List.map_toArray, List.map_cons, List.map_nil]); first | done | rfl | (simp only [List.length_drop, List.length_take]; rfl)) ?_; (with_reducible refine (Choose.calls t133 (wrap64 (Int.tdiv (wrap64 (t133 + 1)) 2)) t149 (some q153) _ A29.out).mono ?_); rintro e w93 ⟨ez0, rfl, he0, hb⟩; refine ⟨_, rfl, ?_⟩; have n0_ := Aside0.mk (blk_below (g := gb137) (o := .cells #[.int .i64 t131, .int .i64 t132, .int .i64 t133, .int .i64 t134, .int .i64 t135] 32 (0, 0)) (by (with_reducible repeat (first | refine blk_drewN ?_ _ | refine blk_drew ?_ | refine blk_alloc ?_ _)); exact BK137.out) hb); have n1_ := Aside0.mk (blk_below (g := gb144) (o := .cells #[.int .i64 t138, .int .i64 t139, .int .i64 t140, .int .i64 t141, .int .i64 t142] 32 (0, 0)) (by (with_reducible repeat (first | refine blk_drewN ?_ _ | refine blk_drew ?_ | refine blk_alloc ?_ _)); exact BK144.out) hb); have n2_ := Aside0.mk (below_step (by repeat (first | (with_reducible first | exact HB.out | apply below_alloc | apply pw_below_drewN | apply below_drew1 | refine below_set ?_ GE137.out | refine below_set ?_ GE144.out) | exact HB.out)) hb); clear BK137; clear BK144; clear HB; have BK137 := n0_; have BK144 := n1_; have HB := n2_; clear n0_ n1_ n2_; (try clear hb); (try clear hb2); (try clear hk); (try clear hi); obtain ⟨ad_q153, rfl⟩ := ErR_ptr he0; have HE_q153 := Aside0.mk he0; clear he0; have hcz94_0 : w93.cell? ⟨gb137, 0, none⟩ = some (.int .i64 t131) := (blk_cell BK137.out 0).trans rfl; have hcz94_1 : w93.cell? ⟨gb137, 1, none⟩ = some (.int .i64 t132) := (blk_cell BK137.out 1).trans rfl; have hcz94_2 : w93.cell? ⟨gb137, 2, none⟩ = some (.int .i64 t133) := (blk_cell BK137.out 2).trans rfl; have hcz94_3 : w93.cell? ⟨gb137, 3, none⟩ = some (.int .i64 t134) := (blk_cell BK137.out 3).trans rfl; have hcz94_4 : w93.cell? ⟨gb137, 4, none⟩ = some (.int .i64 t135) := (blk_cell BK137.out 4).trans rfl; have hfz94_0 := blk_frozen BK137.out 0; have hfz94_1 := blk_frozen BK137.out 1; have hfz94_2 := blk_frozen BK137.out 2; have hfz94_3 := blk_frozen BK137.out 3; have hfz94_4 := blk_frozen BK137.out 4) | ((with_reducible refine gate_callee (f := 9) rfl ?_); refine goesL_ (some 87) rfl rfl Try.func9 (by kernel_rfl) rfl #[.int .i64 (wrap64 (t133 - 1)), .int .i64 (wrap64 (Int.tdiv t133 2))] rfl (by (try simp only [List.map_toArray, List.map_cons, List.map_nil]); first | done | rfl | (simp only [List.length_drop, List.length_take]; rfl)) ?_; (with_reducible refine (Choose.calls (wrap64 (t133 - 1)) (wrap64 (Int.tdiv t133 2)) t151 t152 _ A30.out).mono ?_); rintro e w95 ⟨ev_t152, rfl, he0, hb⟩; refine ⟨_, rfl, ?_⟩; (try (have nE_ := Aside0.mk (ErR_below hb (by repeat (first | (with_reducible exact HE_q153.out) | (with_reducible apply ErR_drew) | (with_reducible apply ErR_drewN) | (with_reducible apply ErR_alloc) | (with_reducible refine ErR_set (by repeat (first | (with_reducible refine NF_blk (Aside0.out (by assumption)) (by decide)) | (with_reducible apply NF_set) | (with_reducible apply NF_drew) | (with_reducible apply NF_drewN) | (with_reducible apply NF_alloc))) ?_) | exact HE_q153.out | apply ErR_drew | apply ErR_drewN | apply ErR_alloc))); clear HE_q153; have HE_q153 := nE_; clear nE_)); have n0_ := Aside0.mk (blk_below (g := gb137) (o := .cells #[.int .i64 t131, .int .i64 t132, .int .i64 t133, .int .i64 t134, .int .i64 t135] 32 (0, 0)) (by (with_reducible repeat (first | refine blk_drewN ?_ _ | refine blk_drew ?_ | refine blk_alloc ?_ _)); exact BK137.out) hb); have n1_ := Aside0.mk (blk_below (g := gb144) (o := .cells #[.int .i64 t138, .int .i64 t139, .int .i64 t140, .int .i64 t141, .int .i64 t142] 32 (0, 0)) (by (with_reducible repeat (first | refine blk_drewN ?_ _ | refine blk_drew ?_ | refine blk_alloc ?_ _)); exact BK144.out) hb); have n2_ := Aside0.mk (below_step (by repeat (first | (with_reducible first | exact HB.out | apply below_alloc | apply pw_below_drewN | apply below_drew1 | refine below_set ?_ GE137.out | refine below_set ?_ GE144.out) | exact HB.out)) hb); clear BK137; clear BK144; clear HB; have BK137 := n0_; have BK144 := n1_; have HB := n2_; clear n0_ n1_ n2_; (try clear hb); (try clear hb2); (try clear hk); (try clear hi); have HE_t152 := Aside0.mk he0; clear he0))
          go_ret
          exact ⟨by first | rfl | (simp [errW_none, errW_some] <;> rfl) | (simp [*, errW_none, errW_some] <;> rfl), by repeat (first | (with_reducible first | exact HB.out | apply below_alloc | apply pw_below_drewN | apply below_drew1 | refine below_set ?_ GE137.out | refine below_set ?_ GE144.out) | exact HB.out)⟩

/-- THE ONE PURE STATEMENT of geyserlaw08_ParamsRight: yours. -/
def geyserlaw08_ParamsRight.Pure : Prop := ∀ (a0 : Int), (Lit.int .i64 a0).wf = true → ∃ k, geyserlaw08_ParamsRight.f k a0 = some true
theorem geyserlaw08_ParamsRight.walk (P : geyserlaw08_ParamsRight.Pure) (a0 : Int) (w : World) (w0 : (Lit.int .i64 a0).wf = true) :
    Calls Try.prog 5 #[.int .i64 a0] w fun e w' => e = .returned (.bool true) ∧ Below w.heap.size w w' := by
  obtain ⟨k, h⟩ := P a0 w0
  refine (geyserlaw08_ParamsRight.calls k a0 true w h).mono ?_
  rintro e w' ⟨rfl, hd⟩
  exact ⟨rfl, hd⟩

end Go.Proofs.Ytnlkeeaoknbmbaa.QParamsRight
