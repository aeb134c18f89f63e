/- geyserref16.bare by its contract. Conditions: none. Printed by mkbare.py. -/
import Derived.Test.YtfcofokbhhnfkaaDoorCst
namespace Go.Proofs.YtfcofokbhhnfkaaDoor.Byt
set_option linter.unusedSimpArgs false
set_option linter.unusedVariables false
open Go.RowKit Go.Deep Go.Proofs.YtfcofokbhhnfkaaDoor.Er Go.Proofs.YtfcofokbhhnfkaaDoorW.PrintWords Go.Proofs.YtfcofokbhhnfkaaDoorW.PrintLast Go.Proofs.YtfcofokbhhnfkaaDoorW.PrintMore
set_option maxHeartbeats 8000000 in
set_option maxRecDepth 100000 in
theorem bare_calls (p : Pk) (A : Option Addr) (L c : Nat) (w : World) : Calls Tryd.prog 22 #[pkV p (.slice A L c)] w fun e w' => e = .returned (pkV (bareP p) (bareV p (.slice A L c))) ∧ Below w.heap.size w w' := by
  obtain ⟨kind, sess, layer, tick, burst, sync, many, place, block, esi, data, size, sym, blocks, long, short, layers, esis, base, len⟩ := p
  by_cases hk : kind = 1
  · skip
    have f_k : (kind == 1) = true := beq_iff_eq.2 hk
    have HBP : Hid (bareP (Pk.mk kind sess layer tick burst sync many place block esi data size sym blocks long short layers esis base len) = Pk.mk kind sess layer tick burst sync many place block esi data 0 0 0 0 0 0 0 0 0 ∧ bareV (Pk.mk kind sess layer tick burst sync many place block esi data size sym blocks long short layers esis base len) (.slice A L c) = (.slice A L c)) := Lib.hid ⟨if_pos hk, if_pos hk⟩
    clear hk
    go_enter Tryd.func22, Tryd.ntmps22
    go_upto_region 2 with (first
      | ((with_reducible refine gate_dst (N := 1) rfl ?_); refine wp_box (p := Pk.mk kind sess layer tick burst sync many place block esi data size sym blocks long short layers esis base len) rfl (.tmp 0) rfl rfl rfl ?_; intro w1 hP hB hs; have H1 := Lib.hid (And.intro hP (And.intro hB hs)); clear hP hB hs)
      | ((with_reducible refine gate_dst (N := 2) rfl ?_); refine wp_allocPk rfl rfl ?_; intro w2 hP hB hs; have H2 := Lib.hid (And.intro (H1.out.1.below hB) (And.intro hP (H1.out.2.1.trans (hB.mono H1.out.2.1.size)))); clear hP hB hs; have s0 : w2.cell? ⟨w.heap.size, 0, none⟩ = some (.int .i64 kind) := (blk_cell H2.out.1 0).trans rfl; have s1 : w2.cell? ⟨w.heap.size, 1, none⟩ = some (.int .i64 sess) := (blk_cell H2.out.1 1).trans rfl; have s2 : w2.cell? ⟨w.heap.size, 2, none⟩ = some (.int .i64 layer) := (blk_cell H2.out.1 2).trans rfl; have s3 : w2.cell? ⟨w.heap.size, 3, none⟩ = some (.int .i64 tick) := (blk_cell H2.out.1 3).trans rfl)
      | ((with_reducible refine gate_dst (N := 3) rfl ?_); refine wp_allocPk rfl rfl ?_; intro w3 hP hB hs; have H3 := Lib.hid (And.intro hP (And.intro hB hs)); clear hP hB hs)
      | ((with_reducible refine gate_store (t := 26) (p := 3) rfl ?_)
         refine wp_stpk (p := Pk.mk kind sess layer tick false 0 0 0 0 0 [] 0 0 0 0 0 0 0 0 0) (A := none) (L := 0) (c := 0) rfl rfl rfl rfl H3.out.1 rfl ?_
         intro w4 hP hO
         have HC0 := Lib.hid (CS.box (w := w) H2.out.2.1 H2.out.2.2 (by have := H1.out.2.2; omega) rfl H3.out.2.1 hO hP)
         have HP0 : Hid (PkAt w4 w.heap.size (Pk.mk kind sess layer tick burst sync many place block esi data size sym blocks long short layers esis base len) (.slice A L c)) := Lib.hid (H2.out.1.below (hO.below H3.out.2.1 (Nat.le_refl _)))
         clear hP hO))
    have HLT : Hid (w.heap.size < w1.heap.size ∧ w1.heap.size < w2.heap.size) := Lib.hid ⟨by have := H1.out.2.2; omega, HC0.out.h2⟩
    clear s0 s1 s2 s3 H3 H2 H1
    have s0 : w4.cell? ⟨w.heap.size, 0, none⟩ = some (.int .i64 kind) := (blk_cell HP0.out 0).trans rfl
    go_upto_region 3 with (fail)
    clear s0
    have l4 : w4.cell? ⟨w.heap.size, 4, none⟩ = some (.bool burst) := (blk_cell HP0.out 4).trans rfl
    have t4 : w4.cell? ⟨w2.heap.size, 4, none⟩ = some (.bool false) := (blk_cell HC0.out.Q 4).trans rfl
    have f4 := blk_frozen HC0.out.Q 4
    go_upto_region 4 with (fail)
    have HC1 := Lib.hid (HC0.out.put 4 (.bool burst) (Pk.mk kind sess layer tick burst 0 0 0 0 0 [] 0 0 0 0 0 0 0 0 0) (.slice none 0 0) rfl)
    have HP1 := Lib.hid (HP0.out.only (Only.set w4 w2.heap.size 4 (.bool burst)) (by have := HLT.out; omega))
    clear l4 t4 f4
    generalize (w4.setCell ⟨w2.heap.size, 4, none⟩ (.bool burst)) = x1 at HC1 HP1 ⊢
    clear HC0 HP0
    have l5 : x1.cell? ⟨w.heap.size, 5, none⟩ = some (.int .i64 sync) := (blk_cell HP1.out 5).trans rfl
    have t5 : x1.cell? ⟨w2.heap.size, 5, none⟩ = some (.int .i64 0) := (blk_cell HC1.out.Q 5).trans rfl
    have f5 := blk_frozen HC1.out.Q 5
    go_upto_region 5 with (fail)
    have HC2 := Lib.hid (HC1.out.put 5 (.int .i64 sync) (Pk.mk kind sess layer tick burst sync 0 0 0 0 [] 0 0 0 0 0 0 0 0 0) (.slice none 0 0) rfl)
    have HP2 := Lib.hid (HP1.out.only (Only.set x1 w2.heap.size 5 (.int .i64 sync)) (by have := HLT.out; omega))
    clear l5 t5 f5
    generalize (x1.setCell ⟨w2.heap.size, 5, none⟩ (.int .i64 sync)) = x2 at HC2 HP2 ⊢
    clear HC1 HP1
    have l6 : x2.cell? ⟨w.heap.size, 6, none⟩ = some (.int .i64 many) := (blk_cell HP2.out 6).trans rfl
    have t6 : x2.cell? ⟨w2.heap.size, 6, none⟩ = some (.int .i64 0) := (blk_cell HC2.out.Q 6).trans rfl
    have f6 := blk_frozen HC2.out.Q 6
    go_upto_region 6 with (fail)
    have HC3 := Lib.hid (HC2.out.put 6 (.int .i64 many) (Pk.mk kind sess layer tick burst sync many 0 0 0 [] 0 0 0 0 0 0 0 0 0) (.slice none 0 0) rfl)
    have HP3 := Lib.hid (HP2.out.only (Only.set x2 w2.heap.size 6 (.int .i64 many)) (by have := HLT.out; omega))
    clear l6 t6 f6
    generalize (x2.setCell ⟨w2.heap.size, 6, none⟩ (.int .i64 many)) = x3 at HC3 HP3 ⊢
    clear HC2 HP2
    have l7 : x3.cell? ⟨w.heap.size, 7, none⟩ = some (.int .i64 place) := (blk_cell HP3.out 7).trans rfl
    have t7 : x3.cell? ⟨w2.heap.size, 7, none⟩ = some (.int .i64 0) := (blk_cell HC3.out.Q 7).trans rfl
    have f7 := blk_frozen HC3.out.Q 7
    go_upto_region 7 with (fail)
    have HC4 := Lib.hid (HC3.out.put 7 (.int .i64 place) (Pk.mk kind sess layer tick burst sync many place 0 0 [] 0 0 0 0 0 0 0 0 0) (.slice none 0 0) rfl)
    have HP4 := Lib.hid (HP3.out.only (Only.set x3 w2.heap.size 7 (.int .i64 place)) (by have := HLT.out; omega))
    clear l7 t7 f7
    generalize (x3.setCell ⟨w2.heap.size, 7, none⟩ (.int .i64 place)) = x4 at HC4 HP4 ⊢
    clear HC3 HP3
    have l8 : x4.cell? ⟨w.heap.size, 8, none⟩ = some (.int .i64 block) := (blk_cell HP4.out 8).trans rfl
    have t8 : x4.cell? ⟨w2.heap.size, 8, none⟩ = some (.int .i64 0) := (blk_cell HC4.out.Q 8).trans rfl
    have f8 := blk_frozen HC4.out.Q 8
    go_upto_region 8 with (fail)
    have HC5 := Lib.hid (HC4.out.put 8 (.int .i64 block) (Pk.mk kind sess layer tick burst sync many place block 0 [] 0 0 0 0 0 0 0 0 0) (.slice none 0 0) rfl)
    have HP5 := Lib.hid (HP4.out.only (Only.set x4 w2.heap.size 8 (.int .i64 block)) (by have := HLT.out; omega))
    clear l8 t8 f8
    generalize (x4.setCell ⟨w2.heap.size, 8, none⟩ (.int .i64 block)) = x5 at HC5 HP5 ⊢
    clear HC4 HP4
    have l9 : x5.cell? ⟨w.heap.size, 9, none⟩ = some (.int .i64 esi) := (blk_cell HP5.out 9).trans rfl
    have t9 : x5.cell? ⟨w2.heap.size, 9, none⟩ = some (.int .i64 0) := (blk_cell HC5.out.Q 9).trans rfl
    have f9 := blk_frozen HC5.out.Q 9
    go_upto_region 9 with (fail)
    have HC6 := Lib.hid (HC5.out.put 9 (.int .i64 esi) (Pk.mk kind sess layer tick burst sync many place block esi [] 0 0 0 0 0 0 0 0 0) (.slice none 0 0) rfl)
    have HP6 := Lib.hid (HP5.out.only (Only.set x5 w2.heap.size 9 (.int .i64 esi)) (by have := HLT.out; omega))
    clear l9 t9 f9
    generalize (x5.setCell ⟨w2.heap.size, 9, none⟩ (.int .i64 esi)) = x6 at HC6 HP6 ⊢
    clear HC5 HP5
    have l10 : x6.cell? ⟨w.heap.size, 10, none⟩ = some (.slice A L c) := (blk_cell HP6.out 10).trans rfl
    have t10 : x6.cell? ⟨w2.heap.size, 10, none⟩ = some (.slice none 0 0) := (blk_cell HC6.out.Q 10).trans rfl
    have f10 := blk_frozen HC6.out.Q 10
    go_upto_region 10 with (fail)
    have HC7 := Lib.hid (HC6.out.put 10 (.slice A L c) (Pk.mk kind sess layer tick burst sync many place block esi data 0 0 0 0 0 0 0 0 0) (.slice A L c) rfl)
    have HP7 := Lib.hid (HP6.out.only (Only.set x6 w2.heap.size 10 (.slice A L c)) (by have := HLT.out; omega))
    clear l10 t10 f10
    generalize (x6.setCell ⟨w2.heap.size, 10, none⟩ (.slice A L c)) = x7 at HC7 HP7 ⊢
    clear HC6 HP6
    go_wp2_with (first
      | ((with_reducible refine gate_dst (N := 37) rfl ?_); refine wp_ldpk rfl (.tmp 3) rfl rfl HC7.out.Q ?_)
      | ((with_reducible refine gate_store (t := 26) (p := 2) rfl ?_)
         refine wp_stpk (p := Pk.mk kind sess layer tick burst sync many place block esi data 0 0 0 0 0 0 0 0 0) (A := A) (L := L) (c := c) rfl rfl rfl rfl HC7.out.R rfl ?_
         intro y4 hP hO
         have HE4 := Lib.hid (And.intro hP hO)
         clear hP hO))
    (try simp only [Exit.inBlock, Exit.then])
    refine bodyPost_ret (results_c1 rfl _ _ w1.heap.size _ _ _ _ rfl HE4.out.1 Tryd.underlying26 rfl (show (Tryd.prog.info? 26).map (·.size) = some 20 by kernel_rfl)) rfl ?_
    exact ⟨by rw [HBP.out.1, HBP.out.2]; rfl, HE4.out.2.below HC7.out.B HC7.out.h1⟩
  · skip
    have f_k : (kind == 1) = false := beq_eq_false_iff_ne.2 hk
    have HBP : Hid (bareP (Pk.mk kind sess layer tick burst sync many place block esi data size sym blocks long short layers esis base len) = Pk.mk kind sess layer tick false 0 0 0 0 0 [] size sym blocks long short layers esis base len ∧ bareV (Pk.mk kind sess layer tick burst sync many place block esi data size sym blocks long short layers esis base len) (.slice A L c) = (.slice none 0 0)) := Lib.hid ⟨if_neg hk, if_neg hk⟩
    clear hk
    go_enter Tryd.func22, Tryd.ntmps22
    go_upto_region 2 with (first
      | ((with_reducible refine gate_dst (N := 1) rfl ?_); refine wp_box (p := Pk.mk kind sess layer tick burst sync many place block esi data size sym blocks long short layers esis base len) rfl (.tmp 0) rfl rfl rfl ?_; intro w1 hP hB hs; have H1 := Lib.hid (And.intro hP (And.intro hB hs)); clear hP hB hs)
      | ((with_reducible refine gate_dst (N := 2) rfl ?_); refine wp_allocPk rfl rfl ?_; intro w2 hP hB hs; have H2 := Lib.hid (And.intro (H1.out.1.below hB) (And.intro hP (H1.out.2.1.trans (hB.mono H1.out.2.1.size)))); clear hP hB hs; have s0 : w2.cell? ⟨w.heap.size, 0, none⟩ = some (.int .i64 kind) := (blk_cell H2.out.1 0).trans rfl; have s1 : w2.cell? ⟨w.heap.size, 1, none⟩ = some (.int .i64 sess) := (blk_cell H2.out.1 1).trans rfl; have s2 : w2.cell? ⟨w.heap.size, 2, none⟩ = some (.int .i64 layer) := (blk_cell H2.out.1 2).trans rfl; have s3 : w2.cell? ⟨w.heap.size, 3, none⟩ = some (.int .i64 tick) := (blk_cell H2.out.1 3).trans rfl)
      | ((with_reducible refine gate_dst (N := 3) rfl ?_); refine wp_allocPk rfl rfl ?_; intro w3 hP hB hs; have H3 := Lib.hid (And.intro hP (And.intro hB hs)); clear hP hB hs)
      | ((with_reducible refine gate_store (t := 26) (p := 3) rfl ?_)
         refine wp_stpk (p := Pk.mk kind sess layer tick false 0 0 0 0 0 [] 0 0 0 0 0 0 0 0 0) (A := none) (L := 0) (c := 0) rfl rfl rfl rfl H3.out.1 rfl ?_
         intro w4 hP hO
         have HC0 := Lib.hid (CS.box (w := w) H2.out.2.1 H2.out.2.2 (by have := H1.out.2.2; omega) rfl H3.out.2.1 hO hP)
         have HP0 : Hid (PkAt w4 w.heap.size (Pk.mk kind sess layer tick burst sync many place block esi data size sym blocks long short layers esis base len) (.slice A L c)) := Lib.hid (H2.out.1.below (hO.below H3.out.2.1 (Nat.le_refl _)))
         clear hP hO))
    have HLT : Hid (w.heap.size < w1.heap.size ∧ w1.heap.size < w2.heap.size) := Lib.hid ⟨by have := H1.out.2.2; omega, HC0.out.h2⟩
    clear s0 s1 s2 s3 H3 H2 H1
    have s0 : w4.cell? ⟨w.heap.size, 0, none⟩ = some (.int .i64 kind) := (blk_cell HP0.out 0).trans rfl
    go_upto_region 11 with (fail)
    clear s0
    have l11 : w4.cell? ⟨w.heap.size, 11, none⟩ = some (.int .i64 size) := (blk_cell HP0.out 11).trans rfl
    have t11 : w4.cell? ⟨w2.heap.size, 11, none⟩ = some (.int .i64 0) := (blk_cell HC0.out.Q 11).trans rfl
    have f11 := blk_frozen HC0.out.Q 11
    have l12 : w4.cell? ⟨w.heap.size, 12, none⟩ = some (.int .i64 sym) := (blk_cell HP0.out 12).trans rfl
    have t12 : w4.cell? ⟨w2.heap.size, 12, none⟩ = some (.int .i64 0) := (blk_cell HC0.out.Q 12).trans rfl
    have f12 := blk_frozen HC0.out.Q 12
    have l13 : w4.cell? ⟨w.heap.size, 13, none⟩ = some (.int .i64 blocks) := (blk_cell HP0.out 13).trans rfl
    have t13 : w4.cell? ⟨w2.heap.size, 13, none⟩ = some (.int .i64 0) := (blk_cell HC0.out.Q 13).trans rfl
    have f13 := blk_frozen HC0.out.Q 13
    have l14 : w4.cell? ⟨w.heap.size, 14, none⟩ = some (.int .i64 long) := (blk_cell HP0.out 14).trans rfl
    have t14 : w4.cell? ⟨w2.heap.size, 14, none⟩ = some (.int .i64 0) := (blk_cell HC0.out.Q 14).trans rfl
    have f14 := blk_frozen HC0.out.Q 14
    have l15 : w4.cell? ⟨w.heap.size, 15, none⟩ = some (.int .i64 short) := (blk_cell HP0.out 15).trans rfl
    have t15 : w4.cell? ⟨w2.heap.size, 15, none⟩ = some (.int .i64 0) := (blk_cell HC0.out.Q 15).trans rfl
    have f15 := blk_frozen HC0.out.Q 15
    go_upto_region 12 with (fail)
    have HC1 := Lib.hid (((((HC0.out.put 11 (.int .i64 size) (Pk.mk kind sess layer tick false 0 0 0 0 0 [] size 0 0 0 0 0 0 0 0) (.slice none 0 0) rfl).put 12 (.int .i64 sym) (Pk.mk kind sess layer tick false 0 0 0 0 0 [] size sym 0 0 0 0 0 0 0) (.slice none 0 0) rfl).put 13 (.int .i64 blocks) (Pk.mk kind sess layer tick false 0 0 0 0 0 [] size sym blocks 0 0 0 0 0 0) (.slice none 0 0) rfl).put 14 (.int .i64 long) (Pk.mk kind sess layer tick false 0 0 0 0 0 [] size sym blocks long 0 0 0 0 0) (.slice none 0 0) rfl).put 15 (.int .i64 short) (Pk.mk kind sess layer tick false 0 0 0 0 0 [] size sym blocks long short 0 0 0 0) (.slice none 0 0) rfl)
    have HP1 := Lib.hid (((((HP0.out.only (Only.set w4 w2.heap.size 11 (.int .i64 size)) (by have := HLT.out; omega)).only (Only.set (w4.setCell ⟨w2.heap.size, 11, none⟩ (.int .i64 size)) w2.heap.size 12 (.int .i64 sym)) (by have := HLT.out; omega)).only (Only.set ((w4.setCell ⟨w2.heap.size, 11, none⟩ (.int .i64 size)).setCell ⟨w2.heap.size, 12, none⟩ (.int .i64 sym)) w2.heap.size 13 (.int .i64 blocks)) (by have := HLT.out; omega)).only (Only.set (((w4.setCell ⟨w2.heap.size, 11, none⟩ (.int .i64 size)).setCell ⟨w2.heap.size, 12, none⟩ (.int .i64 sym)).setCell ⟨w2.heap.size, 13, none⟩ (.int .i64 blocks)) w2.heap.size 14 (.int .i64 long)) (by have := HLT.out; omega)).only (Only.set ((((w4.setCell ⟨w2.heap.size, 11, none⟩ (.int .i64 size)).setCell ⟨w2.heap.size, 12, none⟩ (.int .i64 sym)).setCell ⟨w2.heap.size, 13, none⟩ (.int .i64 blocks)).setCell ⟨w2.heap.size, 14, none⟩ (.int .i64 long)) w2.heap.size 15 (.int .i64 short)) (by have := HLT.out; omega))
    clear l11 t11 f11 l12 t12 f12 l13 t13 f13 l14 t14 f14 l15 t15 f15
    generalize (((((w4.setCell ⟨w2.heap.size, 11, none⟩ (.int .i64 size)).setCell ⟨w2.heap.size, 12, none⟩ (.int .i64 sym)).setCell ⟨w2.heap.size, 13, none⟩ (.int .i64 blocks)).setCell ⟨w2.heap.size, 14, none⟩ (.int .i64 long)).setCell ⟨w2.heap.size, 15, none⟩ (.int .i64 short)) = x1 at HC1 HP1 ⊢
    clear HC0 HP0
    have l16 : x1.cell? ⟨w.heap.size, 16, none⟩ = some (.int .i64 layers) := (blk_cell HP1.out 16).trans rfl
    have t16 : x1.cell? ⟨w2.heap.size, 16, none⟩ = some (.int .i64 0) := (blk_cell HC1.out.Q 16).trans rfl
    have f16 := blk_frozen HC1.out.Q 16
    go_upto_region 13 with (fail)
    have HC2 := Lib.hid (HC1.out.put 16 (.int .i64 layers) (Pk.mk kind sess layer tick false 0 0 0 0 0 [] size sym blocks long short layers 0 0 0) (.slice none 0 0) rfl)
    have HP2 := Lib.hid (HP1.out.only (Only.set x1 w2.heap.size 16 (.int .i64 layers)) (by have := HLT.out; omega))
    clear l16 t16 f16
    generalize (x1.setCell ⟨w2.heap.size, 16, none⟩ (.int .i64 layers)) = x2 at HC2 HP2 ⊢
    clear HC1 HP1
    have l17 : x2.cell? ⟨w.heap.size, 17, none⟩ = some (.int .i64 esis) := (blk_cell HP2.out 17).trans rfl
    have t17 : x2.cell? ⟨w2.heap.size, 17, none⟩ = some (.int .i64 0) := (blk_cell HC2.out.Q 17).trans rfl
    have f17 := blk_frozen HC2.out.Q 17
    go_upto_region 14 with (fail)
    have HC3 := Lib.hid (HC2.out.put 17 (.int .i64 esis) (Pk.mk kind sess layer tick false 0 0 0 0 0 [] size sym blocks long short layers esis 0 0) (.slice none 0 0) rfl)
    have HP3 := Lib.hid (HP2.out.only (Only.set x2 w2.heap.size 17 (.int .i64 esis)) (by have := HLT.out; omega))
    clear l17 t17 f17
    generalize (x2.setCell ⟨w2.heap.size, 17, none⟩ (.int .i64 esis)) = x3 at HC3 HP3 ⊢
    clear HC2 HP2
    have l18 : x3.cell? ⟨w.heap.size, 18, none⟩ = some (.int .i64 base) := (blk_cell HP3.out 18).trans rfl
    have t18 : x3.cell? ⟨w2.heap.size, 18, none⟩ = some (.int .i64 0) := (blk_cell HC3.out.Q 18).trans rfl
    have f18 := blk_frozen HC3.out.Q 18
    go_upto_region 15 with (fail)
    have HC4 := Lib.hid (HC3.out.put 18 (.int .i64 base) (Pk.mk kind sess layer tick false 0 0 0 0 0 [] size sym blocks long short layers esis base 0) (.slice none 0 0) rfl)
    have HP4 := Lib.hid (HP3.out.only (Only.set x3 w2.heap.size 18 (.int .i64 base)) (by have := HLT.out; omega))
    clear l18 t18 f18
    generalize (x3.setCell ⟨w2.heap.size, 18, none⟩ (.int .i64 base)) = x4 at HC4 HP4 ⊢
    clear HC3 HP3
    have l19 : x4.cell? ⟨w.heap.size, 19, none⟩ = some (.int .i64 len) := (blk_cell HP4.out 19).trans rfl
    have t19 : x4.cell? ⟨w2.heap.size, 19, none⟩ = some (.int .i64 0) := (blk_cell HC4.out.Q 19).trans rfl
    have f19 := blk_frozen HC4.out.Q 19
    go_upto_region 16 with (fail)
    have HC5 := Lib.hid (HC4.out.put 19 (.int .i64 len) (Pk.mk kind sess layer tick false 0 0 0 0 0 [] size sym blocks long short layers esis base len) (.slice none 0 0) rfl)
    have HP5 := Lib.hid (HP4.out.only (Only.set x4 w2.heap.size 19 (.int .i64 len)) (by have := HLT.out; omega))
    clear l19 t19 f19
    generalize (x4.setCell ⟨w2.heap.size, 19, none⟩ (.int .i64 len)) = x5 at HC5 HP5 ⊢
    clear HC4 HP4
    go_wp2_with (first
      | ((with_reducible refine gate_dst (N := 53) rfl ?_); refine wp_ldpk rfl (.tmp 3) rfl rfl HC5.out.Q ?_)
      | ((with_reducible refine gate_store (t := 26) (p := 2) rfl ?_)
         refine wp_stpk (p := Pk.mk kind sess layer tick false 0 0 0 0 0 [] size sym blocks long short layers esis base len) (A := none) (L := 0) (c := 0) rfl rfl rfl rfl HC5.out.R rfl ?_
         intro y4 hP hO
         have HE4 := Lib.hid (And.intro hP hO)
         clear hP hO))
    (try simp only [Exit.inBlock, Exit.then])
    refine bodyPost_ret (results_c1 rfl _ _ w1.heap.size _ _ _ _ rfl HE4.out.1 Tryd.underlying26 rfl (show (Tryd.prog.info? 26).map (·.size) = some 20 by kernel_rfl)) rfl ?_
    exact ⟨by rw [HBP.out.1, HBP.out.2]; rfl, HE4.out.2.below HC5.out.B HC5.out.h1⟩
end Go.Proofs.YtfcofokbhhnfkaaDoor.Byt
