/- geyserref16.Same by its contract. Conditions: bytes as they may be read. Printed by mksame.py. -/
import Derived.Test.YtfcofokbhhnfkaaDoorWhc
namespace Go.Proofs.YtfcofokbhhnfkaaDoor.Byt
set_option linter.unusedSimpArgs false
set_option linter.unusedVariables false
open Go.RowKit Go.Deep Go.Proofs.YtfcofokbhhnfkaaDoor.Er Go.Proofs.YtfcofokbhhnfkaaDoorW.PrintWords Go.Proofs.YtfcofokbhhnfkaaDoorW.PrintLast
theorem str_neR {a b : List Int} {s t : ByteArray} (ha : ∀ x ∈ a, 0 ≤ x ∧ x < 256) (hb : ∀ x ∈ b, 0 ≤ x ∧ x < 256) (hs : s = strOfNums a) (ht : t = strOfNums b) : (s.toList == t.toList) = decide (a = b) := by
  rw [hs, ht]; exact str_eq ha hb
set_option maxHeartbeats 64000000 in
set_option maxRecDepth 100000 in
theorem SamR_calls {D D' : Nat → Prop} (p q : Pk) (u v : Value) (w : World) (hp : RdB D w u p.data) (hq : RdB D' w v q.data) (hD : ∀ k, D k → k < w.heap.size) (hD' : ∀ k, D' k → k < w.heap.size) :
    Calls Tryd.prog 16 #[pkV p u, pkV q v] w fun e w' => e = .returned (.bool (decide (p = q))) ∧ Below w.heap.size w w' := by
  obtain ⟨r, hr⟩ : ∃ r, r = decide (p = q) := ⟨_, rfl⟩
  rw [← hr]
  obtain ⟨akind, asess, alayer, atick, aburst, async, amany, aplace, ablock, aesi, adata, asize, asym, ablocks, along, ashort, alayers, aesis, abase, alen⟩ := p
  obtain ⟨bkind, bsess, blayer, btick, bburst, bsync, bmany, bplace, bblock, besi, bdata, bsize, bsym, bblocks, blong, bshort, blayers, besis, bbase, blen⟩ := q
  have HA : Hid (RdB D w u adata) := Lib.hid hp
  have HB : Hid (RdB D' w v bdata) := Lib.hid hq
  have HD := Lib.hid hD
  have HD' := Lib.hid hD'
  obtain ⟨A, c, rfl, _⟩ := hp
  obtain ⟨A', c', rfl, _⟩ := hq
  obtain ⟨sa, hsa⟩ : ∃ q, q = strOfNums adata := ⟨_, rfl⟩
  obtain ⟨sb, hsb⟩ : ∃ q, q = strOfNums bdata := ⟨_, rfl⟩
  have HSA := Lib.hid hsa
  have HSB := Lib.hid hsb
  obtain ⟨la, hla⟩ : ∃ q, q = adata.length := ⟨_, rfl⟩
  obtain ⟨lb, hlb⟩ : ∃ q, q = bdata.length := ⟨_, rfl⟩
  show Calls _ _ #[pkV (Pk.mk akind asess alayer atick aburst async amany aplace ablock aesi adata asize asym ablocks along ashort alayers aesis abase alen) (.slice A adata.length c), pkV (Pk.mk bkind bsess blayer btick bburst bsync bmany bplace bblock besi bdata bsize bsym bblocks blong bshort blayers besis bbase blen) (.slice A' bdata.length c')] w _
  rw [← hla] at HA ⊢
  rw [← hlb] at HB ⊢
  clear hla hlb hsa hsb hD hD' 
  by_cases h_kind : akind = bkind
  rotate_left
  · skip
    by_cases h_many : amany = bmany
    rotate_left
    · skip
      have HR : Hid (r = false) := Lib.hid (hr.trans (decide_eq_false (fun e => h_kind (congrArg Pk.kind e))))
      have f_kind : (akind == bkind) = false := beq_eq_false_iff_ne.2 h_kind
      have g_kind : (akind != bkind) = true := bne_iff_ne.2 h_kind
      have f_many : (amany == bmany) = false := beq_eq_false_iff_ne.2 h_many
      have g_many : (amany != bmany) = true := bne_iff_ne.2 h_many
      clear hr h_kind h_many
      go_enter Tryd.func16, Tryd.ntmps16
      go_wp2_with (first
        | ((with_reducible refine gate_dst (N := 2) rfl ?_); refine wp_box rfl (.tmp 0) rfl rfl rfl ?_; intro w1 hP hB hs; have HP := Lib.hid (And.intro hP (And.intro hB hs)); clear hP hB hs)
        | ((with_reducible refine gate_dst (N := 3) rfl ?_); refine wp_box rfl (.tmp 1) rfl rfl rfl ?_; intro w2 hP hB hs; have HP2 := Lib.hid (And.intro (HP.out.1.below hB) (And.intro hP (HP.out.2.1.trans (hB.mono HP.out.2.1.size)))); clear hP hB hs; obtain ⟨s0, s1, s2, s3, s4, s5, s6, s7, s8, s9, s10, s11, s12, s13, s14, s15, s16, s17, s18, s19⟩ := Wire.cell20 (w := w2) (g := w.heap.size) HP2.out.1; obtain ⟨t0, t1, t2, t3, t4, t5, t6, t7, t8, t9, t10, t11, t12, t13, t14, t15, t16, t17, t18, t19⟩ := Wire.cell20 (w := w2) (g := w1.heap.size) HP2.out.2.1; have hca := (HA.out.keep (fun k hk => HP2.out.2.2.block k (HD.out k hk))).str; have hcb := (HB.out.keep (fun k hk => HP2.out.2.2.block k (HD'.out k hk))).str; rw [← HSA.out] at hca; rw [← HSB.out] at hcb; clear HP))
      go_ret
      exact ⟨by rw [HR.out]; rfl, HP2.out.2.2⟩
    by_cases h_place : aplace = bplace
    rotate_left
    · skip
      have HR : Hid (r = false) := Lib.hid (hr.trans (decide_eq_false (fun e => h_kind (congrArg Pk.kind e))))
      have f_kind : (akind == bkind) = false := beq_eq_false_iff_ne.2 h_kind
      have g_kind : (akind != bkind) = true := bne_iff_ne.2 h_kind
      have f_many : (amany == bmany) = true := beq_iff_eq.2 h_many
      have g_many : (amany != bmany) = false := bne_eq_false_iff_eq.2 h_many
      have f_place : (aplace == bplace) = false := beq_eq_false_iff_ne.2 h_place
      have g_place : (aplace != bplace) = true := bne_iff_ne.2 h_place
      clear hr h_kind h_many h_place
      go_enter Tryd.func16, Tryd.ntmps16
      go_wp2_with (first
        | ((with_reducible refine gate_dst (N := 2) rfl ?_); refine wp_box rfl (.tmp 0) rfl rfl rfl ?_; intro w1 hP hB hs; have HP := Lib.hid (And.intro hP (And.intro hB hs)); clear hP hB hs)
        | ((with_reducible refine gate_dst (N := 3) rfl ?_); refine wp_box rfl (.tmp 1) rfl rfl rfl ?_; intro w2 hP hB hs; have HP2 := Lib.hid (And.intro (HP.out.1.below hB) (And.intro hP (HP.out.2.1.trans (hB.mono HP.out.2.1.size)))); clear hP hB hs; obtain ⟨s0, s1, s2, s3, s4, s5, s6, s7, s8, s9, s10, s11, s12, s13, s14, s15, s16, s17, s18, s19⟩ := Wire.cell20 (w := w2) (g := w.heap.size) HP2.out.1; obtain ⟨t0, t1, t2, t3, t4, t5, t6, t7, t8, t9, t10, t11, t12, t13, t14, t15, t16, t17, t18, t19⟩ := Wire.cell20 (w := w2) (g := w1.heap.size) HP2.out.2.1; have hca := (HA.out.keep (fun k hk => HP2.out.2.2.block k (HD.out k hk))).str; have hcb := (HB.out.keep (fun k hk => HP2.out.2.2.block k (HD'.out k hk))).str; rw [← HSA.out] at hca; rw [← HSB.out] at hcb; clear HP))
      go_ret
      exact ⟨by rw [HR.out]; rfl, HP2.out.2.2⟩
    by_cases h_block : ablock = bblock
    rotate_left
    · skip
      have HR : Hid (r = false) := Lib.hid (hr.trans (decide_eq_false (fun e => h_kind (congrArg Pk.kind e))))
      have f_kind : (akind == bkind) = false := beq_eq_false_iff_ne.2 h_kind
      have g_kind : (akind != bkind) = true := bne_iff_ne.2 h_kind
      have f_many : (amany == bmany) = true := beq_iff_eq.2 h_many
      have g_many : (amany != bmany) = false := bne_eq_false_iff_eq.2 h_many
      have f_place : (aplace == bplace) = true := beq_iff_eq.2 h_place
      have g_place : (aplace != bplace) = false := bne_eq_false_iff_eq.2 h_place
      have f_block : (ablock == bblock) = false := beq_eq_false_iff_ne.2 h_block
      have g_block : (ablock != bblock) = true := bne_iff_ne.2 h_block
      clear hr h_kind h_many h_place h_block
      go_enter Tryd.func16, Tryd.ntmps16
      go_wp2_with (first
        | ((with_reducible refine gate_dst (N := 2) rfl ?_); refine wp_box rfl (.tmp 0) rfl rfl rfl ?_; intro w1 hP hB hs; have HP := Lib.hid (And.intro hP (And.intro hB hs)); clear hP hB hs)
        | ((with_reducible refine gate_dst (N := 3) rfl ?_); refine wp_box rfl (.tmp 1) rfl rfl rfl ?_; intro w2 hP hB hs; have HP2 := Lib.hid (And.intro (HP.out.1.below hB) (And.intro hP (HP.out.2.1.trans (hB.mono HP.out.2.1.size)))); clear hP hB hs; obtain ⟨s0, s1, s2, s3, s4, s5, s6, s7, s8, s9, s10, s11, s12, s13, s14, s15, s16, s17, s18, s19⟩ := Wire.cell20 (w := w2) (g := w.heap.size) HP2.out.1; obtain ⟨t0, t1, t2, t3, t4, t5, t6, t7, t8, t9, t10, t11, t12, t13, t14, t15, t16, t17, t18, t19⟩ := Wire.cell20 (w := w2) (g := w1.heap.size) HP2.out.2.1; have hca := (HA.out.keep (fun k hk => HP2.out.2.2.block k (HD.out k hk))).str; have hcb := (HB.out.keep (fun k hk => HP2.out.2.2.block k (HD'.out k hk))).str; rw [← HSA.out] at hca; rw [← HSB.out] at hcb; clear HP))
      go_ret
      exact ⟨by rw [HR.out]; rfl, HP2.out.2.2⟩
    by_cases h_esi : aesi = besi
    rotate_left
    · skip
      have HR : Hid (r = false) := Lib.hid (hr.trans (decide_eq_false (fun e => h_kind (congrArg Pk.kind e))))
      have f_kind : (akind == bkind) = false := beq_eq_false_iff_ne.2 h_kind
      have g_kind : (akind != bkind) = true := bne_iff_ne.2 h_kind
      have f_many : (amany == bmany) = true := beq_iff_eq.2 h_many
      have g_many : (amany != bmany) = false := bne_eq_false_iff_eq.2 h_many
      have f_place : (aplace == bplace) = true := beq_iff_eq.2 h_place
      have g_place : (aplace != bplace) = false := bne_eq_false_iff_eq.2 h_place
      have f_block : (ablock == bblock) = true := beq_iff_eq.2 h_block
      have g_block : (ablock != bblock) = false := bne_eq_false_iff_eq.2 h_block
      have f_esi : (aesi == besi) = false := beq_eq_false_iff_ne.2 h_esi
      have g_esi : (aesi != besi) = true := bne_iff_ne.2 h_esi
      clear hr h_kind h_many h_place h_block h_esi
      go_enter Tryd.func16, Tryd.ntmps16
      go_wp2_with (first
        | ((with_reducible refine gate_dst (N := 2) rfl ?_); refine wp_box rfl (.tmp 0) rfl rfl rfl ?_; intro w1 hP hB hs; have HP := Lib.hid (And.intro hP (And.intro hB hs)); clear hP hB hs)
        | ((with_reducible refine gate_dst (N := 3) rfl ?_); refine wp_box rfl (.tmp 1) rfl rfl rfl ?_; intro w2 hP hB hs; have HP2 := Lib.hid (And.intro (HP.out.1.below hB) (And.intro hP (HP.out.2.1.trans (hB.mono HP.out.2.1.size)))); clear hP hB hs; obtain ⟨s0, s1, s2, s3, s4, s5, s6, s7, s8, s9, s10, s11, s12, s13, s14, s15, s16, s17, s18, s19⟩ := Wire.cell20 (w := w2) (g := w.heap.size) HP2.out.1; obtain ⟨t0, t1, t2, t3, t4, t5, t6, t7, t8, t9, t10, t11, t12, t13, t14, t15, t16, t17, t18, t19⟩ := Wire.cell20 (w := w2) (g := w1.heap.size) HP2.out.2.1; have hca := (HA.out.keep (fun k hk => HP2.out.2.2.block k (HD.out k hk))).str; have hcb := (HB.out.keep (fun k hk => HP2.out.2.2.block k (HD'.out k hk))).str; rw [← HSA.out] at hca; rw [← HSB.out] at hcb; clear HP))
      go_ret
      exact ⟨by rw [HR.out]; rfl, HP2.out.2.2⟩
    by_cases h_data : adata = bdata
    rotate_left
    · skip
      have HR : Hid (r = false) := Lib.hid (hr.trans (decide_eq_false (fun e => h_kind (congrArg Pk.kind e))))
      have f_kind : (akind == bkind) = false := beq_eq_false_iff_ne.2 h_kind
      have g_kind : (akind != bkind) = true := bne_iff_ne.2 h_kind
      have f_many : (amany == bmany) = true := beq_iff_eq.2 h_many
      have g_many : (amany != bmany) = false := bne_eq_false_iff_eq.2 h_many
      have f_place : (aplace == bplace) = true := beq_iff_eq.2 h_place
      have g_place : (aplace != bplace) = false := bne_eq_false_iff_eq.2 h_place
      have f_block : (ablock == bblock) = true := beq_iff_eq.2 h_block
      have g_block : (ablock != bblock) = false := bne_eq_false_iff_eq.2 h_block
      have f_esi : (aesi == besi) = true := beq_iff_eq.2 h_esi
      have g_esi : (aesi != besi) = false := bne_eq_false_iff_eq.2 h_esi
      have f_data : (sa.toList == sb.toList) = false := by rw [str_neR HA.out.lt HB.out.lt HSA.out HSB.out]; exact decide_eq_false h_data
      clear hr h_kind h_many h_place h_block h_esi h_data
      go_enter Tryd.func16, Tryd.ntmps16
      go_wp2_with (first
        | ((with_reducible refine gate_dst (N := 2) rfl ?_); refine wp_box rfl (.tmp 0) rfl rfl rfl ?_; intro w1 hP hB hs; have HP := Lib.hid (And.intro hP (And.intro hB hs)); clear hP hB hs)
        | ((with_reducible refine gate_dst (N := 3) rfl ?_); refine wp_box rfl (.tmp 1) rfl rfl rfl ?_; intro w2 hP hB hs; have HP2 := Lib.hid (And.intro (HP.out.1.below hB) (And.intro hP (HP.out.2.1.trans (hB.mono HP.out.2.1.size)))); clear hP hB hs; obtain ⟨s0, s1, s2, s3, s4, s5, s6, s7, s8, s9, s10, s11, s12, s13, s14, s15, s16, s17, s18, s19⟩ := Wire.cell20 (w := w2) (g := w.heap.size) HP2.out.1; obtain ⟨t0, t1, t2, t3, t4, t5, t6, t7, t8, t9, t10, t11, t12, t13, t14, t15, t16, t17, t18, t19⟩ := Wire.cell20 (w := w2) (g := w1.heap.size) HP2.out.2.1; have hca := (HA.out.keep (fun k hk => HP2.out.2.2.block k (HD.out k hk))).str; have hcb := (HB.out.keep (fun k hk => HP2.out.2.2.block k (HD'.out k hk))).str; rw [← HSA.out] at hca; rw [← HSB.out] at hcb; clear HP))
      go_ret
      exact ⟨by rw [HR.out]; rfl, HP2.out.2.2⟩
    have HR : Hid (r = false) := Lib.hid (hr.trans (decide_eq_false (fun e => h_kind (congrArg Pk.kind e))))
    have f_kind : (akind == bkind) = false := beq_eq_false_iff_ne.2 h_kind
    have g_kind : (akind != bkind) = true := bne_iff_ne.2 h_kind
    have f_many : (amany == bmany) = true := beq_iff_eq.2 h_many
    have g_many : (amany != bmany) = false := bne_eq_false_iff_eq.2 h_many
    have f_place : (aplace == bplace) = true := beq_iff_eq.2 h_place
    have g_place : (aplace != bplace) = false := bne_eq_false_iff_eq.2 h_place
    have f_block : (ablock == bblock) = true := beq_iff_eq.2 h_block
    have g_block : (ablock != bblock) = false := bne_eq_false_iff_eq.2 h_block
    have f_esi : (aesi == besi) = true := beq_iff_eq.2 h_esi
    have g_esi : (aesi != besi) = false := bne_eq_false_iff_eq.2 h_esi
    have f_data : (sa.toList == sb.toList) = true := by rw [str_neR HA.out.lt HB.out.lt HSA.out HSB.out]; exact decide_eq_true h_data
    clear hr h_kind h_many h_place h_block h_esi h_data
    go_enter Tryd.func16, Tryd.ntmps16
    go_wp2_with (first
      | ((with_reducible refine gate_dst (N := 2) rfl ?_); refine wp_box rfl (.tmp 0) rfl rfl rfl ?_; intro w1 hP hB hs; have HP := Lib.hid (And.intro hP (And.intro hB hs)); clear hP hB hs)
      | ((with_reducible refine gate_dst (N := 3) rfl ?_); refine wp_box rfl (.tmp 1) rfl rfl rfl ?_; intro w2 hP hB hs; have HP2 := Lib.hid (And.intro (HP.out.1.below hB) (And.intro hP (HP.out.2.1.trans (hB.mono HP.out.2.1.size)))); clear hP hB hs; obtain ⟨s0, s1, s2, s3, s4, s5, s6, s7, s8, s9, s10, s11, s12, s13, s14, s15, s16, s17, s18, s19⟩ := Wire.cell20 (w := w2) (g := w.heap.size) HP2.out.1; obtain ⟨t0, t1, t2, t3, t4, t5, t6, t7, t8, t9, t10, t11, t12, t13, t14, t15, t16, t17, t18, t19⟩ := Wire.cell20 (w := w2) (g := w1.heap.size) HP2.out.2.1; have hca := (HA.out.keep (fun k hk => HP2.out.2.2.block k (HD.out k hk))).str; have hcb := (HB.out.keep (fun k hk => HP2.out.2.2.block k (HD'.out k hk))).str; rw [← HSA.out] at hca; rw [← HSB.out] at hcb; clear HP))
    go_ret
    exact ⟨by rw [HR.out]; rfl, HP2.out.2.2⟩
  by_cases h_sess : asess = bsess
  rotate_left
  · skip
    by_cases h_many : amany = bmany
    rotate_left
    · skip
      have HR : Hid (r = false) := Lib.hid (hr.trans (decide_eq_false (fun e => h_sess (congrArg Pk.sess e))))
      have f_kind : (akind == bkind) = true := beq_iff_eq.2 h_kind
      have g_kind : (akind != bkind) = false := bne_eq_false_iff_eq.2 h_kind
      have f_sess : (asess == bsess) = false := beq_eq_false_iff_ne.2 h_sess
      have g_sess : (asess != bsess) = true := bne_iff_ne.2 h_sess
      have f_many : (amany == bmany) = false := beq_eq_false_iff_ne.2 h_many
      have g_many : (amany != bmany) = true := bne_iff_ne.2 h_many
      clear hr h_kind h_sess h_many
      go_enter Tryd.func16, Tryd.ntmps16
      go_wp2_with (first
        | ((with_reducible refine gate_dst (N := 2) rfl ?_); refine wp_box rfl (.tmp 0) rfl rfl rfl ?_; intro w1 hP hB hs; have HP := Lib.hid (And.intro hP (And.intro hB hs)); clear hP hB hs)
        | ((with_reducible refine gate_dst (N := 3) rfl ?_); refine wp_box rfl (.tmp 1) rfl rfl rfl ?_; intro w2 hP hB hs; have HP2 := Lib.hid (And.intro (HP.out.1.below hB) (And.intro hP (HP.out.2.1.trans (hB.mono HP.out.2.1.size)))); clear hP hB hs; obtain ⟨s0, s1, s2, s3, s4, s5, s6, s7, s8, s9, s10, s11, s12, s13, s14, s15, s16, s17, s18, s19⟩ := Wire.cell20 (w := w2) (g := w.heap.size) HP2.out.1; obtain ⟨t0, t1, t2, t3, t4, t5, t6, t7, t8, t9, t10, t11, t12, t13, t14, t15, t16, t17, t18, t19⟩ := Wire.cell20 (w := w2) (g := w1.heap.size) HP2.out.2.1; have hca := (HA.out.keep (fun k hk => HP2.out.2.2.block k (HD.out k hk))).str; have hcb := (HB.out.keep (fun k hk => HP2.out.2.2.block k (HD'.out k hk))).str; rw [← HSA.out] at hca; rw [← HSB.out] at hcb; clear HP))
      go_ret
      exact ⟨by rw [HR.out]; rfl, HP2.out.2.2⟩
    by_cases h_place : aplace = bplace
    rotate_left
    · skip
      have HR : Hid (r = false) := Lib.hid (hr.trans (decide_eq_false (fun e => h_sess (congrArg Pk.sess e))))
      have f_kind : (akind == bkind) = true := beq_iff_eq.2 h_kind
      have g_kind : (akind != bkind) = false := bne_eq_false_iff_eq.2 h_kind
      have f_sess : (asess == bsess) = false := beq_eq_false_iff_ne.2 h_sess
      have g_sess : (asess != bsess) = true := bne_iff_ne.2 h_sess
      have f_many : (amany == bmany) = true := beq_iff_eq.2 h_many
      have g_many : (amany != bmany) = false := bne_eq_false_iff_eq.2 h_many
      have f_place : (aplace == bplace) = false := beq_eq_false_iff_ne.2 h_place
      have g_place : (aplace != bplace) = true := bne_iff_ne.2 h_place
      clear hr h_kind h_sess h_many h_place
      go_enter Tryd.func16, Tryd.ntmps16
      go_wp2_with (first
        | ((with_reducible refine gate_dst (N := 2) rfl ?_); refine wp_box rfl (.tmp 0) rfl rfl rfl ?_; intro w1 hP hB hs; have HP := Lib.hid (And.intro hP (And.intro hB hs)); clear hP hB hs)
        | ((with_reducible refine gate_dst (N := 3) rfl ?_); refine wp_box rfl (.tmp 1) rfl rfl rfl ?_; intro w2 hP hB hs; have HP2 := Lib.hid (And.intro (HP.out.1.below hB) (And.intro hP (HP.out.2.1.trans (hB.mono HP.out.2.1.size)))); clear hP hB hs; obtain ⟨s0, s1, s2, s3, s4, s5, s6, s7, s8, s9, s10, s11, s12, s13, s14, s15, s16, s17, s18, s19⟩ := Wire.cell20 (w := w2) (g := w.heap.size) HP2.out.1; obtain ⟨t0, t1, t2, t3, t4, t5, t6, t7, t8, t9, t10, t11, t12, t13, t14, t15, t16, t17, t18, t19⟩ := Wire.cell20 (w := w2) (g := w1.heap.size) HP2.out.2.1; have hca := (HA.out.keep (fun k hk => HP2.out.2.2.block k (HD.out k hk))).str; have hcb := (HB.out.keep (fun k hk => HP2.out.2.2.block k (HD'.out k hk))).str; rw [← HSA.out] at hca; rw [← HSB.out] at hcb; clear HP))
      go_ret
      exact ⟨by rw [HR.out]; rfl, HP2.out.2.2⟩
    by_cases h_block : ablock = bblock
    rotate_left
    · skip
      have HR : Hid (r = false) := Lib.hid (hr.trans (decide_eq_false (fun e => h_sess (congrArg Pk.sess e))))
      have f_kind : (akind == bkind) = true := beq_iff_eq.2 h_kind
      have g_kind : (akind != bkind) = false := bne_eq_false_iff_eq.2 h_kind
      have f_sess : (asess == bsess) = false := beq_eq_false_iff_ne.2 h_sess
      have g_sess : (asess != bsess) = true := bne_iff_ne.2 h_sess
      have f_many : (amany == bmany) = true := beq_iff_eq.2 h_many
      have g_many : (amany != bmany) = false := bne_eq_false_iff_eq.2 h_many
      have f_place : (aplace == bplace) = true := beq_iff_eq.2 h_place
      have g_place : (aplace != bplace) = false := bne_eq_false_iff_eq.2 h_place
      have f_block : (ablock == bblock) = false := beq_eq_false_iff_ne.2 h_block
      have g_block : (ablock != bblock) = true := bne_iff_ne.2 h_block
      clear hr h_kind h_sess h_many h_place h_block
      go_enter Tryd.func16, Tryd.ntmps16
      go_wp2_with (first
        | ((with_reducible refine gate_dst (N := 2) rfl ?_); refine wp_box rfl (.tmp 0) rfl rfl rfl ?_; intro w1 hP hB hs; have HP := Lib.hid (And.intro hP (And.intro hB hs)); clear hP hB hs)
        | ((with_reducible refine gate_dst (N := 3) rfl ?_); refine wp_box rfl (.tmp 1) rfl rfl rfl ?_; intro w2 hP hB hs; have HP2 := Lib.hid (And.intro (HP.out.1.below hB) (And.intro hP (HP.out.2.1.trans (hB.mono HP.out.2.1.size)))); clear hP hB hs; obtain ⟨s0, s1, s2, s3, s4, s5, s6, s7, s8, s9, s10, s11, s12, s13, s14, s15, s16, s17, s18, s19⟩ := Wire.cell20 (w := w2) (g := w.heap.size) HP2.out.1; obtain ⟨t0, t1, t2, t3, t4, t5, t6, t7, t8, t9, t10, t11, t12, t13, t14, t15, t16, t17, t18, t19⟩ := Wire.cell20 (w := w2) (g := w1.heap.size) HP2.out.2.1; have hca := (HA.out.keep (fun k hk => HP2.out.2.2.block k (HD.out k hk))).str; have hcb := (HB.out.keep (fun k hk => HP2.out.2.2.block k (HD'.out k hk))).str; rw [← HSA.out] at hca; rw [← HSB.out] at hcb; clear HP))
      go_ret
      exact ⟨by rw [HR.out]; rfl, HP2.out.2.2⟩
    by_cases h_esi : aesi = besi
    rotate_left
    · skip
      have HR : Hid (r = false) := Lib.hid (hr.trans (decide_eq_false (fun e => h_sess (congrArg Pk.sess e))))
      have f_kind : (akind == bkind) = true := beq_iff_eq.2 h_kind
      have g_kind : (akind != bkind) = false := bne_eq_false_iff_eq.2 h_kind
      have f_sess : (asess == bsess) = false := beq_eq_false_iff_ne.2 h_sess
      have g_sess : (asess != bsess) = true := bne_iff_ne.2 h_sess
      have f_many : (amany == bmany) = true := beq_iff_eq.2 h_many
      have g_many : (amany != bmany) = false := bne_eq_false_iff_eq.2 h_many
      have f_place : (aplace == bplace) = true := beq_iff_eq.2 h_place
      have g_place : (aplace != bplace) = false := bne_eq_false_iff_eq.2 h_place
      have f_block : (ablock == bblock) = true := beq_iff_eq.2 h_block
      have g_block : (ablock != bblock) = false := bne_eq_false_iff_eq.2 h_block
      have f_esi : (aesi == besi) = false := beq_eq_false_iff_ne.2 h_esi
      have g_esi : (aesi != besi) = true := bne_iff_ne.2 h_esi
      clear hr h_kind h_sess h_many h_place h_block h_esi
      go_enter Tryd.func16, Tryd.ntmps16
      go_wp2_with (first
        | ((with_reducible refine gate_dst (N := 2) rfl ?_); refine wp_box rfl (.tmp 0) rfl rfl rfl ?_; intro w1 hP hB hs; have HP := Lib.hid (And.intro hP (And.intro hB hs)); clear hP hB hs)
        | ((with_reducible refine gate_dst (N := 3) rfl ?_); refine wp_box rfl (.tmp 1) rfl rfl rfl ?_; intro w2 hP hB hs; have HP2 := Lib.hid (And.intro (HP.out.1.below hB) (And.intro hP (HP.out.2.1.trans (hB.mono HP.out.2.1.size)))); clear hP hB hs; obtain ⟨s0, s1, s2, s3, s4, s5, s6, s7, s8, s9, s10, s11, s12, s13, s14, s15, s16, s17, s18, s19⟩ := Wire.cell20 (w := w2) (g := w.heap.size) HP2.out.1; obtain ⟨t0, t1, t2, t3, t4, t5, t6, t7, t8, t9, t10, t11, t12, t13, t14, t15, t16, t17, t18, t19⟩ := Wire.cell20 (w := w2) (g := w1.heap.size) HP2.out.2.1; have hca := (HA.out.keep (fun k hk => HP2.out.2.2.block k (HD.out k hk))).str; have hcb := (HB.out.keep (fun k hk => HP2.out.2.2.block k (HD'.out k hk))).str; rw [← HSA.out] at hca; rw [← HSB.out] at hcb; clear HP))
      go_ret
      exact ⟨by rw [HR.out]; rfl, HP2.out.2.2⟩
    by_cases h_data : adata = bdata
    rotate_left
    · skip
      have HR : Hid (r = false) := Lib.hid (hr.trans (decide_eq_false (fun e => h_sess (congrArg Pk.sess e))))
      have f_kind : (akind == bkind) = true := beq_iff_eq.2 h_kind
      have g_kind : (akind != bkind) = false := bne_eq_false_iff_eq.2 h_kind
      have f_sess : (asess == bsess) = false := beq_eq_false_iff_ne.2 h_sess
      have g_sess : (asess != bsess) = true := bne_iff_ne.2 h_sess
      have f_many : (amany == bmany) = true := beq_iff_eq.2 h_many
      have g_many : (amany != bmany) = false := bne_eq_false_iff_eq.2 h_many
      have f_place : (aplace == bplace) = true := beq_iff_eq.2 h_place
      have g_place : (aplace != bplace) = false := bne_eq_false_iff_eq.2 h_place
      have f_block : (ablock == bblock) = true := beq_iff_eq.2 h_block
      have g_block : (ablock != bblock) = false := bne_eq_false_iff_eq.2 h_block
      have f_esi : (aesi == besi) = true := beq_iff_eq.2 h_esi
      have g_esi : (aesi != besi) = false := bne_eq_false_iff_eq.2 h_esi
      have f_data : (sa.toList == sb.toList) = false := by rw [str_neR HA.out.lt HB.out.lt HSA.out HSB.out]; exact decide_eq_false h_data
      clear hr h_kind h_sess h_many h_place h_block h_esi h_data
      go_enter Tryd.func16, Tryd.ntmps16
      go_wp2_with (first
        | ((with_reducible refine gate_dst (N := 2) rfl ?_); refine wp_box rfl (.tmp 0) rfl rfl rfl ?_; intro w1 hP hB hs; have HP := Lib.hid (And.intro hP (And.intro hB hs)); clear hP hB hs)
        | ((with_reducible refine gate_dst (N := 3) rfl ?_); refine wp_box rfl (.tmp 1) rfl rfl rfl ?_; intro w2 hP hB hs; have HP2 := Lib.hid (And.intro (HP.out.1.below hB) (And.intro hP (HP.out.2.1.trans (hB.mono HP.out.2.1.size)))); clear hP hB hs; obtain ⟨s0, s1, s2, s3, s4, s5, s6, s7, s8, s9, s10, s11, s12, s13, s14, s15, s16, s17, s18, s19⟩ := Wire.cell20 (w := w2) (g := w.heap.size) HP2.out.1; obtain ⟨t0, t1, t2, t3, t4, t5, t6, t7, t8, t9, t10, t11, t12, t13, t14, t15, t16, t17, t18, t19⟩ := Wire.cell20 (w := w2) (g := w1.heap.size) HP2.out.2.1; have hca := (HA.out.keep (fun k hk => HP2.out.2.2.block k (HD.out k hk))).str; have hcb := (HB.out.keep (fun k hk => HP2.out.2.2.block k (HD'.out k hk))).str; rw [← HSA.out] at hca; rw [← HSB.out] at hcb; clear HP))
      go_ret
      exact ⟨by rw [HR.out]; rfl, HP2.out.2.2⟩
    have HR : Hid (r = false) := Lib.hid (hr.trans (decide_eq_false (fun e => h_sess (congrArg Pk.sess e))))
    have f_kind : (akind == bkind) = true := beq_iff_eq.2 h_kind
    have g_kind : (akind != bkind) = false := bne_eq_false_iff_eq.2 h_kind
    have f_sess : (asess == bsess) = false := beq_eq_false_iff_ne.2 h_sess
    have g_sess : (asess != bsess) = true := bne_iff_ne.2 h_sess
    have f_many : (amany == bmany) = true := beq_iff_eq.2 h_many
    have g_many : (amany != bmany) = false := bne_eq_false_iff_eq.2 h_many
    have f_place : (aplace == bplace) = true := beq_iff_eq.2 h_place
    have g_place : (aplace != bplace) = false := bne_eq_false_iff_eq.2 h_place
    have f_block : (ablock == bblock) = true := beq_iff_eq.2 h_block
    have g_block : (ablock != bblock) = false := bne_eq_false_iff_eq.2 h_block
    have f_esi : (aesi == besi) = true := beq_iff_eq.2 h_esi
    have g_esi : (aesi != besi) = false := bne_eq_false_iff_eq.2 h_esi
    have f_data : (sa.toList == sb.toList) = true := by rw [str_neR HA.out.lt HB.out.lt HSA.out HSB.out]; exact decide_eq_true h_data
    clear hr h_kind h_sess h_many h_place h_block h_esi h_data
    go_enter Tryd.func16, Tryd.ntmps16
    go_wp2_with (first
      | ((with_reducible refine gate_dst (N := 2) rfl ?_); refine wp_box rfl (.tmp 0) rfl rfl rfl ?_; intro w1 hP hB hs; have HP := Lib.hid (And.intro hP (And.intro hB hs)); clear hP hB hs)
      | ((with_reducible refine gate_dst (N := 3) rfl ?_); refine wp_box rfl (.tmp 1) rfl rfl rfl ?_; intro w2 hP hB hs; have HP2 := Lib.hid (And.intro (HP.out.1.below hB) (And.intro hP (HP.out.2.1.trans (hB.mono HP.out.2.1.size)))); clear hP hB hs; obtain ⟨s0, s1, s2, s3, s4, s5, s6, s7, s8, s9, s10, s11, s12, s13, s14, s15, s16, s17, s18, s19⟩ := Wire.cell20 (w := w2) (g := w.heap.size) HP2.out.1; obtain ⟨t0, t1, t2, t3, t4, t5, t6, t7, t8, t9, t10, t11, t12, t13, t14, t15, t16, t17, t18, t19⟩ := Wire.cell20 (w := w2) (g := w1.heap.size) HP2.out.2.1; have hca := (HA.out.keep (fun k hk => HP2.out.2.2.block k (HD.out k hk))).str; have hcb := (HB.out.keep (fun k hk => HP2.out.2.2.block k (HD'.out k hk))).str; rw [← HSA.out] at hca; rw [← HSB.out] at hcb; clear HP))
    go_ret
    exact ⟨by rw [HR.out]; rfl, HP2.out.2.2⟩
  by_cases h_layer : alayer = blayer
  rotate_left
  · skip
    by_cases h_many : amany = bmany
    rotate_left
    · skip
      have HR : Hid (r = false) := Lib.hid (hr.trans (decide_eq_false (fun e => h_layer (congrArg Pk.layer e))))
      have f_kind : (akind == bkind) = true := beq_iff_eq.2 h_kind
      have g_kind : (akind != bkind) = false := bne_eq_false_iff_eq.2 h_kind
      have f_sess : (asess == bsess) = true := beq_iff_eq.2 h_sess
      have g_sess : (asess != bsess) = false := bne_eq_false_iff_eq.2 h_sess
      have f_layer : (alayer == blayer) = false := beq_eq_false_iff_ne.2 h_layer
      have g_layer : (alayer != blayer) = true := bne_iff_ne.2 h_layer
      have f_many : (amany == bmany) = false := beq_eq_false_iff_ne.2 h_many
      have g_many : (amany != bmany) = true := bne_iff_ne.2 h_many
      clear hr h_kind h_sess h_layer h_many
      go_enter Tryd.func16, Tryd.ntmps16
      go_wp2_with (first
        | ((with_reducible refine gate_dst (N := 2) rfl ?_); refine wp_box rfl (.tmp 0) rfl rfl rfl ?_; intro w1 hP hB hs; have HP := Lib.hid (And.intro hP (And.intro hB hs)); clear hP hB hs)
        | ((with_reducible refine gate_dst (N := 3) rfl ?_); refine wp_box rfl (.tmp 1) rfl rfl rfl ?_; intro w2 hP hB hs; have HP2 := Lib.hid (And.intro (HP.out.1.below hB) (And.intro hP (HP.out.2.1.trans (hB.mono HP.out.2.1.size)))); clear hP hB hs; obtain ⟨s0, s1, s2, s3, s4, s5, s6, s7, s8, s9, s10, s11, s12, s13, s14, s15, s16, s17, s18, s19⟩ := Wire.cell20 (w := w2) (g := w.heap.size) HP2.out.1; obtain ⟨t0, t1, t2, t3, t4, t5, t6, t7, t8, t9, t10, t11, t12, t13, t14, t15, t16, t17, t18, t19⟩ := Wire.cell20 (w := w2) (g := w1.heap.size) HP2.out.2.1; have hca := (HA.out.keep (fun k hk => HP2.out.2.2.block k (HD.out k hk))).str; have hcb := (HB.out.keep (fun k hk => HP2.out.2.2.block k (HD'.out k hk))).str; rw [← HSA.out] at hca; rw [← HSB.out] at hcb; clear HP))
      go_ret
      exact ⟨by rw [HR.out]; rfl, HP2.out.2.2⟩
    by_cases h_place : aplace = bplace
    rotate_left
    · skip
      have HR : Hid (r = false) := Lib.hid (hr.trans (decide_eq_false (fun e => h_layer (congrArg Pk.layer e))))
      have f_kind : (akind == bkind) = true := beq_iff_eq.2 h_kind
      have g_kind : (akind != bkind) = false := bne_eq_false_iff_eq.2 h_kind
      have f_sess : (asess == bsess) = true := beq_iff_eq.2 h_sess
      have g_sess : (asess != bsess) = false := bne_eq_false_iff_eq.2 h_sess
      have f_layer : (alayer == blayer) = false := beq_eq_false_iff_ne.2 h_layer
      have g_layer : (alayer != blayer) = true := bne_iff_ne.2 h_layer
      have f_many : (amany == bmany) = true := beq_iff_eq.2 h_many
      have g_many : (amany != bmany) = false := bne_eq_false_iff_eq.2 h_many
      have f_place : (aplace == bplace) = false := beq_eq_false_iff_ne.2 h_place
      have g_place : (aplace != bplace) = true := bne_iff_ne.2 h_place
      clear hr h_kind h_sess h_layer h_many h_place
      go_enter Tryd.func16, Tryd.ntmps16
      go_wp2_with (first
        | ((with_reducible refine gate_dst (N := 2) rfl ?_); refine wp_box rfl (.tmp 0) rfl rfl rfl ?_; intro w1 hP hB hs; have HP := Lib.hid (And.intro hP (And.intro hB hs)); clear hP hB hs)
        | ((with_reducible refine gate_dst (N := 3) rfl ?_); refine wp_box rfl (.tmp 1) rfl rfl rfl ?_; intro w2 hP hB hs; have HP2 := Lib.hid (And.intro (HP.out.1.below hB) (And.intro hP (HP.out.2.1.trans (hB.mono HP.out.2.1.size)))); clear hP hB hs; obtain ⟨s0, s1, s2, s3, s4, s5, s6, s7, s8, s9, s10, s11, s12, s13, s14, s15, s16, s17, s18, s19⟩ := Wire.cell20 (w := w2) (g := w.heap.size) HP2.out.1; obtain ⟨t0, t1, t2, t3, t4, t5, t6, t7, t8, t9, t10, t11, t12, t13, t14, t15, t16, t17, t18, t19⟩ := Wire.cell20 (w := w2) (g := w1.heap.size) HP2.out.2.1; have hca := (HA.out.keep (fun k hk => HP2.out.2.2.block k (HD.out k hk))).str; have hcb := (HB.out.keep (fun k hk => HP2.out.2.2.block k (HD'.out k hk))).str; rw [← HSA.out] at hca; rw [← HSB.out] at hcb; clear HP))
      go_ret
      exact ⟨by rw [HR.out]; rfl, HP2.out.2.2⟩
    by_cases h_block : ablock = bblock
    rotate_left
    · skip
      have HR : Hid (r = false) := Lib.hid (hr.trans (decide_eq_false (fun e => h_layer (congrArg Pk.layer e))))
      have f_kind : (akind == bkind) = true := beq_iff_eq.2 h_kind
      have g_kind : (akind != bkind) = false := bne_eq_false_iff_eq.2 h_kind
      have f_sess : (asess == bsess) = true := beq_iff_eq.2 h_sess
      have g_sess : (asess != bsess) = false := bne_eq_false_iff_eq.2 h_sess
      have f_layer : (alayer == blayer) = false := beq_eq_false_iff_ne.2 h_layer
      have g_layer : (alayer != blayer) = true := bne_iff_ne.2 h_layer
      have f_many : (amany == bmany) = true := beq_iff_eq.2 h_many
      have g_many : (amany != bmany) = false := bne_eq_false_iff_eq.2 h_many
      have f_place : (aplace == bplace) = true := beq_iff_eq.2 h_place
      have g_place : (aplace != bplace) = false := bne_eq_false_iff_eq.2 h_place
      have f_block : (ablock == bblock) = false := beq_eq_false_iff_ne.2 h_block
      have g_block : (ablock != bblock) = true := bne_iff_ne.2 h_block
      clear hr h_kind h_sess h_layer h_many h_place h_block
      go_enter Tryd.func16, Tryd.ntmps16
      go_wp2_with (first
        | ((with_reducible refine gate_dst (N := 2) rfl ?_); refine wp_box rfl (.tmp 0) rfl rfl rfl ?_; intro w1 hP hB hs; have HP := Lib.hid (And.intro hP (And.intro hB hs)); clear hP hB hs)
        | ((with_reducible refine gate_dst (N := 3) rfl ?_); refine wp_box rfl (.tmp 1) rfl rfl rfl ?_; intro w2 hP hB hs; have HP2 := Lib.hid (And.intro (HP.out.1.below hB) (And.intro hP (HP.out.2.1.trans (hB.mono HP.out.2.1.size)))); clear hP hB hs; obtain ⟨s0, s1, s2, s3, s4, s5, s6, s7, s8, s9, s10, s11, s12, s13, s14, s15, s16, s17, s18, s19⟩ := Wire.cell20 (w := w2) (g := w.heap.size) HP2.out.1; obtain ⟨t0, t1, t2, t3, t4, t5, t6, t7, t8, t9, t10, t11, t12, t13, t14, t15, t16, t17, t18, t19⟩ := Wire.cell20 (w := w2) (g := w1.heap.size) HP2.out.2.1; have hca := (HA.out.keep (fun k hk => HP2.out.2.2.block k (HD.out k hk))).str; have hcb := (HB.out.keep (fun k hk => HP2.out.2.2.block k (HD'.out k hk))).str; rw [← HSA.out] at hca; rw [← HSB.out] at hcb; clear HP))
      go_ret
      exact ⟨by rw [HR.out]; rfl, HP2.out.2.2⟩
    by_cases h_esi : aesi = besi
    rotate_left
    · skip
      have HR : Hid (r = false) := Lib.hid (hr.trans (decide_eq_false (fun e => h_layer (congrArg Pk.layer e))))
      have f_kind : (akind == bkind) = true := beq_iff_eq.2 h_kind
      have g_kind : (akind != bkind) = false := bne_eq_false_iff_eq.2 h_kind
      have f_sess : (asess == bsess) = true := beq_iff_eq.2 h_sess
      have g_sess : (asess != bsess) = false := bne_eq_false_iff_eq.2 h_sess
      have f_layer : (alayer == blayer) = false := beq_eq_false_iff_ne.2 h_layer
      have g_layer : (alayer != blayer) = true := bne_iff_ne.2 h_layer
      have f_many : (amany == bmany) = true := beq_iff_eq.2 h_many
      have g_many : (amany != bmany) = false := bne_eq_false_iff_eq.2 h_many
      have f_place : (aplace == bplace) = true := beq_iff_eq.2 h_place
      have g_place : (aplace != bplace) = false := bne_eq_false_iff_eq.2 h_place
      have f_block : (ablock == bblock) = true := beq_iff_eq.2 h_block
      have g_block : (ablock != bblock) = false := bne_eq_false_iff_eq.2 h_block
      have f_esi : (aesi == besi) = false := beq_eq_false_iff_ne.2 h_esi
      have g_esi : (aesi != besi) = true := bne_iff_ne.2 h_esi
      clear hr h_kind h_sess h_layer h_many h_place h_block h_esi
      go_enter Tryd.func16, Tryd.ntmps16
      go_wp2_with (first
        | ((with_reducible refine gate_dst (N := 2) rfl ?_); refine wp_box rfl (.tmp 0) rfl rfl rfl ?_; intro w1 hP hB hs; have HP := Lib.hid (And.intro hP (And.intro hB hs)); clear hP hB hs)
        | ((with_reducible refine gate_dst (N := 3) rfl ?_); refine wp_box rfl (.tmp 1) rfl rfl rfl ?_; intro w2 hP hB hs; have HP2 := Lib.hid (And.intro (HP.out.1.below hB) (And.intro hP (HP.out.2.1.trans (hB.mono HP.out.2.1.size)))); clear hP hB hs; obtain ⟨s0, s1, s2, s3, s4, s5, s6, s7, s8, s9, s10, s11, s12, s13, s14, s15, s16, s17, s18, s19⟩ := Wire.cell20 (w := w2) (g := w.heap.size) HP2.out.1; obtain ⟨t0, t1, t2, t3, t4, t5, t6, t7, t8, t9, t10, t11, t12, t13, t14, t15, t16, t17, t18, t19⟩ := Wire.cell20 (w := w2) (g := w1.heap.size) HP2.out.2.1; have hca := (HA.out.keep (fun k hk => HP2.out.2.2.block k (HD.out k hk))).str; have hcb := (HB.out.keep (fun k hk => HP2.out.2.2.block k (HD'.out k hk))).str; rw [← HSA.out] at hca; rw [← HSB.out] at hcb; clear HP))
      go_ret
      exact ⟨by rw [HR.out]; rfl, HP2.out.2.2⟩
    by_cases h_data : adata = bdata
    rotate_left
    · skip
      have HR : Hid (r = false) := Lib.hid (hr.trans (decide_eq_false (fun e => h_layer (congrArg Pk.layer e))))
      have f_kind : (akind == bkind) = true := beq_iff_eq.2 h_kind
      have g_kind : (akind != bkind) = false := bne_eq_false_iff_eq.2 h_kind
      have f_sess : (asess == bsess) = true := beq_iff_eq.2 h_sess
      have g_sess : (asess != bsess) = false := bne_eq_false_iff_eq.2 h_sess
      have f_layer : (alayer == blayer) = false := beq_eq_false_iff_ne.2 h_layer
      have g_layer : (alayer != blayer) = true := bne_iff_ne.2 h_layer
      have f_many : (amany == bmany) = true := beq_iff_eq.2 h_many
      have g_many : (amany != bmany) = false := bne_eq_false_iff_eq.2 h_many
      have f_place : (aplace == bplace) = true := beq_iff_eq.2 h_place
      have g_place : (aplace != bplace) = false := bne_eq_false_iff_eq.2 h_place
      have f_block : (ablock == bblock) = true := beq_iff_eq.2 h_block
      have g_block : (ablock != bblock) = false := bne_eq_false_iff_eq.2 h_block
      have f_esi : (aesi == besi) = true := beq_iff_eq.2 h_esi
      have g_esi : (aesi != besi) = false := bne_eq_false_iff_eq.2 h_esi
      have f_data : (sa.toList == sb.toList) = false := by rw [str_neR HA.out.lt HB.out.lt HSA.out HSB.out]; exact decide_eq_false h_data
      clear hr h_kind h_sess h_layer h_many h_place h_block h_esi h_data
      go_enter Tryd.func16, Tryd.ntmps16
      go_wp2_with (first
        | ((with_reducible refine gate_dst (N := 2) rfl ?_); refine wp_box rfl (.tmp 0) rfl rfl rfl ?_; intro w1 hP hB hs; have HP := Lib.hid (And.intro hP (And.intro hB hs)); clear hP hB hs)
        | ((with_reducible refine gate_dst (N := 3) rfl ?_); refine wp_box rfl (.tmp 1) rfl rfl rfl ?_; intro w2 hP hB hs; have HP2 := Lib.hid (And.intro (HP.out.1.below hB) (And.intro hP (HP.out.2.1.trans (hB.mono HP.out.2.1.size)))); clear hP hB hs; obtain ⟨s0, s1, s2, s3, s4, s5, s6, s7, s8, s9, s10, s11, s12, s13, s14, s15, s16, s17, s18, s19⟩ := Wire.cell20 (w := w2) (g := w.heap.size) HP2.out.1; obtain ⟨t0, t1, t2, t3, t4, t5, t6, t7, t8, t9, t10, t11, t12, t13, t14, t15, t16, t17, t18, t19⟩ := Wire.cell20 (w := w2) (g := w1.heap.size) HP2.out.2.1; have hca := (HA.out.keep (fun k hk => HP2.out.2.2.block k (HD.out k hk))).str; have hcb := (HB.out.keep (fun k hk => HP2.out.2.2.block k (HD'.out k hk))).str; rw [← HSA.out] at hca; rw [← HSB.out] at hcb; clear HP))
      go_ret
      exact ⟨by rw [HR.out]; rfl, HP2.out.2.2⟩
    have HR : Hid (r = false) := Lib.hid (hr.trans (decide_eq_false (fun e => h_layer (congrArg Pk.layer e))))
    have f_kind : (akind == bkind) = true := beq_iff_eq.2 h_kind
    have g_kind : (akind != bkind) = false := bne_eq_false_iff_eq.2 h_kind
    have f_sess : (asess == bsess) = true := beq_iff_eq.2 h_sess
    have g_sess : (asess != bsess) = false := bne_eq_false_iff_eq.2 h_sess
    have f_layer : (alayer == blayer) = false := beq_eq_false_iff_ne.2 h_layer
    have g_layer : (alayer != blayer) = true := bne_iff_ne.2 h_layer
    have f_many : (amany == bmany) = true := beq_iff_eq.2 h_many
    have g_many : (amany != bmany) = false := bne_eq_false_iff_eq.2 h_many
    have f_place : (aplace == bplace) = true := beq_iff_eq.2 h_place
    have g_place : (aplace != bplace) = false := bne_eq_false_iff_eq.2 h_place
    have f_block : (ablock == bblock) = true := beq_iff_eq.2 h_block
    have g_block : (ablock != bblock) = false := bne_eq_false_iff_eq.2 h_block
    have f_esi : (aesi == besi) = true := beq_iff_eq.2 h_esi
    have g_esi : (aesi != besi) = false := bne_eq_false_iff_eq.2 h_esi
    have f_data : (sa.toList == sb.toList) = true := by rw [str_neR HA.out.lt HB.out.lt HSA.out HSB.out]; exact decide_eq_true h_data
    clear hr h_kind h_sess h_layer h_many h_place h_block h_esi h_data
    go_enter Tryd.func16, Tryd.ntmps16
    go_wp2_with (first
      | ((with_reducible refine gate_dst (N := 2) rfl ?_); refine wp_box rfl (.tmp 0) rfl rfl rfl ?_; intro w1 hP hB hs; have HP := Lib.hid (And.intro hP (And.intro hB hs)); clear hP hB hs)
      | ((with_reducible refine gate_dst (N := 3) rfl ?_); refine wp_box rfl (.tmp 1) rfl rfl rfl ?_; intro w2 hP hB hs; have HP2 := Lib.hid (And.intro (HP.out.1.below hB) (And.intro hP (HP.out.2.1.trans (hB.mono HP.out.2.1.size)))); clear hP hB hs; obtain ⟨s0, s1, s2, s3, s4, s5, s6, s7, s8, s9, s10, s11, s12, s13, s14, s15, s16, s17, s18, s19⟩ := Wire.cell20 (w := w2) (g := w.heap.size) HP2.out.1; obtain ⟨t0, t1, t2, t3, t4, t5, t6, t7, t8, t9, t10, t11, t12, t13, t14, t15, t16, t17, t18, t19⟩ := Wire.cell20 (w := w2) (g := w1.heap.size) HP2.out.2.1; have hca := (HA.out.keep (fun k hk => HP2.out.2.2.block k (HD.out k hk))).str; have hcb := (HB.out.keep (fun k hk => HP2.out.2.2.block k (HD'.out k hk))).str; rw [← HSA.out] at hca; rw [← HSB.out] at hcb; clear HP))
    go_ret
    exact ⟨by rw [HR.out]; rfl, HP2.out.2.2⟩
  by_cases h_tick : atick = btick
  rotate_left
  · skip
    by_cases h_many : amany = bmany
    rotate_left
    · skip
      have HR : Hid (r = false) := Lib.hid (hr.trans (decide_eq_false (fun e => h_tick (congrArg Pk.tick e))))
      have f_kind : (akind == bkind) = true := beq_iff_eq.2 h_kind
      have g_kind : (akind != bkind) = false := bne_eq_false_iff_eq.2 h_kind
      have f_sess : (asess == bsess) = true := beq_iff_eq.2 h_sess
      have g_sess : (asess != bsess) = false := bne_eq_false_iff_eq.2 h_sess
      have f_layer : (alayer == blayer) = true := beq_iff_eq.2 h_layer
      have g_layer : (alayer != blayer) = false := bne_eq_false_iff_eq.2 h_layer
      have f_tick : (atick == btick) = false := beq_eq_false_iff_ne.2 h_tick
      have g_tick : (atick != btick) = true := bne_iff_ne.2 h_tick
      have f_many : (amany == bmany) = false := beq_eq_false_iff_ne.2 h_many
      have g_many : (amany != bmany) = true := bne_iff_ne.2 h_many
      clear hr h_kind h_sess h_layer h_tick h_many
      go_enter Tryd.func16, Tryd.ntmps16
      go_wp2_with (first
        | ((with_reducible refine gate_dst (N := 2) rfl ?_); refine wp_box rfl (.tmp 0) rfl rfl rfl ?_; intro w1 hP hB hs; have HP := Lib.hid (And.intro hP (And.intro hB hs)); clear hP hB hs)
        | ((with_reducible refine gate_dst (N := 3) rfl ?_); refine wp_box rfl (.tmp 1) rfl rfl rfl ?_; intro w2 hP hB hs; have HP2 := Lib.hid (And.intro (HP.out.1.below hB) (And.intro hP (HP.out.2.1.trans (hB.mono HP.out.2.1.size)))); clear hP hB hs; obtain ⟨s0, s1, s2, s3, s4, s5, s6, s7, s8, s9, s10, s11, s12, s13, s14, s15, s16, s17, s18, s19⟩ := Wire.cell20 (w := w2) (g := w.heap.size) HP2.out.1; obtain ⟨t0, t1, t2, t3, t4, t5, t6, t7, t8, t9, t10, t11, t12, t13, t14, t15, t16, t17, t18, t19⟩ := Wire.cell20 (w := w2) (g := w1.heap.size) HP2.out.2.1; have hca := (HA.out.keep (fun k hk => HP2.out.2.2.block k (HD.out k hk))).str; have hcb := (HB.out.keep (fun k hk => HP2.out.2.2.block k (HD'.out k hk))).str; rw [← HSA.out] at hca; rw [← HSB.out] at hcb; clear HP))
      go_ret
      exact ⟨by rw [HR.out]; rfl, HP2.out.2.2⟩
    by_cases h_place : aplace = bplace
    rotate_left
    · skip
      have HR : Hid (r = false) := Lib.hid (hr.trans (decide_eq_false (fun e => h_tick (congrArg Pk.tick e))))
      have f_kind : (akind == bkind) = true := beq_iff_eq.2 h_kind
      have g_kind : (akind != bkind) = false := bne_eq_false_iff_eq.2 h_kind
      have f_sess : (asess == bsess) = true := beq_iff_eq.2 h_sess
      have g_sess : (asess != bsess) = false := bne_eq_false_iff_eq.2 h_sess
      have f_layer : (alayer == blayer) = true := beq_iff_eq.2 h_layer
      have g_layer : (alayer != blayer) = false := bne_eq_false_iff_eq.2 h_layer
      have f_tick : (atick == btick) = false := beq_eq_false_iff_ne.2 h_tick
      have g_tick : (atick != btick) = true := bne_iff_ne.2 h_tick
      have f_many : (amany == bmany) = true := beq_iff_eq.2 h_many
      have g_many : (amany != bmany) = false := bne_eq_false_iff_eq.2 h_many
      have f_place : (aplace == bplace) = false := beq_eq_false_iff_ne.2 h_place
      have g_place : (aplace != bplace) = true := bne_iff_ne.2 h_place
      clear hr h_kind h_sess h_layer h_tick h_many h_place
      go_enter Tryd.func16, Tryd.ntmps16
      go_wp2_with (first
        | ((with_reducible refine gate_dst (N := 2) rfl ?_); refine wp_box rfl (.tmp 0) rfl rfl rfl ?_; intro w1 hP hB hs; have HP := Lib.hid (And.intro hP (And.intro hB hs)); clear hP hB hs)
        | ((with_reducible refine gate_dst (N := 3) rfl ?_); refine wp_box rfl (.tmp 1) rfl rfl rfl ?_; intro w2 hP hB hs; have HP2 := Lib.hid (And.intro (HP.out.1.below hB) (And.intro hP (HP.out.2.1.trans (hB.mono HP.out.2.1.size)))); clear hP hB hs; obtain ⟨s0, s1, s2, s3, s4, s5, s6, s7, s8, s9, s10, s11, s12, s13, s14, s15, s16, s17, s18, s19⟩ := Wire.cell20 (w := w2) (g := w.heap.size) HP2.out.1; obtain ⟨t0, t1, t2, t3, t4, t5, t6, t7, t8, t9, t10, t11, t12, t13, t14, t15, t16, t17, t18, t19⟩ := Wire.cell20 (w := w2) (g := w1.heap.size) HP2.out.2.1; have hca := (HA.out.keep (fun k hk => HP2.out.2.2.block k (HD.out k hk))).str; have hcb := (HB.out.keep (fun k hk => HP2.out.2.2.block k (HD'.out k hk))).str; rw [← HSA.out] at hca; rw [← HSB.out] at hcb; clear HP))
      go_ret
      exact ⟨by rw [HR.out]; rfl, HP2.out.2.2⟩
    by_cases h_block : ablock = bblock
    rotate_left
    · skip
      have HR : Hid (r = false) := Lib.hid (hr.trans (decide_eq_false (fun e => h_tick (congrArg Pk.tick e))))
      have f_kind : (akind == bkind) = true := beq_iff_eq.2 h_kind
      have g_kind : (akind != bkind) = false := bne_eq_false_iff_eq.2 h_kind
      have f_sess : (asess == bsess) = true := beq_iff_eq.2 h_sess
      have g_sess : (asess != bsess) = false := bne_eq_false_iff_eq.2 h_sess
      have f_layer : (alayer == blayer) = true := beq_iff_eq.2 h_layer
      have g_layer : (alayer != blayer) = false := bne_eq_false_iff_eq.2 h_layer
      have f_tick : (atick == btick) = false := beq_eq_false_iff_ne.2 h_tick
      have g_tick : (atick != btick) = true := bne_iff_ne.2 h_tick
      have f_many : (amany == bmany) = true := beq_iff_eq.2 h_many
      have g_many : (amany != bmany) = false := bne_eq_false_iff_eq.2 h_many
      have f_place : (aplace == bplace) = true := beq_iff_eq.2 h_place
      have g_place : (aplace != bplace) = false := bne_eq_false_iff_eq.2 h_place
      have f_block : (ablock == bblock) = false := beq_eq_false_iff_ne.2 h_block
      have g_block : (ablock != bblock) = true := bne_iff_ne.2 h_block
      clear hr h_kind h_sess h_layer h_tick h_many h_place h_block
      go_enter Tryd.func16, Tryd.ntmps16
      go_wp2_with (first
        | ((with_reducible refine gate_dst (N := 2) rfl ?_); refine wp_box rfl (.tmp 0) rfl rfl rfl ?_; intro w1 hP hB hs; have HP := Lib.hid (And.intro hP (And.intro hB hs)); clear hP hB hs)
        | ((with_reducible refine gate_dst (N := 3) rfl ?_); refine wp_box rfl (.tmp 1) rfl rfl rfl ?_; intro w2 hP hB hs; have HP2 := Lib.hid (And.intro (HP.out.1.below hB) (And.intro hP (HP.out.2.1.trans (hB.mono HP.out.2.1.size)))); clear hP hB hs; obtain ⟨s0, s1, s2, s3, s4, s5, s6, s7, s8, s9, s10, s11, s12, s13, s14, s15, s16, s17, s18, s19⟩ := Wire.cell20 (w := w2) (g := w.heap.size) HP2.out.1; obtain ⟨t0, t1, t2, t3, t4, t5, t6, t7, t8, t9, t10, t11, t12, t13, t14, t15, t16, t17, t18, t19⟩ := Wire.cell20 (w := w2) (g := w1.heap.size) HP2.out.2.1; have hca := (HA.out.keep (fun k hk => HP2.out.2.2.block k (HD.out k hk))).str; have hcb := (HB.out.keep (fun k hk => HP2.out.2.2.block k (HD'.out k hk))).str; rw [← HSA.out] at hca; rw [← HSB.out] at hcb; clear HP))
      go_ret
      exact ⟨by rw [HR.out]; rfl, HP2.out.2.2⟩
    by_cases h_esi : aesi = besi
    rotate_left
    · skip
      have HR : Hid (r = false) := Lib.hid (hr.trans (decide_eq_false (fun e => h_tick (congrArg Pk.tick e))))
      have f_kind : (akind == bkind) = true := beq_iff_eq.2 h_kind
      have g_kind : (akind != bkind) = false := bne_eq_false_iff_eq.2 h_kind
      have f_sess : (asess == bsess) = true := beq_iff_eq.2 h_sess
      have g_sess : (asess != bsess) = false := bne_eq_false_iff_eq.2 h_sess
      have f_layer : (alayer == blayer) = true := beq_iff_eq.2 h_layer
      have g_layer : (alayer != blayer) = false := bne_eq_false_iff_eq.2 h_layer
      have f_tick : (atick == btick) = false := beq_eq_false_iff_ne.2 h_tick
      have g_tick : (atick != btick) = true := bne_iff_ne.2 h_tick
      have f_many : (amany == bmany) = true := beq_iff_eq.2 h_many
      have g_many : (amany != bmany) = false := bne_eq_false_iff_eq.2 h_many
      have f_place : (aplace == bplace) = true := beq_iff_eq.2 h_place
      have g_place : (aplace != bplace) = false := bne_eq_false_iff_eq.2 h_place
      have f_block : (ablock == bblock) = true := beq_iff_eq.2 h_block
      have g_block : (ablock != bblock) = false := bne_eq_false_iff_eq.2 h_block
      have f_esi : (aesi == besi) = false := beq_eq_false_iff_ne.2 h_esi
      have g_esi : (aesi != besi) = true := bne_iff_ne.2 h_esi
      clear hr h_kind h_sess h_layer h_tick h_many h_place h_block h_esi
      go_enter Tryd.func16, Tryd.ntmps16
      go_wp2_with (first
        | ((with_reducible refine gate_dst (N := 2) rfl ?_); refine wp_box rfl (.tmp 0) rfl rfl rfl ?_; intro w1 hP hB hs; have HP := Lib.hid (And.intro hP (And.intro hB hs)); clear hP hB hs)
        | ((with_reducible refine gate_dst (N := 3) rfl ?_); refine wp_box rfl (.tmp 1) rfl rfl rfl ?_; intro w2 hP hB hs; have HP2 := Lib.hid (And.intro (HP.out.1.below hB) (And.intro hP (HP.out.2.1.trans (hB.mono HP.out.2.1.size)))); clear hP hB hs; obtain ⟨s0, s1, s2, s3, s4, s5, s6, s7, s8, s9, s10, s11, s12, s13, s14, s15, s16, s17, s18, s19⟩ := Wire.cell20 (w := w2) (g := w.heap.size) HP2.out.1; obtain ⟨t0, t1, t2, t3, t4, t5, t6, t7, t8, t9, t10, t11, t12, t13, t14, t15, t16, t17, t18, t19⟩ := Wire.cell20 (w := w2) (g := w1.heap.size) HP2.out.2.1; have hca := (HA.out.keep (fun k hk => HP2.out.2.2.block k (HD.out k hk))).str; have hcb := (HB.out.keep (fun k hk => HP2.out.2.2.block k (HD'.out k hk))).str; rw [← HSA.out] at hca; rw [← HSB.out] at hcb; clear HP))
      go_ret
      exact ⟨by rw [HR.out]; rfl, HP2.out.2.2⟩
    by_cases h_data : adata = bdata
    rotate_left
    · skip
      have HR : Hid (r = false) := Lib.hid (hr.trans (decide_eq_false (fun e => h_tick (congrArg Pk.tick e))))
      have f_kind : (akind == bkind) = true := beq_iff_eq.2 h_kind
      have g_kind : (akind != bkind) = false := bne_eq_false_iff_eq.2 h_kind
      have f_sess : (asess == bsess) = true := beq_iff_eq.2 h_sess
      have g_sess : (asess != bsess) = false := bne_eq_false_iff_eq.2 h_sess
      have f_layer : (alayer == blayer) = true := beq_iff_eq.2 h_layer
      have g_layer : (alayer != blayer) = false := bne_eq_false_iff_eq.2 h_layer
      have f_tick : (atick == btick) = false := beq_eq_false_iff_ne.2 h_tick
      have g_tick : (atick != btick) = true := bne_iff_ne.2 h_tick
      have f_many : (amany == bmany) = true := beq_iff_eq.2 h_many
      have g_many : (amany != bmany) = false := bne_eq_false_iff_eq.2 h_many
      have f_place : (aplace == bplace) = true := beq_iff_eq.2 h_place
      have g_place : (aplace != bplace) = false := bne_eq_false_iff_eq.2 h_place
      have f_block : (ablock == bblock) = true := beq_iff_eq.2 h_block
      have g_block : (ablock != bblock) = false := bne_eq_false_iff_eq.2 h_block
      have f_esi : (aesi == besi) = true := beq_iff_eq.2 h_esi
      have g_esi : (aesi != besi) = false := bne_eq_false_iff_eq.2 h_esi
      have f_data : (sa.toList == sb.toList) = false := by rw [str_neR HA.out.lt HB.out.lt HSA.out HSB.out]; exact decide_eq_false h_data
      clear hr h_kind h_sess h_layer h_tick h_many h_place h_block h_esi h_data
      go_enter Tryd.func16, Tryd.ntmps16
      go_wp2_with (first
        | ((with_reducible refine gate_dst (N := 2) rfl ?_); refine wp_box rfl (.tmp 0) rfl rfl rfl ?_; intro w1 hP hB hs; have HP := Lib.hid (And.intro hP (And.intro hB hs)); clear hP hB hs)
        | ((with_reducible refine gate_dst (N := 3) rfl ?_); refine wp_box rfl (.tmp 1) rfl rfl rfl ?_; intro w2 hP hB hs; have HP2 := Lib.hid (And.intro (HP.out.1.below hB) (And.intro hP (HP.out.2.1.trans (hB.mono HP.out.2.1.size)))); clear hP hB hs; obtain ⟨s0, s1, s2, s3, s4, s5, s6, s7, s8, s9, s10, s11, s12, s13, s14, s15, s16, s17, s18, s19⟩ := Wire.cell20 (w := w2) (g := w.heap.size) HP2.out.1; obtain ⟨t0, t1, t2, t3, t4, t5, t6, t7, t8, t9, t10, t11, t12, t13, t14, t15, t16, t17, t18, t19⟩ := Wire.cell20 (w := w2) (g := w1.heap.size) HP2.out.2.1; have hca := (HA.out.keep (fun k hk => HP2.out.2.2.block k (HD.out k hk))).str; have hcb := (HB.out.keep (fun k hk => HP2.out.2.2.block k (HD'.out k hk))).str; rw [← HSA.out] at hca; rw [← HSB.out] at hcb; clear HP))
      go_ret
      exact ⟨by rw [HR.out]; rfl, HP2.out.2.2⟩
    have HR : Hid (r = false) := Lib.hid (hr.trans (decide_eq_false (fun e => h_tick (congrArg Pk.tick e))))
    have f_kind : (akind == bkind) = true := beq_iff_eq.2 h_kind
    have g_kind : (akind != bkind) = false := bne_eq_false_iff_eq.2 h_kind
    have f_sess : (asess == bsess) = true := beq_iff_eq.2 h_sess
    have g_sess : (asess != bsess) = false := bne_eq_false_iff_eq.2 h_sess
    have f_layer : (alayer == blayer) = true := beq_iff_eq.2 h_layer
    have g_layer : (alayer != blayer) = false := bne_eq_false_iff_eq.2 h_layer
    have f_tick : (atick == btick) = false := beq_eq_false_iff_ne.2 h_tick
    have g_tick : (atick != btick) = true := bne_iff_ne.2 h_tick
    have f_many : (amany == bmany) = true := beq_iff_eq.2 h_many
    have g_many : (amany != bmany) = false := bne_eq_false_iff_eq.2 h_many
    have f_place : (aplace == bplace) = true := beq_iff_eq.2 h_place
    have g_place : (aplace != bplace) = false := bne_eq_false_iff_eq.2 h_place
    have f_block : (ablock == bblock) = true := beq_iff_eq.2 h_block
    have g_block : (ablock != bblock) = false := bne_eq_false_iff_eq.2 h_block
    have f_esi : (aesi == besi) = true := beq_iff_eq.2 h_esi
    have g_esi : (aesi != besi) = false := bne_eq_false_iff_eq.2 h_esi
    have f_data : (sa.toList == sb.toList) = true := by rw [str_neR HA.out.lt HB.out.lt HSA.out HSB.out]; exact decide_eq_true h_data
    clear hr h_kind h_sess h_layer h_tick h_many h_place h_block h_esi h_data
    go_enter Tryd.func16, Tryd.ntmps16
    go_wp2_with (first
      | ((with_reducible refine gate_dst (N := 2) rfl ?_); refine wp_box rfl (.tmp 0) rfl rfl rfl ?_; intro w1 hP hB hs; have HP := Lib.hid (And.intro hP (And.intro hB hs)); clear hP hB hs)
      | ((with_reducible refine gate_dst (N := 3) rfl ?_); refine wp_box rfl (.tmp 1) rfl rfl rfl ?_; intro w2 hP hB hs; have HP2 := Lib.hid (And.intro (HP.out.1.below hB) (And.intro hP (HP.out.2.1.trans (hB.mono HP.out.2.1.size)))); clear hP hB hs; obtain ⟨s0, s1, s2, s3, s4, s5, s6, s7, s8, s9, s10, s11, s12, s13, s14, s15, s16, s17, s18, s19⟩ := Wire.cell20 (w := w2) (g := w.heap.size) HP2.out.1; obtain ⟨t0, t1, t2, t3, t4, t5, t6, t7, t8, t9, t10, t11, t12, t13, t14, t15, t16, t17, t18, t19⟩ := Wire.cell20 (w := w2) (g := w1.heap.size) HP2.out.2.1; have hca := (HA.out.keep (fun k hk => HP2.out.2.2.block k (HD.out k hk))).str; have hcb := (HB.out.keep (fun k hk => HP2.out.2.2.block k (HD'.out k hk))).str; rw [← HSA.out] at hca; rw [← HSB.out] at hcb; clear HP))
    go_ret
    exact ⟨by rw [HR.out]; rfl, HP2.out.2.2⟩
  by_cases h_burst : aburst = bburst
  rotate_left
  · skip
    by_cases h_many : amany = bmany
    rotate_left
    · skip
      have HR : Hid (r = false) := Lib.hid (hr.trans (decide_eq_false (fun e => h_burst (congrArg Pk.burst e))))
      have f_kind : (akind == bkind) = true := beq_iff_eq.2 h_kind
      have g_kind : (akind != bkind) = false := bne_eq_false_iff_eq.2 h_kind
      have f_sess : (asess == bsess) = true := beq_iff_eq.2 h_sess
      have g_sess : (asess != bsess) = false := bne_eq_false_iff_eq.2 h_sess
      have f_layer : (alayer == blayer) = true := beq_iff_eq.2 h_layer
      have g_layer : (alayer != blayer) = false := bne_eq_false_iff_eq.2 h_layer
      have f_tick : (atick == btick) = true := beq_iff_eq.2 h_tick
      have g_tick : (atick != btick) = false := bne_eq_false_iff_eq.2 h_tick
      have f_burst : (aburst == bburst) = false := beq_eq_false_iff_ne.2 h_burst
      have g_burst : (aburst != bburst) = true := bne_iff_ne.2 h_burst
      have f_many : (amany == bmany) = false := beq_eq_false_iff_ne.2 h_many
      have g_many : (amany != bmany) = true := bne_iff_ne.2 h_many
      clear hr h_kind h_sess h_layer h_tick h_burst h_many
      go_enter Tryd.func16, Tryd.ntmps16
      go_wp2_with (first
        | ((with_reducible refine gate_dst (N := 2) rfl ?_); refine wp_box rfl (.tmp 0) rfl rfl rfl ?_; intro w1 hP hB hs; have HP := Lib.hid (And.intro hP (And.intro hB hs)); clear hP hB hs)
        | ((with_reducible refine gate_dst (N := 3) rfl ?_); refine wp_box rfl (.tmp 1) rfl rfl rfl ?_; intro w2 hP hB hs; have HP2 := Lib.hid (And.intro (HP.out.1.below hB) (And.intro hP (HP.out.2.1.trans (hB.mono HP.out.2.1.size)))); clear hP hB hs; obtain ⟨s0, s1, s2, s3, s4, s5, s6, s7, s8, s9, s10, s11, s12, s13, s14, s15, s16, s17, s18, s19⟩ := Wire.cell20 (w := w2) (g := w.heap.size) HP2.out.1; obtain ⟨t0, t1, t2, t3, t4, t5, t6, t7, t8, t9, t10, t11, t12, t13, t14, t15, t16, t17, t18, t19⟩ := Wire.cell20 (w := w2) (g := w1.heap.size) HP2.out.2.1; have hca := (HA.out.keep (fun k hk => HP2.out.2.2.block k (HD.out k hk))).str; have hcb := (HB.out.keep (fun k hk => HP2.out.2.2.block k (HD'.out k hk))).str; rw [← HSA.out] at hca; rw [← HSB.out] at hcb; clear HP))
      go_ret
      exact ⟨by rw [HR.out]; rfl, HP2.out.2.2⟩
    by_cases h_place : aplace = bplace
    rotate_left
    · skip
      have HR : Hid (r = false) := Lib.hid (hr.trans (decide_eq_false (fun e => h_burst (congrArg Pk.burst e))))
      have f_kind : (akind == bkind) = true := beq_iff_eq.2 h_kind
      have g_kind : (akind != bkind) = false := bne_eq_false_iff_eq.2 h_kind
      have f_sess : (asess == bsess) = true := beq_iff_eq.2 h_sess
      have g_sess : (asess != bsess) = false := bne_eq_false_iff_eq.2 h_sess
      have f_layer : (alayer == blayer) = true := beq_iff_eq.2 h_layer
      have g_layer : (alayer != blayer) = false := bne_eq_false_iff_eq.2 h_layer
      have f_tick : (atick == btick) = true := beq_iff_eq.2 h_tick
      have g_tick : (atick != btick) = false := bne_eq_false_iff_eq.2 h_tick
      have f_burst : (aburst == bburst) = false := beq_eq_false_iff_ne.2 h_burst
      have g_burst : (aburst != bburst) = true := bne_iff_ne.2 h_burst
      have f_many : (amany == bmany) = true := beq_iff_eq.2 h_many
      have g_many : (amany != bmany) = false := bne_eq_false_iff_eq.2 h_many
      have f_place : (aplace == bplace) = false := beq_eq_false_iff_ne.2 h_place
      have g_place : (aplace != bplace) = true := bne_iff_ne.2 h_place
      clear hr h_kind h_sess h_layer h_tick h_burst h_many h_place
      go_enter Tryd.func16, Tryd.ntmps16
      go_wp2_with (first
        | ((with_reducible refine gate_dst (N := 2) rfl ?_); refine wp_box rfl (.tmp 0) rfl rfl rfl ?_; intro w1 hP hB hs; have HP := Lib.hid (And.intro hP (And.intro hB hs)); clear hP hB hs)
        | ((with_reducible refine gate_dst (N := 3) rfl ?_); refine wp_box rfl (.tmp 1) rfl rfl rfl ?_; intro w2 hP hB hs; have HP2 := Lib.hid (And.intro (HP.out.1.below hB) (And.intro hP (HP.out.2.1.trans (hB.mono HP.out.2.1.size)))); clear hP hB hs; obtain ⟨s0, s1, s2, s3, s4, s5, s6, s7, s8, s9, s10, s11, s12, s13, s14, s15, s16, s17, s18, s19⟩ := Wire.cell20 (w := w2) (g := w.heap.size) HP2.out.1; obtain ⟨t0, t1, t2, t3, t4, t5, t6, t7, t8, t9, t10, t11, t12, t13, t14, t15, t16, t17, t18, t19⟩ := Wire.cell20 (w := w2) (g := w1.heap.size) HP2.out.2.1; have hca := (HA.out.keep (fun k hk => HP2.out.2.2.block k (HD.out k hk))).str; have hcb := (HB.out.keep (fun k hk => HP2.out.2.2.block k (HD'.out k hk))).str; rw [← HSA.out] at hca; rw [← HSB.out] at hcb; clear HP))
      go_ret
      exact ⟨by rw [HR.out]; rfl, HP2.out.2.2⟩
    by_cases h_block : ablock = bblock
    rotate_left
    · skip
      have HR : Hid (r = false) := Lib.hid (hr.trans (decide_eq_false (fun e => h_burst (congrArg Pk.burst e))))
      have f_kind : (akind == bkind) = true := beq_iff_eq.2 h_kind
      have g_kind : (akind != bkind) = false := bne_eq_false_iff_eq.2 h_kind
      have f_sess : (asess == bsess) = true := beq_iff_eq.2 h_sess
      have g_sess : (asess != bsess) = false := bne_eq_false_iff_eq.2 h_sess
      have f_layer : (alayer == blayer) = true := beq_iff_eq.2 h_layer
      have g_layer : (alayer != blayer) = false := bne_eq_false_iff_eq.2 h_layer
      have f_tick : (atick == btick) = true := beq_iff_eq.2 h_tick
      have g_tick : (atick != btick) = false := bne_eq_false_iff_eq.2 h_tick
      have f_burst : (aburst == bburst) = false := beq_eq_false_iff_ne.2 h_burst
      have g_burst : (aburst != bburst) = true := bne_iff_ne.2 h_burst
      have f_many : (amany == bmany) = true := beq_iff_eq.2 h_many
      have g_many : (amany != bmany) = false := bne_eq_false_iff_eq.2 h_many
      have f_place : (aplace == bplace) = true := beq_iff_eq.2 h_place
      have g_place : (aplace != bplace) = false := bne_eq_false_iff_eq.2 h_place
      have f_block : (ablock == bblock) = false := beq_eq_false_iff_ne.2 h_block
      have g_block : (ablock != bblock) = true := bne_iff_ne.2 h_block
      clear hr h_kind h_sess h_layer h_tick h_burst h_many h_place h_block
      go_enter Tryd.func16, Tryd.ntmps16
      go_wp2_with (first
        | ((with_reducible refine gate_dst (N := 2) rfl ?_); refine wp_box rfl (.tmp 0) rfl rfl rfl ?_; intro w1 hP hB hs; have HP := Lib.hid (And.intro hP (And.intro hB hs)); clear hP hB hs)
        | ((with_reducible refine gate_dst (N := 3) rfl ?_); refine wp_box rfl (.tmp 1) rfl rfl rfl ?_; intro w2 hP hB hs; have HP2 := Lib.hid (And.intro (HP.out.1.below hB) (And.intro hP (HP.out.2.1.trans (hB.mono HP.out.2.1.size)))); clear hP hB hs; obtain ⟨s0, s1, s2, s3, s4, s5, s6, s7, s8, s9, s10, s11, s12, s13, s14, s15, s16, s17, s18, s19⟩ := Wire.cell20 (w := w2) (g := w.heap.size) HP2.out.1; obtain ⟨t0, t1, t2, t3, t4, t5, t6, t7, t8, t9, t10, t11, t12, t13, t14, t15, t16, t17, t18, t19⟩ := Wire.cell20 (w := w2) (g := w1.heap.size) HP2.out.2.1; have hca := (HA.out.keep (fun k hk => HP2.out.2.2.block k (HD.out k hk))).str; have hcb := (HB.out.keep (fun k hk => HP2.out.2.2.block k (HD'.out k hk))).str; rw [← HSA.out] at hca; rw [← HSB.out] at hcb; clear HP))
      go_ret
      exact ⟨by rw [HR.out]; rfl, HP2.out.2.2⟩
    by_cases h_esi : aesi = besi
    rotate_left
    · skip
      have HR : Hid (r = false) := Lib.hid (hr.trans (decide_eq_false (fun e => h_burst (congrArg Pk.burst e))))
      have f_kind : (akind == bkind) = true := beq_iff_eq.2 h_kind
      have g_kind : (akind != bkind) = false := bne_eq_false_iff_eq.2 h_kind
      have f_sess : (asess == bsess) = true := beq_iff_eq.2 h_sess
      have g_sess : (asess != bsess) = false := bne_eq_false_iff_eq.2 h_sess
      have f_layer : (alayer == blayer) = true := beq_iff_eq.2 h_layer
      have g_layer : (alayer != blayer) = false := bne_eq_false_iff_eq.2 h_layer
      have f_tick : (atick == btick) = true := beq_iff_eq.2 h_tick
      have g_tick : (atick != btick) = false := bne_eq_false_iff_eq.2 h_tick
      have f_burst : (aburst == bburst) = false := beq_eq_false_iff_ne.2 h_burst
      have g_burst : (aburst != bburst) = true := bne_iff_ne.2 h_burst
      have f_many : (amany == bmany) = true := beq_iff_eq.2 h_many
      have g_many : (amany != bmany) = false := bne_eq_false_iff_eq.2 h_many
      have f_place : (aplace == bplace) = true := beq_iff_eq.2 h_place
      have g_place : (aplace != bplace) = false := bne_eq_false_iff_eq.2 h_place
      have f_block : (ablock == bblock) = true := beq_iff_eq.2 h_block
      have g_block : (ablock != bblock) = false := bne_eq_false_iff_eq.2 h_block
      have f_esi : (aesi == besi) = false := beq_eq_false_iff_ne.2 h_esi
      have g_esi : (aesi != besi) = true := bne_iff_ne.2 h_esi
      clear hr h_kind h_sess h_layer h_tick h_burst h_many h_place h_block h_esi
      go_enter Tryd.func16, Tryd.ntmps16
      go_wp2_with (first
        | ((with_reducible refine gate_dst (N := 2) rfl ?_); refine wp_box rfl (.tmp 0) rfl rfl rfl ?_; intro w1 hP hB hs; have HP := Lib.hid (And.intro hP (And.intro hB hs)); clear hP hB hs)
        | ((with_reducible refine gate_dst (N := 3) rfl ?_); refine wp_box rfl (.tmp 1) rfl rfl rfl ?_; intro w2 hP hB hs; have HP2 := Lib.hid (And.intro (HP.out.1.below hB) (And.intro hP (HP.out.2.1.trans (hB.mono HP.out.2.1.size)))); clear hP hB hs; obtain ⟨s0, s1, s2, s3, s4, s5, s6, s7, s8, s9, s10, s11, s12, s13, s14, s15, s16, s17, s18, s19⟩ := Wire.cell20 (w := w2) (g := w.heap.size) HP2.out.1; obtain ⟨t0, t1, t2, t3, t4, t5, t6, t7, t8, t9, t10, t11, t12, t13, t14, t15, t16, t17, t18, t19⟩ := Wire.cell20 (w := w2) (g := w1.heap.size) HP2.out.2.1; have hca := (HA.out.keep (fun k hk => HP2.out.2.2.block k (HD.out k hk))).str; have hcb := (HB.out.keep (fun k hk => HP2.out.2.2.block k (HD'.out k hk))).str; rw [← HSA.out] at hca; rw [← HSB.out] at hcb; clear HP))
      go_ret
      exact ⟨by rw [HR.out]; rfl, HP2.out.2.2⟩
    by_cases h_data : adata = bdata
    rotate_left
    · skip
      have HR : Hid (r = false) := Lib.hid (hr.trans (decide_eq_false (fun e => h_burst (congrArg Pk.burst e))))
      have f_kind : (akind == bkind) = true := beq_iff_eq.2 h_kind
      have g_kind : (akind != bkind) = false := bne_eq_false_iff_eq.2 h_kind
      have f_sess : (asess == bsess) = true := beq_iff_eq.2 h_sess
      have g_sess : (asess != bsess) = false := bne_eq_false_iff_eq.2 h_sess
      have f_layer : (alayer == blayer) = true := beq_iff_eq.2 h_layer
      have g_layer : (alayer != blayer) = false := bne_eq_false_iff_eq.2 h_layer
      have f_tick : (atick == btick) = true := beq_iff_eq.2 h_tick
      have g_tick : (atick != btick) = false := bne_eq_false_iff_eq.2 h_tick
      have f_burst : (aburst == bburst) = false := beq_eq_false_iff_ne.2 h_burst
      have g_burst : (aburst != bburst) = true := bne_iff_ne.2 h_burst
      have f_many : (amany == bmany) = true := beq_iff_eq.2 h_many
      have g_many : (amany != bmany) = false := bne_eq_false_iff_eq.2 h_many
      have f_place : (aplace == bplace) = true := beq_iff_eq.2 h_place
      have g_place : (aplace != bplace) = false := bne_eq_false_iff_eq.2 h_place
      have f_block : (ablock == bblock) = true := beq_iff_eq.2 h_block
      have g_block : (ablock != bblock) = false := bne_eq_false_iff_eq.2 h_block
      have f_esi : (aesi == besi) = true := beq_iff_eq.2 h_esi
      have g_esi : (aesi != besi) = false := bne_eq_false_iff_eq.2 h_esi
      have f_data : (sa.toList == sb.toList) = false := by rw [str_neR HA.out.lt HB.out.lt HSA.out HSB.out]; exact decide_eq_false h_data
      clear hr h_kind h_sess h_layer h_tick h_burst h_many h_place h_block h_esi h_data
      go_enter Tryd.func16, Tryd.ntmps16
      go_wp2_with (first
        | ((with_reducible refine gate_dst (N := 2) rfl ?_); refine wp_box rfl (.tmp 0) rfl rfl rfl ?_; intro w1 hP hB hs; have HP := Lib.hid (And.intro hP (And.intro hB hs)); clear hP hB hs)
        | ((with_reducible refine gate_dst (N := 3) rfl ?_); refine wp_box rfl (.tmp 1) rfl rfl rfl ?_; intro w2 hP hB hs; have HP2 := Lib.hid (And.intro (HP.out.1.below hB) (And.intro hP (HP.out.2.1.trans (hB.mono HP.out.2.1.size)))); clear hP hB hs; obtain ⟨s0, s1, s2, s3, s4, s5, s6, s7, s8, s9, s10, s11, s12, s13, s14, s15, s16, s17, s18, s19⟩ := Wire.cell20 (w := w2) (g := w.heap.size) HP2.out.1; obtain ⟨t0, t1, t2, t3, t4, t5, t6, t7, t8, t9, t10, t11, t12, t13, t14, t15, t16, t17, t18, t19⟩ := Wire.cell20 (w := w2) (g := w1.heap.size) HP2.out.2.1; have hca := (HA.out.keep (fun k hk => HP2.out.2.2.block k (HD.out k hk))).str; have hcb := (HB.out.keep (fun k hk => HP2.out.2.2.block k (HD'.out k hk))).str; rw [← HSA.out] at hca; rw [← HSB.out] at hcb; clear HP))
      go_ret
      exact ⟨by rw [HR.out]; rfl, HP2.out.2.2⟩
    have HR : Hid (r = false) := Lib.hid (hr.trans (decide_eq_false (fun e => h_burst (congrArg Pk.burst e))))
    have f_kind : (akind == bkind) = true := beq_iff_eq.2 h_kind
    have g_kind : (akind != bkind) = false := bne_eq_false_iff_eq.2 h_kind
    have f_sess : (asess == bsess) = true := beq_iff_eq.2 h_sess
    have g_sess : (asess != bsess) = false := bne_eq_false_iff_eq.2 h_sess
    have f_layer : (alayer == blayer) = true := beq_iff_eq.2 h_layer
    have g_layer : (alayer != blayer) = false := bne_eq_false_iff_eq.2 h_layer
    have f_tick : (atick == btick) = true := beq_iff_eq.2 h_tick
    have g_tick : (atick != btick) = false := bne_eq_false_iff_eq.2 h_tick
    have f_burst : (aburst == bburst) = false := beq_eq_false_iff_ne.2 h_burst
    have g_burst : (aburst != bburst) = true := bne_iff_ne.2 h_burst
    have f_many : (amany == bmany) = true := beq_iff_eq.2 h_many
    have g_many : (amany != bmany) = false := bne_eq_false_iff_eq.2 h_many
    have f_place : (aplace == bplace) = true := beq_iff_eq.2 h_place
    have g_place : (aplace != bplace) = false := bne_eq_false_iff_eq.2 h_place
    have f_block : (ablock == bblock) = true := beq_iff_eq.2 h_block
    have g_block : (ablock != bblock) = false := bne_eq_false_iff_eq.2 h_block
    have f_esi : (aesi == besi) = true := beq_iff_eq.2 h_esi
    have g_esi : (aesi != besi) = false := bne_eq_false_iff_eq.2 h_esi
    have f_data : (sa.toList == sb.toList) = true := by rw [str_neR HA.out.lt HB.out.lt HSA.out HSB.out]; exact decide_eq_true h_data
    clear hr h_kind h_sess h_layer h_tick h_burst h_many h_place h_block h_esi h_data
    go_enter Tryd.func16, Tryd.ntmps16
    go_wp2_with (first
      | ((with_reducible refine gate_dst (N := 2) rfl ?_); refine wp_box rfl (.tmp 0) rfl rfl rfl ?_; intro w1 hP hB hs; have HP := Lib.hid (And.intro hP (And.intro hB hs)); clear hP hB hs)
      | ((with_reducible refine gate_dst (N := 3) rfl ?_); refine wp_box rfl (.tmp 1) rfl rfl rfl ?_; intro w2 hP hB hs; have HP2 := Lib.hid (And.intro (HP.out.1.below hB) (And.intro hP (HP.out.2.1.trans (hB.mono HP.out.2.1.size)))); clear hP hB hs; obtain ⟨s0, s1, s2, s3, s4, s5, s6, s7, s8, s9, s10, s11, s12, s13, s14, s15, s16, s17, s18, s19⟩ := Wire.cell20 (w := w2) (g := w.heap.size) HP2.out.1; obtain ⟨t0, t1, t2, t3, t4, t5, t6, t7, t8, t9, t10, t11, t12, t13, t14, t15, t16, t17, t18, t19⟩ := Wire.cell20 (w := w2) (g := w1.heap.size) HP2.out.2.1; have hca := (HA.out.keep (fun k hk => HP2.out.2.2.block k (HD.out k hk))).str; have hcb := (HB.out.keep (fun k hk => HP2.out.2.2.block k (HD'.out k hk))).str; rw [← HSA.out] at hca; rw [← HSB.out] at hcb; clear HP))
    go_ret
    exact ⟨by rw [HR.out]; rfl, HP2.out.2.2⟩
  by_cases h_sync : async = bsync
  rotate_left
  · skip
    by_cases h_many : amany = bmany
    rotate_left
    · skip
      have HR : Hid (r = false) := Lib.hid (hr.trans (decide_eq_false (fun e => h_sync (congrArg Pk.sync e))))
      have f_kind : (akind == bkind) = true := beq_iff_eq.2 h_kind
      have g_kind : (akind != bkind) = false := bne_eq_false_iff_eq.2 h_kind
      have f_sess : (asess == bsess) = true := beq_iff_eq.2 h_sess
      have g_sess : (asess != bsess) = false := bne_eq_false_iff_eq.2 h_sess
      have f_layer : (alayer == blayer) = true := beq_iff_eq.2 h_layer
      have g_layer : (alayer != blayer) = false := bne_eq_false_iff_eq.2 h_layer
      have f_tick : (atick == btick) = true := beq_iff_eq.2 h_tick
      have g_tick : (atick != btick) = false := bne_eq_false_iff_eq.2 h_tick
      have f_burst : (aburst == bburst) = true := beq_iff_eq.2 h_burst
      have g_burst : (aburst != bburst) = false := bne_eq_false_iff_eq.2 h_burst
      have f_sync : (async == bsync) = false := beq_eq_false_iff_ne.2 h_sync
      have g_sync : (async != bsync) = true := bne_iff_ne.2 h_sync
      have f_many : (amany == bmany) = false := beq_eq_false_iff_ne.2 h_many
      have g_many : (amany != bmany) = true := bne_iff_ne.2 h_many
      clear hr h_kind h_sess h_layer h_tick h_burst h_sync h_many
      go_enter Tryd.func16, Tryd.ntmps16
      go_wp2_with (first
        | ((with_reducible refine gate_dst (N := 2) rfl ?_); refine wp_box rfl (.tmp 0) rfl rfl rfl ?_; intro w1 hP hB hs; have HP := Lib.hid (And.intro hP (And.intro hB hs)); clear hP hB hs)
        | ((with_reducible refine gate_dst (N := 3) rfl ?_); refine wp_box rfl (.tmp 1) rfl rfl rfl ?_; intro w2 hP hB hs; have HP2 := Lib.hid (And.intro (HP.out.1.below hB) (And.intro hP (HP.out.2.1.trans (hB.mono HP.out.2.1.size)))); clear hP hB hs; obtain ⟨s0, s1, s2, s3, s4, s5, s6, s7, s8, s9, s10, s11, s12, s13, s14, s15, s16, s17, s18, s19⟩ := Wire.cell20 (w := w2) (g := w.heap.size) HP2.out.1; obtain ⟨t0, t1, t2, t3, t4, t5, t6, t7, t8, t9, t10, t11, t12, t13, t14, t15, t16, t17, t18, t19⟩ := Wire.cell20 (w := w2) (g := w1.heap.size) HP2.out.2.1; have hca := (HA.out.keep (fun k hk => HP2.out.2.2.block k (HD.out k hk))).str; have hcb := (HB.out.keep (fun k hk => HP2.out.2.2.block k (HD'.out k hk))).str; rw [← HSA.out] at hca; rw [← HSB.out] at hcb; clear HP))
      go_ret
      exact ⟨by rw [HR.out]; rfl, HP2.out.2.2⟩
    by_cases h_place : aplace = bplace
    rotate_left
    · skip
      have HR : Hid (r = false) := Lib.hid (hr.trans (decide_eq_false (fun e => h_sync (congrArg Pk.sync e))))
      have f_kind : (akind == bkind) = true := beq_iff_eq.2 h_kind
      have g_kind : (akind != bkind) = false := bne_eq_false_iff_eq.2 h_kind
      have f_sess : (asess == bsess) = true := beq_iff_eq.2 h_sess
      have g_sess : (asess != bsess) = false := bne_eq_false_iff_eq.2 h_sess
      have f_layer : (alayer == blayer) = true := beq_iff_eq.2 h_layer
      have g_layer : (alayer != blayer) = false := bne_eq_false_iff_eq.2 h_layer
      have f_tick : (atick == btick) = true := beq_iff_eq.2 h_tick
      have g_tick : (atick != btick) = false := bne_eq_false_iff_eq.2 h_tick
      have f_burst : (aburst == bburst) = true := beq_iff_eq.2 h_burst
      have g_burst : (aburst != bburst) = false := bne_eq_false_iff_eq.2 h_burst
      have f_sync : (async == bsync) = false := beq_eq_false_iff_ne.2 h_sync
      have g_sync : (async != bsync) = true := bne_iff_ne.2 h_sync
      have f_many : (amany == bmany) = true := beq_iff_eq.2 h_many
      have g_many : (amany != bmany) = false := bne_eq_false_iff_eq.2 h_many
      have f_place : (aplace == bplace) = false := beq_eq_false_iff_ne.2 h_place
      have g_place : (aplace != bplace) = true := bne_iff_ne.2 h_place
      clear hr h_kind h_sess h_layer h_tick h_burst h_sync h_many h_place
      go_enter Tryd.func16, Tryd.ntmps16
      go_wp2_with (first
        | ((with_reducible refine gate_dst (N := 2) rfl ?_); refine wp_box rfl (.tmp 0) rfl rfl rfl ?_; intro w1 hP hB hs; have HP := Lib.hid (And.intro hP (And.intro hB hs)); clear hP hB hs)
        | ((with_reducible refine gate_dst (N := 3) rfl ?_); refine wp_box rfl (.tmp 1) rfl rfl rfl ?_; intro w2 hP hB hs; have HP2 := Lib.hid (And.intro (HP.out.1.below hB) (And.intro hP (HP.out.2.1.trans (hB.mono HP.out.2.1.size)))); clear hP hB hs; obtain ⟨s0, s1, s2, s3, s4, s5, s6, s7, s8, s9, s10, s11, s12, s13, s14, s15, s16, s17, s18, s19⟩ := Wire.cell20 (w := w2) (g := w.heap.size) HP2.out.1; obtain ⟨t0, t1, t2, t3, t4, t5, t6, t7, t8, t9, t10, t11, t12, t13, t14, t15, t16, t17, t18, t19⟩ := Wire.cell20 (w := w2) (g := w1.heap.size) HP2.out.2.1; have hca := (HA.out.keep (fun k hk => HP2.out.2.2.block k (HD.out k hk))).str; have hcb := (HB.out.keep (fun k hk => HP2.out.2.2.block k (HD'.out k hk))).str; rw [← HSA.out] at hca; rw [← HSB.out] at hcb; clear HP))
      go_ret
      exact ⟨by rw [HR.out]; rfl, HP2.out.2.2⟩
    by_cases h_block : ablock = bblock
    rotate_left
    · skip
      have HR : Hid (r = false) := Lib.hid (hr.trans (decide_eq_false (fun e => h_sync (congrArg Pk.sync e))))
      have f_kind : (akind == bkind) = true := beq_iff_eq.2 h_kind
      have g_kind : (akind != bkind) = false := bne_eq_false_iff_eq.2 h_kind
      have f_sess : (asess == bsess) = true := beq_iff_eq.2 h_sess
      have g_sess : (asess != bsess) = false := bne_eq_false_iff_eq.2 h_sess
      have f_layer : (alayer == blayer) = true := beq_iff_eq.2 h_layer
      have g_layer : (alayer != blayer) = false := bne_eq_false_iff_eq.2 h_layer
      have f_tick : (atick == btick) = true := beq_iff_eq.2 h_tick
      have g_tick : (atick != btick) = false := bne_eq_false_iff_eq.2 h_tick
      have f_burst : (aburst == bburst) = true := beq_iff_eq.2 h_burst
      have g_burst : (aburst != bburst) = false := bne_eq_false_iff_eq.2 h_burst
      have f_sync : (async == bsync) = false := beq_eq_false_iff_ne.2 h_sync
      have g_sync : (async != bsync) = true := bne_iff_ne.2 h_sync
      have f_many : (amany == bmany) = true := beq_iff_eq.2 h_many
      have g_many : (amany != bmany) = false := bne_eq_false_iff_eq.2 h_many
      have f_place : (aplace == bplace) = true := beq_iff_eq.2 h_place
      have g_place : (aplace != bplace) = false := bne_eq_false_iff_eq.2 h_place
      have f_block : (ablock == bblock) = false := beq_eq_false_iff_ne.2 h_block
      have g_block : (ablock != bblock) = true := bne_iff_ne.2 h_block
      clear hr h_kind h_sess h_layer h_tick h_burst h_sync h_many h_place h_block
      go_enter Tryd.func16, Tryd.ntmps16
      go_wp2_with (first
        | ((with_reducible refine gate_dst (N := 2) rfl ?_); refine wp_box rfl (.tmp 0) rfl rfl rfl ?_; intro w1 hP hB hs; have HP := Lib.hid (And.intro hP (And.intro hB hs)); clear hP hB hs)
        | ((with_reducible refine gate_dst (N := 3) rfl ?_); refine wp_box rfl (.tmp 1) rfl rfl rfl ?_; intro w2 hP hB hs; have HP2 := Lib.hid (And.intro (HP.out.1.below hB) (And.intro hP (HP.out.2.1.trans (hB.mono HP.out.2.1.size)))); clear hP hB hs; obtain ⟨s0, s1, s2, s3, s4, s5, s6, s7, s8, s9, s10, s11, s12, s13, s14, s15, s16, s17, s18, s19⟩ := Wire.cell20 (w := w2) (g := w.heap.size) HP2.out.1; obtain ⟨t0, t1, t2, t3, t4, t5, t6, t7, t8, t9, t10, t11, t12, t13, t14, t15, t16, t17, t18, t19⟩ := Wire.cell20 (w := w2) (g := w1.heap.size) HP2.out.2.1; have hca := (HA.out.keep (fun k hk => HP2.out.2.2.block k (HD.out k hk))).str; have hcb := (HB.out.keep (fun k hk => HP2.out.2.2.block k (HD'.out k hk))).str; rw [← HSA.out] at hca; rw [← HSB.out] at hcb; clear HP))
      go_ret
      exact ⟨by rw [HR.out]; rfl, HP2.out.2.2⟩
    by_cases h_esi : aesi = besi
    rotate_left
    · skip
      have HR : Hid (r = false) := Lib.hid (hr.trans (decide_eq_false (fun e => h_sync (congrArg Pk.sync e))))
      have f_kind : (akind == bkind) = true := beq_iff_eq.2 h_kind
      have g_kind : (akind != bkind) = false := bne_eq_false_iff_eq.2 h_kind
      have f_sess : (asess == bsess) = true := beq_iff_eq.2 h_sess
      have g_sess : (asess != bsess) = false := bne_eq_false_iff_eq.2 h_sess
      have f_layer : (alayer == blayer) = true := beq_iff_eq.2 h_layer
      have g_layer : (alayer != blayer) = false := bne_eq_false_iff_eq.2 h_layer
      have f_tick : (atick == btick) = true := beq_iff_eq.2 h_tick
      have g_tick : (atick != btick) = false := bne_eq_false_iff_eq.2 h_tick
      have f_burst : (aburst == bburst) = true := beq_iff_eq.2 h_burst
      have g_burst : (aburst != bburst) = false := bne_eq_false_iff_eq.2 h_burst
      have f_sync : (async == bsync) = false := beq_eq_false_iff_ne.2 h_sync
      have g_sync : (async != bsync) = true := bne_iff_ne.2 h_sync
      have f_many : (amany == bmany) = true := beq_iff_eq.2 h_many
      have g_many : (amany != bmany) = false := bne_eq_false_iff_eq.2 h_many
      have f_place : (aplace == bplace) = true := beq_iff_eq.2 h_place
      have g_place : (aplace != bplace) = false := bne_eq_false_iff_eq.2 h_place
      have f_block : (ablock == bblock) = true := beq_iff_eq.2 h_block
      have g_block : (ablock != bblock) = false := bne_eq_false_iff_eq.2 h_block
      have f_esi : (aesi == besi) = false := beq_eq_false_iff_ne.2 h_esi
      have g_esi : (aesi != besi) = true := bne_iff_ne.2 h_esi
      clear hr h_kind h_sess h_layer h_tick h_burst h_sync h_many h_place h_block h_esi
      go_enter Tryd.func16, Tryd.ntmps16
      go_wp2_with (first
        | ((with_reducible refine gate_dst (N := 2) rfl ?_); refine wp_box rfl (.tmp 0) rfl rfl rfl ?_; intro w1 hP hB hs; have HP := Lib.hid (And.intro hP (And.intro hB hs)); clear hP hB hs)
        | ((with_reducible refine gate_dst (N := 3) rfl ?_); refine wp_box rfl (.tmp 1) rfl rfl rfl ?_; intro w2 hP hB hs; have HP2 := Lib.hid (And.intro (HP.out.1.below hB) (And.intro hP (HP.out.2.1.trans (hB.mono HP.out.2.1.size)))); clear hP hB hs; obtain ⟨s0, s1, s2, s3, s4, s5, s6, s7, s8, s9, s10, s11, s12, s13, s14, s15, s16, s17, s18, s19⟩ := Wire.cell20 (w := w2) (g := w.heap.size) HP2.out.1; obtain ⟨t0, t1, t2, t3, t4, t5, t6, t7, t8, t9, t10, t11, t12, t13, t14, t15, t16, t17, t18, t19⟩ := Wire.cell20 (w := w2) (g := w1.heap.size) HP2.out.2.1; have hca := (HA.out.keep (fun k hk => HP2.out.2.2.block k (HD.out k hk))).str; have hcb := (HB.out.keep (fun k hk => HP2.out.2.2.block k (HD'.out k hk))).str; rw [← HSA.out] at hca; rw [← HSB.out] at hcb; clear HP))
      go_ret
      exact ⟨by rw [HR.out]; rfl, HP2.out.2.2⟩
    by_cases h_data : adata = bdata
    rotate_left
    · skip
      have HR : Hid (r = false) := Lib.hid (hr.trans (decide_eq_false (fun e => h_sync (congrArg Pk.sync e))))
      have f_kind : (akind == bkind) = true := beq_iff_eq.2 h_kind
      have g_kind : (akind != bkind) = false := bne_eq_false_iff_eq.2 h_kind
      have f_sess : (asess == bsess) = true := beq_iff_eq.2 h_sess
      have g_sess : (asess != bsess) = false := bne_eq_false_iff_eq.2 h_sess
      have f_layer : (alayer == blayer) = true := beq_iff_eq.2 h_layer
      have g_layer : (alayer != blayer) = false := bne_eq_false_iff_eq.2 h_layer
      have f_tick : (atick == btick) = true := beq_iff_eq.2 h_tick
      have g_tick : (atick != btick) = false := bne_eq_false_iff_eq.2 h_tick
      have f_burst : (aburst == bburst) = true := beq_iff_eq.2 h_burst
      have g_burst : (aburst != bburst) = false := bne_eq_false_iff_eq.2 h_burst
      have f_sync : (async == bsync) = false := beq_eq_false_iff_ne.2 h_sync
      have g_sync : (async != bsync) = true := bne_iff_ne.2 h_sync
      have f_many : (amany == bmany) = true := beq_iff_eq.2 h_many
      have g_many : (amany != bmany) = false := bne_eq_false_iff_eq.2 h_many
      have f_place : (aplace == bplace) = true := beq_iff_eq.2 h_place
      have g_place : (aplace != bplace) = false := bne_eq_false_iff_eq.2 h_place
      have f_block : (ablock == bblock) = true := beq_iff_eq.2 h_block
      have g_block : (ablock != bblock) = false := bne_eq_false_iff_eq.2 h_block
      have f_esi : (aesi == besi) = true := beq_iff_eq.2 h_esi
      have g_esi : (aesi != besi) = false := bne_eq_false_iff_eq.2 h_esi
      have f_data : (sa.toList == sb.toList) = false := by rw [str_neR HA.out.lt HB.out.lt HSA.out HSB.out]; exact decide_eq_false h_data
      clear hr h_kind h_sess h_layer h_tick h_burst h_sync h_many h_place h_block h_esi h_data
      go_enter Tryd.func16, Tryd.ntmps16
      go_wp2_with (first
        | ((with_reducible refine gate_dst (N := 2) rfl ?_); refine wp_box rfl (.tmp 0) rfl rfl rfl ?_; intro w1 hP hB hs; have HP := Lib.hid (And.intro hP (And.intro hB hs)); clear hP hB hs)
        | ((with_reducible refine gate_dst (N := 3) rfl ?_); refine wp_box rfl (.tmp 1) rfl rfl rfl ?_; intro w2 hP hB hs; have HP2 := Lib.hid (And.intro (HP.out.1.below hB) (And.intro hP (HP.out.2.1.trans (hB.mono HP.out.2.1.size)))); clear hP hB hs; obtain ⟨s0, s1, s2, s3, s4, s5, s6, s7, s8, s9, s10, s11, s12, s13, s14, s15, s16, s17, s18, s19⟩ := Wire.cell20 (w := w2) (g := w.heap.size) HP2.out.1; obtain ⟨t0, t1, t2, t3, t4, t5, t6, t7, t8, t9, t10, t11, t12, t13, t14, t15, t16, t17, t18, t19⟩ := Wire.cell20 (w := w2) (g := w1.heap.size) HP2.out.2.1; have hca := (HA.out.keep (fun k hk => HP2.out.2.2.block k (HD.out k hk))).str; have hcb := (HB.out.keep (fun k hk => HP2.out.2.2.block k (HD'.out k hk))).str; rw [← HSA.out] at hca; rw [← HSB.out] at hcb; clear HP))
      go_ret
      exact ⟨by rw [HR.out]; rfl, HP2.out.2.2⟩
    have HR : Hid (r = false) := Lib.hid (hr.trans (decide_eq_false (fun e => h_sync (congrArg Pk.sync e))))
    have f_kind : (akind == bkind) = true := beq_iff_eq.2 h_kind
    have g_kind : (akind != bkind) = false := bne_eq_false_iff_eq.2 h_kind
    have f_sess : (asess == bsess) = true := beq_iff_eq.2 h_sess
    have g_sess : (asess != bsess) = false := bne_eq_false_iff_eq.2 h_sess
    have f_layer : (alayer == blayer) = true := beq_iff_eq.2 h_layer
    have g_layer : (alayer != blayer) = false := bne_eq_false_iff_eq.2 h_layer
    have f_tick : (atick == btick) = true := beq_iff_eq.2 h_tick
    have g_tick : (atick != btick) = false := bne_eq_false_iff_eq.2 h_tick
    have f_burst : (aburst == bburst) = true := beq_iff_eq.2 h_burst
    have g_burst : (aburst != bburst) = false := bne_eq_false_iff_eq.2 h_burst
    have f_sync : (async == bsync) = false := beq_eq_false_iff_ne.2 h_sync
    have g_sync : (async != bsync) = true := bne_iff_ne.2 h_sync
    have f_many : (amany == bmany) = true := beq_iff_eq.2 h_many
    have g_many : (amany != bmany) = false := bne_eq_false_iff_eq.2 h_many
    have f_place : (aplace == bplace) = true := beq_iff_eq.2 h_place
    have g_place : (aplace != bplace) = false := bne_eq_false_iff_eq.2 h_place
    have f_block : (ablock == bblock) = true := beq_iff_eq.2 h_block
    have g_block : (ablock != bblock) = false := bne_eq_false_iff_eq.2 h_block
    have f_esi : (aesi == besi) = true := beq_iff_eq.2 h_esi
    have g_esi : (aesi != besi) = false := bne_eq_false_iff_eq.2 h_esi
    have f_data : (sa.toList == sb.toList) = true := by rw [str_neR HA.out.lt HB.out.lt HSA.out HSB.out]; exact decide_eq_true h_data
    clear hr h_kind h_sess h_layer h_tick h_burst h_sync h_many h_place h_block h_esi h_data
    go_enter Tryd.func16, Tryd.ntmps16
    go_wp2_with (first
      | ((with_reducible refine gate_dst (N := 2) rfl ?_); refine wp_box rfl (.tmp 0) rfl rfl rfl ?_; intro w1 hP hB hs; have HP := Lib.hid (And.intro hP (And.intro hB hs)); clear hP hB hs)
      | ((with_reducible refine gate_dst (N := 3) rfl ?_); refine wp_box rfl (.tmp 1) rfl rfl rfl ?_; intro w2 hP hB hs; have HP2 := Lib.hid (And.intro (HP.out.1.below hB) (And.intro hP (HP.out.2.1.trans (hB.mono HP.out.2.1.size)))); clear hP hB hs; obtain ⟨s0, s1, s2, s3, s4, s5, s6, s7, s8, s9, s10, s11, s12, s13, s14, s15, s16, s17, s18, s19⟩ := Wire.cell20 (w := w2) (g := w.heap.size) HP2.out.1; obtain ⟨t0, t1, t2, t3, t4, t5, t6, t7, t8, t9, t10, t11, t12, t13, t14, t15, t16, t17, t18, t19⟩ := Wire.cell20 (w := w2) (g := w1.heap.size) HP2.out.2.1; have hca := (HA.out.keep (fun k hk => HP2.out.2.2.block k (HD.out k hk))).str; have hcb := (HB.out.keep (fun k hk => HP2.out.2.2.block k (HD'.out k hk))).str; rw [← HSA.out] at hca; rw [← HSB.out] at hcb; clear HP))
    go_ret
    exact ⟨by rw [HR.out]; rfl, HP2.out.2.2⟩
  by_cases h_many : amany = bmany
  rotate_left
  · skip
    have HR : Hid (r = false) := Lib.hid (hr.trans (decide_eq_false (fun e => h_many (congrArg Pk.many e))))
    have f_kind : (akind == bkind) = true := beq_iff_eq.2 h_kind
    have g_kind : (akind != bkind) = false := bne_eq_false_iff_eq.2 h_kind
    have f_sess : (asess == bsess) = true := beq_iff_eq.2 h_sess
    have g_sess : (asess != bsess) = false := bne_eq_false_iff_eq.2 h_sess
    have f_layer : (alayer == blayer) = true := beq_iff_eq.2 h_layer
    have g_layer : (alayer != blayer) = false := bne_eq_false_iff_eq.2 h_layer
    have f_tick : (atick == btick) = true := beq_iff_eq.2 h_tick
    have g_tick : (atick != btick) = false := bne_eq_false_iff_eq.2 h_tick
    have f_burst : (aburst == bburst) = true := beq_iff_eq.2 h_burst
    have g_burst : (aburst != bburst) = false := bne_eq_false_iff_eq.2 h_burst
    have f_sync : (async == bsync) = true := beq_iff_eq.2 h_sync
    have g_sync : (async != bsync) = false := bne_eq_false_iff_eq.2 h_sync
    have f_many : (amany == bmany) = false := beq_eq_false_iff_ne.2 h_many
    have g_many : (amany != bmany) = true := bne_iff_ne.2 h_many
    clear hr h_kind h_sess h_layer h_tick h_burst h_sync h_many
    go_enter Tryd.func16, Tryd.ntmps16
    go_wp2_with (first
      | ((with_reducible refine gate_dst (N := 2) rfl ?_); refine wp_box rfl (.tmp 0) rfl rfl rfl ?_; intro w1 hP hB hs; have HP := Lib.hid (And.intro hP (And.intro hB hs)); clear hP hB hs)
      | ((with_reducible refine gate_dst (N := 3) rfl ?_); refine wp_box rfl (.tmp 1) rfl rfl rfl ?_; intro w2 hP hB hs; have HP2 := Lib.hid (And.intro (HP.out.1.below hB) (And.intro hP (HP.out.2.1.trans (hB.mono HP.out.2.1.size)))); clear hP hB hs; obtain ⟨s0, s1, s2, s3, s4, s5, s6, s7, s8, s9, s10, s11, s12, s13, s14, s15, s16, s17, s18, s19⟩ := Wire.cell20 (w := w2) (g := w.heap.size) HP2.out.1; obtain ⟨t0, t1, t2, t3, t4, t5, t6, t7, t8, t9, t10, t11, t12, t13, t14, t15, t16, t17, t18, t19⟩ := Wire.cell20 (w := w2) (g := w1.heap.size) HP2.out.2.1; have hca := (HA.out.keep (fun k hk => HP2.out.2.2.block k (HD.out k hk))).str; have hcb := (HB.out.keep (fun k hk => HP2.out.2.2.block k (HD'.out k hk))).str; rw [← HSA.out] at hca; rw [← HSB.out] at hcb; clear HP))
    go_ret
    exact ⟨by rw [HR.out]; rfl, HP2.out.2.2⟩
  by_cases h_place : aplace = bplace
  rotate_left
  · skip
    have HR : Hid (r = false) := Lib.hid (hr.trans (decide_eq_false (fun e => h_place (congrArg Pk.place e))))
    have f_kind : (akind == bkind) = true := beq_iff_eq.2 h_kind
    have g_kind : (akind != bkind) = false := bne_eq_false_iff_eq.2 h_kind
    have f_sess : (asess == bsess) = true := beq_iff_eq.2 h_sess
    have g_sess : (asess != bsess) = false := bne_eq_false_iff_eq.2 h_sess
    have f_layer : (alayer == blayer) = true := beq_iff_eq.2 h_layer
    have g_layer : (alayer != blayer) = false := bne_eq_false_iff_eq.2 h_layer
    have f_tick : (atick == btick) = true := beq_iff_eq.2 h_tick
    have g_tick : (atick != btick) = false := bne_eq_false_iff_eq.2 h_tick
    have f_burst : (aburst == bburst) = true := beq_iff_eq.2 h_burst
    have g_burst : (aburst != bburst) = false := bne_eq_false_iff_eq.2 h_burst
    have f_sync : (async == bsync) = true := beq_iff_eq.2 h_sync
    have g_sync : (async != bsync) = false := bne_eq_false_iff_eq.2 h_sync
    have f_many : (amany == bmany) = true := beq_iff_eq.2 h_many
    have g_many : (amany != bmany) = false := bne_eq_false_iff_eq.2 h_many
    have f_place : (aplace == bplace) = false := beq_eq_false_iff_ne.2 h_place
    have g_place : (aplace != bplace) = true := bne_iff_ne.2 h_place
    clear hr h_kind h_sess h_layer h_tick h_burst h_sync h_many h_place
    go_enter Tryd.func16, Tryd.ntmps16
    go_wp2_with (first
      | ((with_reducible refine gate_dst (N := 2) rfl ?_); refine wp_box rfl (.tmp 0) rfl rfl rfl ?_; intro w1 hP hB hs; have HP := Lib.hid (And.intro hP (And.intro hB hs)); clear hP hB hs)
      | ((with_reducible refine gate_dst (N := 3) rfl ?_); refine wp_box rfl (.tmp 1) rfl rfl rfl ?_; intro w2 hP hB hs; have HP2 := Lib.hid (And.intro (HP.out.1.below hB) (And.intro hP (HP.out.2.1.trans (hB.mono HP.out.2.1.size)))); clear hP hB hs; obtain ⟨s0, s1, s2, s3, s4, s5, s6, s7, s8, s9, s10, s11, s12, s13, s14, s15, s16, s17, s18, s19⟩ := Wire.cell20 (w := w2) (g := w.heap.size) HP2.out.1; obtain ⟨t0, t1, t2, t3, t4, t5, t6, t7, t8, t9, t10, t11, t12, t13, t14, t15, t16, t17, t18, t19⟩ := Wire.cell20 (w := w2) (g := w1.heap.size) HP2.out.2.1; have hca := (HA.out.keep (fun k hk => HP2.out.2.2.block k (HD.out k hk))).str; have hcb := (HB.out.keep (fun k hk => HP2.out.2.2.block k (HD'.out k hk))).str; rw [← HSA.out] at hca; rw [← HSB.out] at hcb; clear HP))
    go_ret
    exact ⟨by rw [HR.out]; rfl, HP2.out.2.2⟩
  by_cases h_block : ablock = bblock
  rotate_left
  · skip
    have HR : Hid (r = false) := Lib.hid (hr.trans (decide_eq_false (fun e => h_block (congrArg Pk.block e))))
    have f_kind : (akind == bkind) = true := beq_iff_eq.2 h_kind
    have g_kind : (akind != bkind) = false := bne_eq_false_iff_eq.2 h_kind
    have f_sess : (asess == bsess) = true := beq_iff_eq.2 h_sess
    have g_sess : (asess != bsess) = false := bne_eq_false_iff_eq.2 h_sess
    have f_layer : (alayer == blayer) = true := beq_iff_eq.2 h_layer
    have g_layer : (alayer != blayer) = false := bne_eq_false_iff_eq.2 h_layer
    have f_tick : (atick == btick) = true := beq_iff_eq.2 h_tick
    have g_tick : (atick != btick) = false := bne_eq_false_iff_eq.2 h_tick
    have f_burst : (aburst == bburst) = true := beq_iff_eq.2 h_burst
    have g_burst : (aburst != bburst) = false := bne_eq_false_iff_eq.2 h_burst
    have f_sync : (async == bsync) = true := beq_iff_eq.2 h_sync
    have g_sync : (async != bsync) = false := bne_eq_false_iff_eq.2 h_sync
    have f_many : (amany == bmany) = true := beq_iff_eq.2 h_many
    have g_many : (amany != bmany) = false := bne_eq_false_iff_eq.2 h_many
    have f_place : (aplace == bplace) = true := beq_iff_eq.2 h_place
    have g_place : (aplace != bplace) = false := bne_eq_false_iff_eq.2 h_place
    have f_block : (ablock == bblock) = false := beq_eq_false_iff_ne.2 h_block
    have g_block : (ablock != bblock) = true := bne_iff_ne.2 h_block
    clear hr h_kind h_sess h_layer h_tick h_burst h_sync h_many h_place h_block
    go_enter Tryd.func16, Tryd.ntmps16
    go_wp2_with (first
      | ((with_reducible refine gate_dst (N := 2) rfl ?_); refine wp_box rfl (.tmp 0) rfl rfl rfl ?_; intro w1 hP hB hs; have HP := Lib.hid (And.intro hP (And.intro hB hs)); clear hP hB hs)
      | ((with_reducible refine gate_dst (N := 3) rfl ?_); refine wp_box rfl (.tmp 1) rfl rfl rfl ?_; intro w2 hP hB hs; have HP2 := Lib.hid (And.intro (HP.out.1.below hB) (And.intro hP (HP.out.2.1.trans (hB.mono HP.out.2.1.size)))); clear hP hB hs; obtain ⟨s0, s1, s2, s3, s4, s5, s6, s7, s8, s9, s10, s11, s12, s13, s14, s15, s16, s17, s18, s19⟩ := Wire.cell20 (w := w2) (g := w.heap.size) HP2.out.1; obtain ⟨t0, t1, t2, t3, t4, t5, t6, t7, t8, t9, t10, t11, t12, t13, t14, t15, t16, t17, t18, t19⟩ := Wire.cell20 (w := w2) (g := w1.heap.size) HP2.out.2.1; have hca := (HA.out.keep (fun k hk => HP2.out.2.2.block k (HD.out k hk))).str; have hcb := (HB.out.keep (fun k hk => HP2.out.2.2.block k (HD'.out k hk))).str; rw [← HSA.out] at hca; rw [← HSB.out] at hcb; clear HP))
    go_ret
    exact ⟨by rw [HR.out]; rfl, HP2.out.2.2⟩
  by_cases h_esi : aesi = besi
  rotate_left
  · skip
    have HR : Hid (r = false) := Lib.hid (hr.trans (decide_eq_false (fun e => h_esi (congrArg Pk.esi e))))
    have f_kind : (akind == bkind) = true := beq_iff_eq.2 h_kind
    have g_kind : (akind != bkind) = false := bne_eq_false_iff_eq.2 h_kind
    have f_sess : (asess == bsess) = true := beq_iff_eq.2 h_sess
    have g_sess : (asess != bsess) = false := bne_eq_false_iff_eq.2 h_sess
    have f_layer : (alayer == blayer) = true := beq_iff_eq.2 h_layer
    have g_layer : (alayer != blayer) = false := bne_eq_false_iff_eq.2 h_layer
    have f_tick : (atick == btick) = true := beq_iff_eq.2 h_tick
    have g_tick : (atick != btick) = false := bne_eq_false_iff_eq.2 h_tick
    have f_burst : (aburst == bburst) = true := beq_iff_eq.2 h_burst
    have g_burst : (aburst != bburst) = false := bne_eq_false_iff_eq.2 h_burst
    have f_sync : (async == bsync) = true := beq_iff_eq.2 h_sync
    have g_sync : (async != bsync) = false := bne_eq_false_iff_eq.2 h_sync
    have f_many : (amany == bmany) = true := beq_iff_eq.2 h_many
    have g_many : (amany != bmany) = false := bne_eq_false_iff_eq.2 h_many
    have f_place : (aplace == bplace) = true := beq_iff_eq.2 h_place
    have g_place : (aplace != bplace) = false := bne_eq_false_iff_eq.2 h_place
    have f_block : (ablock == bblock) = true := beq_iff_eq.2 h_block
    have g_block : (ablock != bblock) = false := bne_eq_false_iff_eq.2 h_block
    have f_esi : (aesi == besi) = false := beq_eq_false_iff_ne.2 h_esi
    have g_esi : (aesi != besi) = true := bne_iff_ne.2 h_esi
    clear hr h_kind h_sess h_layer h_tick h_burst h_sync h_many h_place h_block h_esi
    go_enter Tryd.func16, Tryd.ntmps16
    go_wp2_with (first
      | ((with_reducible refine gate_dst (N := 2) rfl ?_); refine wp_box rfl (.tmp 0) rfl rfl rfl ?_; intro w1 hP hB hs; have HP := Lib.hid (And.intro hP (And.intro hB hs)); clear hP hB hs)
      | ((with_reducible refine gate_dst (N := 3) rfl ?_); refine wp_box rfl (.tmp 1) rfl rfl rfl ?_; intro w2 hP hB hs; have HP2 := Lib.hid (And.intro (HP.out.1.below hB) (And.intro hP (HP.out.2.1.trans (hB.mono HP.out.2.1.size)))); clear hP hB hs; obtain ⟨s0, s1, s2, s3, s4, s5, s6, s7, s8, s9, s10, s11, s12, s13, s14, s15, s16, s17, s18, s19⟩ := Wire.cell20 (w := w2) (g := w.heap.size) HP2.out.1; obtain ⟨t0, t1, t2, t3, t4, t5, t6, t7, t8, t9, t10, t11, t12, t13, t14, t15, t16, t17, t18, t19⟩ := Wire.cell20 (w := w2) (g := w1.heap.size) HP2.out.2.1; have hca := (HA.out.keep (fun k hk => HP2.out.2.2.block k (HD.out k hk))).str; have hcb := (HB.out.keep (fun k hk => HP2.out.2.2.block k (HD'.out k hk))).str; rw [← HSA.out] at hca; rw [← HSB.out] at hcb; clear HP))
    go_ret
    exact ⟨by rw [HR.out]; rfl, HP2.out.2.2⟩
  by_cases h_data : adata = bdata
  rotate_left
  · skip
    have HR : Hid (r = false) := Lib.hid (hr.trans (decide_eq_false (fun e => h_data (congrArg Pk.data e))))
    have f_kind : (akind == bkind) = true := beq_iff_eq.2 h_kind
    have g_kind : (akind != bkind) = false := bne_eq_false_iff_eq.2 h_kind
    have f_sess : (asess == bsess) = true := beq_iff_eq.2 h_sess
    have g_sess : (asess != bsess) = false := bne_eq_false_iff_eq.2 h_sess
    have f_layer : (alayer == blayer) = true := beq_iff_eq.2 h_layer
    have g_layer : (alayer != blayer) = false := bne_eq_false_iff_eq.2 h_layer
    have f_tick : (atick == btick) = true := beq_iff_eq.2 h_tick
    have g_tick : (atick != btick) = false := bne_eq_false_iff_eq.2 h_tick
    have f_burst : (aburst == bburst) = true := beq_iff_eq.2 h_burst
    have g_burst : (aburst != bburst) = false := bne_eq_false_iff_eq.2 h_burst
    have f_sync : (async == bsync) = true := beq_iff_eq.2 h_sync
    have g_sync : (async != bsync) = false := bne_eq_false_iff_eq.2 h_sync
    have f_many : (amany == bmany) = true := beq_iff_eq.2 h_many
    have g_many : (amany != bmany) = false := bne_eq_false_iff_eq.2 h_many
    have f_place : (aplace == bplace) = true := beq_iff_eq.2 h_place
    have g_place : (aplace != bplace) = false := bne_eq_false_iff_eq.2 h_place
    have f_block : (ablock == bblock) = true := beq_iff_eq.2 h_block
    have g_block : (ablock != bblock) = false := bne_eq_false_iff_eq.2 h_block
    have f_esi : (aesi == besi) = true := beq_iff_eq.2 h_esi
    have g_esi : (aesi != besi) = false := bne_eq_false_iff_eq.2 h_esi
    have f_data : (sa.toList == sb.toList) = false := by rw [str_neR HA.out.lt HB.out.lt HSA.out HSB.out]; exact decide_eq_false h_data
    clear hr h_kind h_sess h_layer h_tick h_burst h_sync h_many h_place h_block h_esi h_data
    go_enter Tryd.func16, Tryd.ntmps16
    go_wp2_with (first
      | ((with_reducible refine gate_dst (N := 2) rfl ?_); refine wp_box rfl (.tmp 0) rfl rfl rfl ?_; intro w1 hP hB hs; have HP := Lib.hid (And.intro hP (And.intro hB hs)); clear hP hB hs)
      | ((with_reducible refine gate_dst (N := 3) rfl ?_); refine wp_box rfl (.tmp 1) rfl rfl rfl ?_; intro w2 hP hB hs; have HP2 := Lib.hid (And.intro (HP.out.1.below hB) (And.intro hP (HP.out.2.1.trans (hB.mono HP.out.2.1.size)))); clear hP hB hs; obtain ⟨s0, s1, s2, s3, s4, s5, s6, s7, s8, s9, s10, s11, s12, s13, s14, s15, s16, s17, s18, s19⟩ := Wire.cell20 (w := w2) (g := w.heap.size) HP2.out.1; obtain ⟨t0, t1, t2, t3, t4, t5, t6, t7, t8, t9, t10, t11, t12, t13, t14, t15, t16, t17, t18, t19⟩ := Wire.cell20 (w := w2) (g := w1.heap.size) HP2.out.2.1; have hca := (HA.out.keep (fun k hk => HP2.out.2.2.block k (HD.out k hk))).str; have hcb := (HB.out.keep (fun k hk => HP2.out.2.2.block k (HD'.out k hk))).str; rw [← HSA.out] at hca; rw [← HSB.out] at hcb; clear HP))
    go_ret
    exact ⟨by rw [HR.out]; rfl, HP2.out.2.2⟩
  by_cases h_size : asize = bsize
  rotate_left
  · skip
    have HR : Hid (r = false) := Lib.hid (hr.trans (decide_eq_false (fun e => h_size (congrArg Pk.size e))))
    have f_kind : (akind == bkind) = true := beq_iff_eq.2 h_kind
    have g_kind : (akind != bkind) = false := bne_eq_false_iff_eq.2 h_kind
    have f_sess : (asess == bsess) = true := beq_iff_eq.2 h_sess
    have g_sess : (asess != bsess) = false := bne_eq_false_iff_eq.2 h_sess
    have f_layer : (alayer == blayer) = true := beq_iff_eq.2 h_layer
    have g_layer : (alayer != blayer) = false := bne_eq_false_iff_eq.2 h_layer
    have f_tick : (atick == btick) = true := beq_iff_eq.2 h_tick
    have g_tick : (atick != btick) = false := bne_eq_false_iff_eq.2 h_tick
    have f_burst : (aburst == bburst) = true := beq_iff_eq.2 h_burst
    have g_burst : (aburst != bburst) = false := bne_eq_false_iff_eq.2 h_burst
    have f_sync : (async == bsync) = true := beq_iff_eq.2 h_sync
    have g_sync : (async != bsync) = false := bne_eq_false_iff_eq.2 h_sync
    have f_many : (amany == bmany) = true := beq_iff_eq.2 h_many
    have g_many : (amany != bmany) = false := bne_eq_false_iff_eq.2 h_many
    have f_place : (aplace == bplace) = true := beq_iff_eq.2 h_place
    have g_place : (aplace != bplace) = false := bne_eq_false_iff_eq.2 h_place
    have f_block : (ablock == bblock) = true := beq_iff_eq.2 h_block
    have g_block : (ablock != bblock) = false := bne_eq_false_iff_eq.2 h_block
    have f_esi : (aesi == besi) = true := beq_iff_eq.2 h_esi
    have g_esi : (aesi != besi) = false := bne_eq_false_iff_eq.2 h_esi
    have f_data : (sa.toList == sb.toList) = true := by rw [str_neR HA.out.lt HB.out.lt HSA.out HSB.out]; exact decide_eq_true h_data
    have f_size : (asize == bsize) = false := beq_eq_false_iff_ne.2 h_size
    have g_size : (asize != bsize) = true := bne_iff_ne.2 h_size
    clear hr h_kind h_sess h_layer h_tick h_burst h_sync h_many h_place h_block h_esi h_data h_size
    go_enter Tryd.func16, Tryd.ntmps16
    go_wp2_with (first
      | ((with_reducible refine gate_dst (N := 2) rfl ?_); refine wp_box rfl (.tmp 0) rfl rfl rfl ?_; intro w1 hP hB hs; have HP := Lib.hid (And.intro hP (And.intro hB hs)); clear hP hB hs)
      | ((with_reducible refine gate_dst (N := 3) rfl ?_); refine wp_box rfl (.tmp 1) rfl rfl rfl ?_; intro w2 hP hB hs; have HP2 := Lib.hid (And.intro (HP.out.1.below hB) (And.intro hP (HP.out.2.1.trans (hB.mono HP.out.2.1.size)))); clear hP hB hs; obtain ⟨s0, s1, s2, s3, s4, s5, s6, s7, s8, s9, s10, s11, s12, s13, s14, s15, s16, s17, s18, s19⟩ := Wire.cell20 (w := w2) (g := w.heap.size) HP2.out.1; obtain ⟨t0, t1, t2, t3, t4, t5, t6, t7, t8, t9, t10, t11, t12, t13, t14, t15, t16, t17, t18, t19⟩ := Wire.cell20 (w := w2) (g := w1.heap.size) HP2.out.2.1; have hca := (HA.out.keep (fun k hk => HP2.out.2.2.block k (HD.out k hk))).str; have hcb := (HB.out.keep (fun k hk => HP2.out.2.2.block k (HD'.out k hk))).str; rw [← HSA.out] at hca; rw [← HSB.out] at hcb; clear HP))
    go_ret
    exact ⟨by rw [HR.out]; rfl, HP2.out.2.2⟩
  by_cases h_sym : asym = bsym
  rotate_left
  · skip
    have HR : Hid (r = false) := Lib.hid (hr.trans (decide_eq_false (fun e => h_sym (congrArg Pk.sym e))))
    have f_kind : (akind == bkind) = true := beq_iff_eq.2 h_kind
    have g_kind : (akind != bkind) = false := bne_eq_false_iff_eq.2 h_kind
    have f_sess : (asess == bsess) = true := beq_iff_eq.2 h_sess
    have g_sess : (asess != bsess) = false := bne_eq_false_iff_eq.2 h_sess
    have f_layer : (alayer == blayer) = true := beq_iff_eq.2 h_layer
    have g_layer : (alayer != blayer) = false := bne_eq_false_iff_eq.2 h_layer
    have f_tick : (atick == btick) = true := beq_iff_eq.2 h_tick
    have g_tick : (atick != btick) = false := bne_eq_false_iff_eq.2 h_tick
    have f_burst : (aburst == bburst) = true := beq_iff_eq.2 h_burst
    have g_burst : (aburst != bburst) = false := bne_eq_false_iff_eq.2 h_burst
    have f_sync : (async == bsync) = true := beq_iff_eq.2 h_sync
    have g_sync : (async != bsync) = false := bne_eq_false_iff_eq.2 h_sync
    have f_many : (amany == bmany) = true := beq_iff_eq.2 h_many
    have g_many : (amany != bmany) = false := bne_eq_false_iff_eq.2 h_many
    have f_place : (aplace == bplace) = true := beq_iff_eq.2 h_place
    have g_place : (aplace != bplace) = false := bne_eq_false_iff_eq.2 h_place
    have f_block : (ablock == bblock) = true := beq_iff_eq.2 h_block
    have g_block : (ablock != bblock) = false := bne_eq_false_iff_eq.2 h_block
    have f_esi : (aesi == besi) = true := beq_iff_eq.2 h_esi
    have g_esi : (aesi != besi) = false := bne_eq_false_iff_eq.2 h_esi
    have f_data : (sa.toList == sb.toList) = true := by rw [str_neR HA.out.lt HB.out.lt HSA.out HSB.out]; exact decide_eq_true h_data
    have f_size : (asize == bsize) = true := beq_iff_eq.2 h_size
    have g_size : (asize != bsize) = false := bne_eq_false_iff_eq.2 h_size
    have f_sym : (asym == bsym) = false := beq_eq_false_iff_ne.2 h_sym
    have g_sym : (asym != bsym) = true := bne_iff_ne.2 h_sym
    clear hr h_kind h_sess h_layer h_tick h_burst h_sync h_many h_place h_block h_esi h_data h_size h_sym
    go_enter Tryd.func16, Tryd.ntmps16
    go_wp2_with (first
      | ((with_reducible refine gate_dst (N := 2) rfl ?_); refine wp_box rfl (.tmp 0) rfl rfl rfl ?_; intro w1 hP hB hs; have HP := Lib.hid (And.intro hP (And.intro hB hs)); clear hP hB hs)
      | ((with_reducible refine gate_dst (N := 3) rfl ?_); refine wp_box rfl (.tmp 1) rfl rfl rfl ?_; intro w2 hP hB hs; have HP2 := Lib.hid (And.intro (HP.out.1.below hB) (And.intro hP (HP.out.2.1.trans (hB.mono HP.out.2.1.size)))); clear hP hB hs; obtain ⟨s0, s1, s2, s3, s4, s5, s6, s7, s8, s9, s10, s11, s12, s13, s14, s15, s16, s17, s18, s19⟩ := Wire.cell20 (w := w2) (g := w.heap.size) HP2.out.1; obtain ⟨t0, t1, t2, t3, t4, t5, t6, t7, t8, t9, t10, t11, t12, t13, t14, t15, t16, t17, t18, t19⟩ := Wire.cell20 (w := w2) (g := w1.heap.size) HP2.out.2.1; have hca := (HA.out.keep (fun k hk => HP2.out.2.2.block k (HD.out k hk))).str; have hcb := (HB.out.keep (fun k hk => HP2.out.2.2.block k (HD'.out k hk))).str; rw [← HSA.out] at hca; rw [← HSB.out] at hcb; clear HP))
    go_ret
    exact ⟨by rw [HR.out]; rfl, HP2.out.2.2⟩
  by_cases h_blocks : ablocks = bblocks
  rotate_left
  · skip
    have HR : Hid (r = false) := Lib.hid (hr.trans (decide_eq_false (fun e => h_blocks (congrArg Pk.blocks e))))
    have f_kind : (akind == bkind) = true := beq_iff_eq.2 h_kind
    have g_kind : (akind != bkind) = false := bne_eq_false_iff_eq.2 h_kind
    have f_sess : (asess == bsess) = true := beq_iff_eq.2 h_sess
    have g_sess : (asess != bsess) = false := bne_eq_false_iff_eq.2 h_sess
    have f_layer : (alayer == blayer) = true := beq_iff_eq.2 h_layer
    have g_layer : (alayer != blayer) = false := bne_eq_false_iff_eq.2 h_layer
    have f_tick : (atick == btick) = true := beq_iff_eq.2 h_tick
    have g_tick : (atick != btick) = false := bne_eq_false_iff_eq.2 h_tick
    have f_burst : (aburst == bburst) = true := beq_iff_eq.2 h_burst
    have g_burst : (aburst != bburst) = false := bne_eq_false_iff_eq.2 h_burst
    have f_sync : (async == bsync) = true := beq_iff_eq.2 h_sync
    have g_sync : (async != bsync) = false := bne_eq_false_iff_eq.2 h_sync
    have f_many : (amany == bmany) = true := beq_iff_eq.2 h_many
    have g_many : (amany != bmany) = false := bne_eq_false_iff_eq.2 h_many
    have f_place : (aplace == bplace) = true := beq_iff_eq.2 h_place
    have g_place : (aplace != bplace) = false := bne_eq_false_iff_eq.2 h_place
    have f_block : (ablock == bblock) = true := beq_iff_eq.2 h_block
    have g_block : (ablock != bblock) = false := bne_eq_false_iff_eq.2 h_block
    have f_esi : (aesi == besi) = true := beq_iff_eq.2 h_esi
    have g_esi : (aesi != besi) = false := bne_eq_false_iff_eq.2 h_esi
    have f_data : (sa.toList == sb.toList) = true := by rw [str_neR HA.out.lt HB.out.lt HSA.out HSB.out]; exact decide_eq_true h_data
    have f_size : (asize == bsize) = true := beq_iff_eq.2 h_size
    have g_size : (asize != bsize) = false := bne_eq_false_iff_eq.2 h_size
    have f_sym : (asym == bsym) = true := beq_iff_eq.2 h_sym
    have g_sym : (asym != bsym) = false := bne_eq_false_iff_eq.2 h_sym
    have f_blocks : (ablocks == bblocks) = false := beq_eq_false_iff_ne.2 h_blocks
    have g_blocks : (ablocks != bblocks) = true := bne_iff_ne.2 h_blocks
    clear hr h_kind h_sess h_layer h_tick h_burst h_sync h_many h_place h_block h_esi h_data h_size h_sym h_blocks
    go_enter Tryd.func16, Tryd.ntmps16
    go_wp2_with (first
      | ((with_reducible refine gate_dst (N := 2) rfl ?_); refine wp_box rfl (.tmp 0) rfl rfl rfl ?_; intro w1 hP hB hs; have HP := Lib.hid (And.intro hP (And.intro hB hs)); clear hP hB hs)
      | ((with_reducible refine gate_dst (N := 3) rfl ?_); refine wp_box rfl (.tmp 1) rfl rfl rfl ?_; intro w2 hP hB hs; have HP2 := Lib.hid (And.intro (HP.out.1.below hB) (And.intro hP (HP.out.2.1.trans (hB.mono HP.out.2.1.size)))); clear hP hB hs; obtain ⟨s0, s1, s2, s3, s4, s5, s6, s7, s8, s9, s10, s11, s12, s13, s14, s15, s16, s17, s18, s19⟩ := Wire.cell20 (w := w2) (g := w.heap.size) HP2.out.1; obtain ⟨t0, t1, t2, t3, t4, t5, t6, t7, t8, t9, t10, t11, t12, t13, t14, t15, t16, t17, t18, t19⟩ := Wire.cell20 (w := w2) (g := w1.heap.size) HP2.out.2.1; have hca := (HA.out.keep (fun k hk => HP2.out.2.2.block k (HD.out k hk))).str; have hcb := (HB.out.keep (fun k hk => HP2.out.2.2.block k (HD'.out k hk))).str; rw [← HSA.out] at hca; rw [← HSB.out] at hcb; clear HP))
    go_ret
    exact ⟨by rw [HR.out]; rfl, HP2.out.2.2⟩
  by_cases h_long : along = blong
  rotate_left
  · skip
    have HR : Hid (r = false) := Lib.hid (hr.trans (decide_eq_false (fun e => h_long (congrArg Pk.long e))))
    have f_kind : (akind == bkind) = true := beq_iff_eq.2 h_kind
    have g_kind : (akind != bkind) = false := bne_eq_false_iff_eq.2 h_kind
    have f_sess : (asess == bsess) = true := beq_iff_eq.2 h_sess
    have g_sess : (asess != bsess) = false := bne_eq_false_iff_eq.2 h_sess
    have f_layer : (alayer == blayer) = true := beq_iff_eq.2 h_layer
    have g_layer : (alayer != blayer) = false := bne_eq_false_iff_eq.2 h_layer
    have f_tick : (atick == btick) = true := beq_iff_eq.2 h_tick
    have g_tick : (atick != btick) = false := bne_eq_false_iff_eq.2 h_tick
    have f_burst : (aburst == bburst) = true := beq_iff_eq.2 h_burst
    have g_burst : (aburst != bburst) = false := bne_eq_false_iff_eq.2 h_burst
    have f_sync : (async == bsync) = true := beq_iff_eq.2 h_sync
    have g_sync : (async != bsync) = false := bne_eq_false_iff_eq.2 h_sync
    have f_many : (amany == bmany) = true := beq_iff_eq.2 h_many
    have g_many : (amany != bmany) = false := bne_eq_false_iff_eq.2 h_many
    have f_place : (aplace == bplace) = true := beq_iff_eq.2 h_place
    have g_place : (aplace != bplace) = false := bne_eq_false_iff_eq.2 h_place
    have f_block : (ablock == bblock) = true := beq_iff_eq.2 h_block
    have g_block : (ablock != bblock) = false := bne_eq_false_iff_eq.2 h_block
    have f_esi : (aesi == besi) = true := beq_iff_eq.2 h_esi
    have g_esi : (aesi != besi) = false := bne_eq_false_iff_eq.2 h_esi
    have f_data : (sa.toList == sb.toList) = true := by rw [str_neR HA.out.lt HB.out.lt HSA.out HSB.out]; exact decide_eq_true h_data
    have f_size : (asize == bsize) = true := beq_iff_eq.2 h_size
    have g_size : (asize != bsize) = false := bne_eq_false_iff_eq.2 h_size
    have f_sym : (asym == bsym) = true := beq_iff_eq.2 h_sym
    have g_sym : (asym != bsym) = false := bne_eq_false_iff_eq.2 h_sym
    have f_blocks : (ablocks == bblocks) = true := beq_iff_eq.2 h_blocks
    have g_blocks : (ablocks != bblocks) = false := bne_eq_false_iff_eq.2 h_blocks
    have f_long : (along == blong) = false := beq_eq_false_iff_ne.2 h_long
    have g_long : (along != blong) = true := bne_iff_ne.2 h_long
    clear hr h_kind h_sess h_layer h_tick h_burst h_sync h_many h_place h_block h_esi h_data h_size h_sym h_blocks h_long
    go_enter Tryd.func16, Tryd.ntmps16
    go_wp2_with (first
      | ((with_reducible refine gate_dst (N := 2) rfl ?_); refine wp_box rfl (.tmp 0) rfl rfl rfl ?_; intro w1 hP hB hs; have HP := Lib.hid (And.intro hP (And.intro hB hs)); clear hP hB hs)
      | ((with_reducible refine gate_dst (N := 3) rfl ?_); refine wp_box rfl (.tmp 1) rfl rfl rfl ?_; intro w2 hP hB hs; have HP2 := Lib.hid (And.intro (HP.out.1.below hB) (And.intro hP (HP.out.2.1.trans (hB.mono HP.out.2.1.size)))); clear hP hB hs; obtain ⟨s0, s1, s2, s3, s4, s5, s6, s7, s8, s9, s10, s11, s12, s13, s14, s15, s16, s17, s18, s19⟩ := Wire.cell20 (w := w2) (g := w.heap.size) HP2.out.1; obtain ⟨t0, t1, t2, t3, t4, t5, t6, t7, t8, t9, t10, t11, t12, t13, t14, t15, t16, t17, t18, t19⟩ := Wire.cell20 (w := w2) (g := w1.heap.size) HP2.out.2.1; have hca := (HA.out.keep (fun k hk => HP2.out.2.2.block k (HD.out k hk))).str; have hcb := (HB.out.keep (fun k hk => HP2.out.2.2.block k (HD'.out k hk))).str; rw [← HSA.out] at hca; rw [← HSB.out] at hcb; clear HP))
    go_ret
    exact ⟨by rw [HR.out]; rfl, HP2.out.2.2⟩
  by_cases h_short : ashort = bshort
  rotate_left
  · skip
    have HR : Hid (r = false) := Lib.hid (hr.trans (decide_eq_false (fun e => h_short (congrArg Pk.short e))))
    have f_kind : (akind == bkind) = true := beq_iff_eq.2 h_kind
    have g_kind : (akind != bkind) = false := bne_eq_false_iff_eq.2 h_kind
    have f_sess : (asess == bsess) = true := beq_iff_eq.2 h_sess
    have g_sess : (asess != bsess) = false := bne_eq_false_iff_eq.2 h_sess
    have f_layer : (alayer == blayer) = true := beq_iff_eq.2 h_layer
    have g_layer : (alayer != blayer) = false := bne_eq_false_iff_eq.2 h_layer
    have f_tick : (atick == btick) = true := beq_iff_eq.2 h_tick
    have g_tick : (atick != btick) = false := bne_eq_false_iff_eq.2 h_tick
    have f_burst : (aburst == bburst) = true := beq_iff_eq.2 h_burst
    have g_burst : (aburst != bburst) = false := bne_eq_false_iff_eq.2 h_burst
    have f_sync : (async == bsync) = true := beq_iff_eq.2 h_sync
    have g_sync : (async != bsync) = false := bne_eq_false_iff_eq.2 h_sync
    have f_many : (amany == bmany) = true := beq_iff_eq.2 h_many
    have g_many : (amany != bmany) = false := bne_eq_false_iff_eq.2 h_many
    have f_place : (aplace == bplace) = true := beq_iff_eq.2 h_place
    have g_place : (aplace != bplace) = false := bne_eq_false_iff_eq.2 h_place
    have f_block : (ablock == bblock) = true := beq_iff_eq.2 h_block
    have g_block : (ablock != bblock) = false := bne_eq_false_iff_eq.2 h_block
    have f_esi : (aesi == besi) = true := beq_iff_eq.2 h_esi
    have g_esi : (aesi != besi) = false := bne_eq_false_iff_eq.2 h_esi
    have f_data : (sa.toList == sb.toList) = true := by rw [str_neR HA.out.lt HB.out.lt HSA.out HSB.out]; exact decide_eq_true h_data
    have f_size : (asize == bsize) = true := beq_iff_eq.2 h_size
    have g_size : (asize != bsize) = false := bne_eq_false_iff_eq.2 h_size
    have f_sym : (asym == bsym) = true := beq_iff_eq.2 h_sym
    have g_sym : (asym != bsym) = false := bne_eq_false_iff_eq.2 h_sym
    have f_blocks : (ablocks == bblocks) = true := beq_iff_eq.2 h_blocks
    have g_blocks : (ablocks != bblocks) = false := bne_eq_false_iff_eq.2 h_blocks
    have f_long : (along == blong) = true := beq_iff_eq.2 h_long
    have g_long : (along != blong) = false := bne_eq_false_iff_eq.2 h_long
    have f_short : (ashort == bshort) = false := beq_eq_false_iff_ne.2 h_short
    have g_short : (ashort != bshort) = true := bne_iff_ne.2 h_short
    clear hr h_kind h_sess h_layer h_tick h_burst h_sync h_many h_place h_block h_esi h_data h_size h_sym h_blocks h_long h_short
    go_enter Tryd.func16, Tryd.ntmps16
    go_wp2_with (first
      | ((with_reducible refine gate_dst (N := 2) rfl ?_); refine wp_box rfl (.tmp 0) rfl rfl rfl ?_; intro w1 hP hB hs; have HP := Lib.hid (And.intro hP (And.intro hB hs)); clear hP hB hs)
      | ((with_reducible refine gate_dst (N := 3) rfl ?_); refine wp_box rfl (.tmp 1) rfl rfl rfl ?_; intro w2 hP hB hs; have HP2 := Lib.hid (And.intro (HP.out.1.below hB) (And.intro hP (HP.out.2.1.trans (hB.mono HP.out.2.1.size)))); clear hP hB hs; obtain ⟨s0, s1, s2, s3, s4, s5, s6, s7, s8, s9, s10, s11, s12, s13, s14, s15, s16, s17, s18, s19⟩ := Wire.cell20 (w := w2) (g := w.heap.size) HP2.out.1; obtain ⟨t0, t1, t2, t3, t4, t5, t6, t7, t8, t9, t10, t11, t12, t13, t14, t15, t16, t17, t18, t19⟩ := Wire.cell20 (w := w2) (g := w1.heap.size) HP2.out.2.1; have hca := (HA.out.keep (fun k hk => HP2.out.2.2.block k (HD.out k hk))).str; have hcb := (HB.out.keep (fun k hk => HP2.out.2.2.block k (HD'.out k hk))).str; rw [← HSA.out] at hca; rw [← HSB.out] at hcb; clear HP))
    go_ret
    exact ⟨by rw [HR.out]; rfl, HP2.out.2.2⟩
  by_cases h_layers : alayers = blayers
  rotate_left
  · skip
    have HR : Hid (r = false) := Lib.hid (hr.trans (decide_eq_false (fun e => h_layers (congrArg Pk.layers e))))
    have f_kind : (akind == bkind) = true := beq_iff_eq.2 h_kind
    have g_kind : (akind != bkind) = false := bne_eq_false_iff_eq.2 h_kind
    have f_sess : (asess == bsess) = true := beq_iff_eq.2 h_sess
    have g_sess : (asess != bsess) = false := bne_eq_false_iff_eq.2 h_sess
    have f_layer : (alayer == blayer) = true := beq_iff_eq.2 h_layer
    have g_layer : (alayer != blayer) = false := bne_eq_false_iff_eq.2 h_layer
    have f_tick : (atick == btick) = true := beq_iff_eq.2 h_tick
    have g_tick : (atick != btick) = false := bne_eq_false_iff_eq.2 h_tick
    have f_burst : (aburst == bburst) = true := beq_iff_eq.2 h_burst
    have g_burst : (aburst != bburst) = false := bne_eq_false_iff_eq.2 h_burst
    have f_sync : (async == bsync) = true := beq_iff_eq.2 h_sync
    have g_sync : (async != bsync) = false := bne_eq_false_iff_eq.2 h_sync
    have f_many : (amany == bmany) = true := beq_iff_eq.2 h_many
    have g_many : (amany != bmany) = false := bne_eq_false_iff_eq.2 h_many
    have f_place : (aplace == bplace) = true := beq_iff_eq.2 h_place
    have g_place : (aplace != bplace) = false := bne_eq_false_iff_eq.2 h_place
    have f_block : (ablock == bblock) = true := beq_iff_eq.2 h_block
    have g_block : (ablock != bblock) = false := bne_eq_false_iff_eq.2 h_block
    have f_esi : (aesi == besi) = true := beq_iff_eq.2 h_esi
    have g_esi : (aesi != besi) = false := bne_eq_false_iff_eq.2 h_esi
    have f_data : (sa.toList == sb.toList) = true := by rw [str_neR HA.out.lt HB.out.lt HSA.out HSB.out]; exact decide_eq_true h_data
    have f_size : (asize == bsize) = true := beq_iff_eq.2 h_size
    have g_size : (asize != bsize) = false := bne_eq_false_iff_eq.2 h_size
    have f_sym : (asym == bsym) = true := beq_iff_eq.2 h_sym
    have g_sym : (asym != bsym) = false := bne_eq_false_iff_eq.2 h_sym
    have f_blocks : (ablocks == bblocks) = true := beq_iff_eq.2 h_blocks
    have g_blocks : (ablocks != bblocks) = false := bne_eq_false_iff_eq.2 h_blocks
    have f_long : (along == blong) = true := beq_iff_eq.2 h_long
    have g_long : (along != blong) = false := bne_eq_false_iff_eq.2 h_long
    have f_short : (ashort == bshort) = true := beq_iff_eq.2 h_short
    have g_short : (ashort != bshort) = false := bne_eq_false_iff_eq.2 h_short
    have f_layers : (alayers == blayers) = false := beq_eq_false_iff_ne.2 h_layers
    have g_layers : (alayers != blayers) = true := bne_iff_ne.2 h_layers
    clear hr h_kind h_sess h_layer h_tick h_burst h_sync h_many h_place h_block h_esi h_data h_size h_sym h_blocks h_long h_short h_layers
    go_enter Tryd.func16, Tryd.ntmps16
    go_wp2_with (first
      | ((with_reducible refine gate_dst (N := 2) rfl ?_); refine wp_box rfl (.tmp 0) rfl rfl rfl ?_; intro w1 hP hB hs; have HP := Lib.hid (And.intro hP (And.intro hB hs)); clear hP hB hs)
      | ((with_reducible refine gate_dst (N := 3) rfl ?_); refine wp_box rfl (.tmp 1) rfl rfl rfl ?_; intro w2 hP hB hs; have HP2 := Lib.hid (And.intro (HP.out.1.below hB) (And.intro hP (HP.out.2.1.trans (hB.mono HP.out.2.1.size)))); clear hP hB hs; obtain ⟨s0, s1, s2, s3, s4, s5, s6, s7, s8, s9, s10, s11, s12, s13, s14, s15, s16, s17, s18, s19⟩ := Wire.cell20 (w := w2) (g := w.heap.size) HP2.out.1; obtain ⟨t0, t1, t2, t3, t4, t5, t6, t7, t8, t9, t10, t11, t12, t13, t14, t15, t16, t17, t18, t19⟩ := Wire.cell20 (w := w2) (g := w1.heap.size) HP2.out.2.1; have hca := (HA.out.keep (fun k hk => HP2.out.2.2.block k (HD.out k hk))).str; have hcb := (HB.out.keep (fun k hk => HP2.out.2.2.block k (HD'.out k hk))).str; rw [← HSA.out] at hca; rw [← HSB.out] at hcb; clear HP))
    go_ret
    exact ⟨by rw [HR.out]; rfl, HP2.out.2.2⟩
  by_cases h_esis : aesis = besis
  rotate_left
  · skip
    have HR : Hid (r = false) := Lib.hid (hr.trans (decide_eq_false (fun e => h_esis (congrArg Pk.esis e))))
    have f_kind : (akind == bkind) = true := beq_iff_eq.2 h_kind
    have g_kind : (akind != bkind) = false := bne_eq_false_iff_eq.2 h_kind
    have f_sess : (asess == bsess) = true := beq_iff_eq.2 h_sess
    have g_sess : (asess != bsess) = false := bne_eq_false_iff_eq.2 h_sess
    have f_layer : (alayer == blayer) = true := beq_iff_eq.2 h_layer
    have g_layer : (alayer != blayer) = false := bne_eq_false_iff_eq.2 h_layer
    have f_tick : (atick == btick) = true := beq_iff_eq.2 h_tick
    have g_tick : (atick != btick) = false := bne_eq_false_iff_eq.2 h_tick
    have f_burst : (aburst == bburst) = true := beq_iff_eq.2 h_burst
    have g_burst : (aburst != bburst) = false := bne_eq_false_iff_eq.2 h_burst
    have f_sync : (async == bsync) = true := beq_iff_eq.2 h_sync
    have g_sync : (async != bsync) = false := bne_eq_false_iff_eq.2 h_sync
    have f_many : (amany == bmany) = true := beq_iff_eq.2 h_many
    have g_many : (amany != bmany) = false := bne_eq_false_iff_eq.2 h_many
    have f_place : (aplace == bplace) = true := beq_iff_eq.2 h_place
    have g_place : (aplace != bplace) = false := bne_eq_false_iff_eq.2 h_place
    have f_block : (ablock == bblock) = true := beq_iff_eq.2 h_block
    have g_block : (ablock != bblock) = false := bne_eq_false_iff_eq.2 h_block
    have f_esi : (aesi == besi) = true := beq_iff_eq.2 h_esi
    have g_esi : (aesi != besi) = false := bne_eq_false_iff_eq.2 h_esi
    have f_data : (sa.toList == sb.toList) = true := by rw [str_neR HA.out.lt HB.out.lt HSA.out HSB.out]; exact decide_eq_true h_data
    have f_size : (asize == bsize) = true := beq_iff_eq.2 h_size
    have g_size : (asize != bsize) = false := bne_eq_false_iff_eq.2 h_size
    have f_sym : (asym == bsym) = true := beq_iff_eq.2 h_sym
    have g_sym : (asym != bsym) = false := bne_eq_false_iff_eq.2 h_sym
    have f_blocks : (ablocks == bblocks) = true := beq_iff_eq.2 h_blocks
    have g_blocks : (ablocks != bblocks) = false := bne_eq_false_iff_eq.2 h_blocks
    have f_long : (along == blong) = true := beq_iff_eq.2 h_long
    have g_long : (along != blong) = false := bne_eq_false_iff_eq.2 h_long
    have f_short : (ashort == bshort) = true := beq_iff_eq.2 h_short
    have g_short : (ashort != bshort) = false := bne_eq_false_iff_eq.2 h_short
    have f_layers : (alayers == blayers) = true := beq_iff_eq.2 h_layers
    have g_layers : (alayers != blayers) = false := bne_eq_false_iff_eq.2 h_layers
    have f_esis : (aesis == besis) = false := beq_eq_false_iff_ne.2 h_esis
    have g_esis : (aesis != besis) = true := bne_iff_ne.2 h_esis
    clear hr h_kind h_sess h_layer h_tick h_burst h_sync h_many h_place h_block h_esi h_data h_size h_sym h_blocks h_long h_short h_layers h_esis
    go_enter Tryd.func16, Tryd.ntmps16
    go_wp2_with (first
      | ((with_reducible refine gate_dst (N := 2) rfl ?_); refine wp_box rfl (.tmp 0) rfl rfl rfl ?_; intro w1 hP hB hs; have HP := Lib.hid (And.intro hP (And.intro hB hs)); clear hP hB hs)
      | ((with_reducible refine gate_dst (N := 3) rfl ?_); refine wp_box rfl (.tmp 1) rfl rfl rfl ?_; intro w2 hP hB hs; have HP2 := Lib.hid (And.intro (HP.out.1.below hB) (And.intro hP (HP.out.2.1.trans (hB.mono HP.out.2.1.size)))); clear hP hB hs; obtain ⟨s0, s1, s2, s3, s4, s5, s6, s7, s8, s9, s10, s11, s12, s13, s14, s15, s16, s17, s18, s19⟩ := Wire.cell20 (w := w2) (g := w.heap.size) HP2.out.1; obtain ⟨t0, t1, t2, t3, t4, t5, t6, t7, t8, t9, t10, t11, t12, t13, t14, t15, t16, t17, t18, t19⟩ := Wire.cell20 (w := w2) (g := w1.heap.size) HP2.out.2.1; have hca := (HA.out.keep (fun k hk => HP2.out.2.2.block k (HD.out k hk))).str; have hcb := (HB.out.keep (fun k hk => HP2.out.2.2.block k (HD'.out k hk))).str; rw [← HSA.out] at hca; rw [← HSB.out] at hcb; clear HP))
    go_ret
    exact ⟨by rw [HR.out]; rfl, HP2.out.2.2⟩
  by_cases h_base : abase = bbase
  rotate_left
  · skip
    have HR : Hid (r = false) := Lib.hid (hr.trans (decide_eq_false (fun e => h_base (congrArg Pk.base e))))
    have f_kind : (akind == bkind) = true := beq_iff_eq.2 h_kind
    have g_kind : (akind != bkind) = false := bne_eq_false_iff_eq.2 h_kind
    have f_sess : (asess == bsess) = true := beq_iff_eq.2 h_sess
    have g_sess : (asess != bsess) = false := bne_eq_false_iff_eq.2 h_sess
    have f_layer : (alayer == blayer) = true := beq_iff_eq.2 h_layer
    have g_layer : (alayer != blayer) = false := bne_eq_false_iff_eq.2 h_layer
    have f_tick : (atick == btick) = true := beq_iff_eq.2 h_tick
    have g_tick : (atick != btick) = false := bne_eq_false_iff_eq.2 h_tick
    have f_burst : (aburst == bburst) = true := beq_iff_eq.2 h_burst
    have g_burst : (aburst != bburst) = false := bne_eq_false_iff_eq.2 h_burst
    have f_sync : (async == bsync) = true := beq_iff_eq.2 h_sync
    have g_sync : (async != bsync) = false := bne_eq_false_iff_eq.2 h_sync
    have f_many : (amany == bmany) = true := beq_iff_eq.2 h_many
    have g_many : (amany != bmany) = false := bne_eq_false_iff_eq.2 h_many
    have f_place : (aplace == bplace) = true := beq_iff_eq.2 h_place
    have g_place : (aplace != bplace) = false := bne_eq_false_iff_eq.2 h_place
    have f_block : (ablock == bblock) = true := beq_iff_eq.2 h_block
    have g_block : (ablock != bblock) = false := bne_eq_false_iff_eq.2 h_block
    have f_esi : (aesi == besi) = true := beq_iff_eq.2 h_esi
    have g_esi : (aesi != besi) = false := bne_eq_false_iff_eq.2 h_esi
    have f_data : (sa.toList == sb.toList) = true := by rw [str_neR HA.out.lt HB.out.lt HSA.out HSB.out]; exact decide_eq_true h_data
    have f_size : (asize == bsize) = true := beq_iff_eq.2 h_size
    have g_size : (asize != bsize) = false := bne_eq_false_iff_eq.2 h_size
    have f_sym : (asym == bsym) = true := beq_iff_eq.2 h_sym
    have g_sym : (asym != bsym) = false := bne_eq_false_iff_eq.2 h_sym
    have f_blocks : (ablocks == bblocks) = true := beq_iff_eq.2 h_blocks
    have g_blocks : (ablocks != bblocks) = false := bne_eq_false_iff_eq.2 h_blocks
    have f_long : (along == blong) = true := beq_iff_eq.2 h_long
    have g_long : (along != blong) = false := bne_eq_false_iff_eq.2 h_long
    have f_short : (ashort == bshort) = true := beq_iff_eq.2 h_short
    have g_short : (ashort != bshort) = false := bne_eq_false_iff_eq.2 h_short
    have f_layers : (alayers == blayers) = true := beq_iff_eq.2 h_layers
    have g_layers : (alayers != blayers) = false := bne_eq_false_iff_eq.2 h_layers
    have f_esis : (aesis == besis) = true := beq_iff_eq.2 h_esis
    have g_esis : (aesis != besis) = false := bne_eq_false_iff_eq.2 h_esis
    have f_base : (abase == bbase) = false := beq_eq_false_iff_ne.2 h_base
    have g_base : (abase != bbase) = true := bne_iff_ne.2 h_base
    clear hr h_kind h_sess h_layer h_tick h_burst h_sync h_many h_place h_block h_esi h_data h_size h_sym h_blocks h_long h_short h_layers h_esis h_base
    go_enter Tryd.func16, Tryd.ntmps16
    go_wp2_with (first
      | ((with_reducible refine gate_dst (N := 2) rfl ?_); refine wp_box rfl (.tmp 0) rfl rfl rfl ?_; intro w1 hP hB hs; have HP := Lib.hid (And.intro hP (And.intro hB hs)); clear hP hB hs)
      | ((with_reducible refine gate_dst (N := 3) rfl ?_); refine wp_box rfl (.tmp 1) rfl rfl rfl ?_; intro w2 hP hB hs; have HP2 := Lib.hid (And.intro (HP.out.1.below hB) (And.intro hP (HP.out.2.1.trans (hB.mono HP.out.2.1.size)))); clear hP hB hs; obtain ⟨s0, s1, s2, s3, s4, s5, s6, s7, s8, s9, s10, s11, s12, s13, s14, s15, s16, s17, s18, s19⟩ := Wire.cell20 (w := w2) (g := w.heap.size) HP2.out.1; obtain ⟨t0, t1, t2, t3, t4, t5, t6, t7, t8, t9, t10, t11, t12, t13, t14, t15, t16, t17, t18, t19⟩ := Wire.cell20 (w := w2) (g := w1.heap.size) HP2.out.2.1; have hca := (HA.out.keep (fun k hk => HP2.out.2.2.block k (HD.out k hk))).str; have hcb := (HB.out.keep (fun k hk => HP2.out.2.2.block k (HD'.out k hk))).str; rw [← HSA.out] at hca; rw [← HSB.out] at hcb; clear HP))
    go_ret
    exact ⟨by rw [HR.out]; rfl, HP2.out.2.2⟩
  by_cases h_len : alen = blen
  rotate_left
  · skip
    have HR : Hid (r = false) := Lib.hid (hr.trans (decide_eq_false (fun e => h_len (congrArg Pk.len e))))
    have f_kind : (akind == bkind) = true := beq_iff_eq.2 h_kind
    have g_kind : (akind != bkind) = false := bne_eq_false_iff_eq.2 h_kind
    have f_sess : (asess == bsess) = true := beq_iff_eq.2 h_sess
    have g_sess : (asess != bsess) = false := bne_eq_false_iff_eq.2 h_sess
    have f_layer : (alayer == blayer) = true := beq_iff_eq.2 h_layer
    have g_layer : (alayer != blayer) = false := bne_eq_false_iff_eq.2 h_layer
    have f_tick : (atick == btick) = true := beq_iff_eq.2 h_tick
    have g_tick : (atick != btick) = false := bne_eq_false_iff_eq.2 h_tick
    have f_burst : (aburst == bburst) = true := beq_iff_eq.2 h_burst
    have g_burst : (aburst != bburst) = false := bne_eq_false_iff_eq.2 h_burst
    have f_sync : (async == bsync) = true := beq_iff_eq.2 h_sync
    have g_sync : (async != bsync) = false := bne_eq_false_iff_eq.2 h_sync
    have f_many : (amany == bmany) = true := beq_iff_eq.2 h_many
    have g_many : (amany != bmany) = false := bne_eq_false_iff_eq.2 h_many
    have f_place : (aplace == bplace) = true := beq_iff_eq.2 h_place
    have g_place : (aplace != bplace) = false := bne_eq_false_iff_eq.2 h_place
    have f_block : (ablock == bblock) = true := beq_iff_eq.2 h_block
    have g_block : (ablock != bblock) = false := bne_eq_false_iff_eq.2 h_block
    have f_esi : (aesi == besi) = true := beq_iff_eq.2 h_esi
    have g_esi : (aesi != besi) = false := bne_eq_false_iff_eq.2 h_esi
    have f_data : (sa.toList == sb.toList) = true := by rw [str_neR HA.out.lt HB.out.lt HSA.out HSB.out]; exact decide_eq_true h_data
    have f_size : (asize == bsize) = true := beq_iff_eq.2 h_size
    have g_size : (asize != bsize) = false := bne_eq_false_iff_eq.2 h_size
    have f_sym : (asym == bsym) = true := beq_iff_eq.2 h_sym
    have g_sym : (asym != bsym) = false := bne_eq_false_iff_eq.2 h_sym
    have f_blocks : (ablocks == bblocks) = true := beq_iff_eq.2 h_blocks
    have g_blocks : (ablocks != bblocks) = false := bne_eq_false_iff_eq.2 h_blocks
    have f_long : (along == blong) = true := beq_iff_eq.2 h_long
    have g_long : (along != blong) = false := bne_eq_false_iff_eq.2 h_long
    have f_short : (ashort == bshort) = true := beq_iff_eq.2 h_short
    have g_short : (ashort != bshort) = false := bne_eq_false_iff_eq.2 h_short
    have f_layers : (alayers == blayers) = true := beq_iff_eq.2 h_layers
    have g_layers : (alayers != blayers) = false := bne_eq_false_iff_eq.2 h_layers
    have f_esis : (aesis == besis) = true := beq_iff_eq.2 h_esis
    have g_esis : (aesis != besis) = false := bne_eq_false_iff_eq.2 h_esis
    have f_base : (abase == bbase) = true := beq_iff_eq.2 h_base
    have g_base : (abase != bbase) = false := bne_eq_false_iff_eq.2 h_base
    have f_len : (alen == blen) = false := beq_eq_false_iff_ne.2 h_len
    have g_len : (alen != blen) = true := bne_iff_ne.2 h_len
    clear hr h_kind h_sess h_layer h_tick h_burst h_sync h_many h_place h_block h_esi h_data h_size h_sym h_blocks h_long h_short h_layers h_esis h_base h_len
    go_enter Tryd.func16, Tryd.ntmps16
    go_wp2_with (first
      | ((with_reducible refine gate_dst (N := 2) rfl ?_); refine wp_box rfl (.tmp 0) rfl rfl rfl ?_; intro w1 hP hB hs; have HP := Lib.hid (And.intro hP (And.intro hB hs)); clear hP hB hs)
      | ((with_reducible refine gate_dst (N := 3) rfl ?_); refine wp_box rfl (.tmp 1) rfl rfl rfl ?_; intro w2 hP hB hs; have HP2 := Lib.hid (And.intro (HP.out.1.below hB) (And.intro hP (HP.out.2.1.trans (hB.mono HP.out.2.1.size)))); clear hP hB hs; obtain ⟨s0, s1, s2, s3, s4, s5, s6, s7, s8, s9, s10, s11, s12, s13, s14, s15, s16, s17, s18, s19⟩ := Wire.cell20 (w := w2) (g := w.heap.size) HP2.out.1; obtain ⟨t0, t1, t2, t3, t4, t5, t6, t7, t8, t9, t10, t11, t12, t13, t14, t15, t16, t17, t18, t19⟩ := Wire.cell20 (w := w2) (g := w1.heap.size) HP2.out.2.1; have hca := (HA.out.keep (fun k hk => HP2.out.2.2.block k (HD.out k hk))).str; have hcb := (HB.out.keep (fun k hk => HP2.out.2.2.block k (HD'.out k hk))).str; rw [← HSA.out] at hca; rw [← HSB.out] at hcb; clear HP))
    go_ret
    exact ⟨by rw [HR.out]; rfl, HP2.out.2.2⟩
  have HR : Hid (r = true) := Lib.hid (hr.trans (decide_eq_true (by rw [h_kind, h_sess, h_layer, h_tick, h_burst, h_sync, h_many, h_place, h_block, h_esi, h_data, h_size, h_sym, h_blocks, h_long, h_short, h_layers, h_esis, h_base, h_len])))
  have f_kind : (akind == bkind) = true := beq_iff_eq.2 h_kind
  have g_kind : (akind != bkind) = false := bne_eq_false_iff_eq.2 h_kind
  have f_sess : (asess == bsess) = true := beq_iff_eq.2 h_sess
  have g_sess : (asess != bsess) = false := bne_eq_false_iff_eq.2 h_sess
  have f_layer : (alayer == blayer) = true := beq_iff_eq.2 h_layer
  have g_layer : (alayer != blayer) = false := bne_eq_false_iff_eq.2 h_layer
  have f_tick : (atick == btick) = true := beq_iff_eq.2 h_tick
  have g_tick : (atick != btick) = false := bne_eq_false_iff_eq.2 h_tick
  have f_burst : (aburst == bburst) = true := beq_iff_eq.2 h_burst
  have g_burst : (aburst != bburst) = false := bne_eq_false_iff_eq.2 h_burst
  have f_sync : (async == bsync) = true := beq_iff_eq.2 h_sync
  have g_sync : (async != bsync) = false := bne_eq_false_iff_eq.2 h_sync
  have f_many : (amany == bmany) = true := beq_iff_eq.2 h_many
  have g_many : (amany != bmany) = false := bne_eq_false_iff_eq.2 h_many
  have f_place : (aplace == bplace) = true := beq_iff_eq.2 h_place
  have g_place : (aplace != bplace) = false := bne_eq_false_iff_eq.2 h_place
  have f_block : (ablock == bblock) = true := beq_iff_eq.2 h_block
  have g_block : (ablock != bblock) = false := bne_eq_false_iff_eq.2 h_block
  have f_esi : (aesi == besi) = true := beq_iff_eq.2 h_esi
  have g_esi : (aesi != besi) = false := bne_eq_false_iff_eq.2 h_esi
  have f_data : (sa.toList == sb.toList) = true := by rw [str_neR HA.out.lt HB.out.lt HSA.out HSB.out]; exact decide_eq_true h_data
  have f_size : (asize == bsize) = true := beq_iff_eq.2 h_size
  have g_size : (asize != bsize) = false := bne_eq_false_iff_eq.2 h_size
  have f_sym : (asym == bsym) = true := beq_iff_eq.2 h_sym
  have g_sym : (asym != bsym) = false := bne_eq_false_iff_eq.2 h_sym
  have f_blocks : (ablocks == bblocks) = true := beq_iff_eq.2 h_blocks
  have g_blocks : (ablocks != bblocks) = false := bne_eq_false_iff_eq.2 h_blocks
  have f_long : (along == blong) = true := beq_iff_eq.2 h_long
  have g_long : (along != blong) = false := bne_eq_false_iff_eq.2 h_long
  have f_short : (ashort == bshort) = true := beq_iff_eq.2 h_short
  have g_short : (ashort != bshort) = false := bne_eq_false_iff_eq.2 h_short
  have f_layers : (alayers == blayers) = true := beq_iff_eq.2 h_layers
  have g_layers : (alayers != blayers) = false := bne_eq_false_iff_eq.2 h_layers
  have f_esis : (aesis == besis) = true := beq_iff_eq.2 h_esis
  have g_esis : (aesis != besis) = false := bne_eq_false_iff_eq.2 h_esis
  have f_base : (abase == bbase) = true := beq_iff_eq.2 h_base
  have g_base : (abase != bbase) = false := bne_eq_false_iff_eq.2 h_base
  have f_len : (alen == blen) = true := beq_iff_eq.2 h_len
  have g_len : (alen != blen) = false := bne_eq_false_iff_eq.2 h_len
  clear hr h_kind h_sess h_layer h_tick h_burst h_sync h_many h_place h_block h_esi h_data h_size h_sym h_blocks h_long h_short h_layers h_esis h_base h_len
  go_enter Tryd.func16, Tryd.ntmps16
  go_wp2_with (first
    | ((with_reducible refine gate_dst (N := 2) rfl ?_); refine wp_box rfl (.tmp 0) rfl rfl rfl ?_; intro w1 hP hB hs; have HP := Lib.hid (And.intro hP (And.intro hB hs)); clear hP hB hs)
    | ((with_reducible refine gate_dst (N := 3) rfl ?_); refine wp_box rfl (.tmp 1) rfl rfl rfl ?_; intro w2 hP hB hs; have HP2 := Lib.hid (And.intro (HP.out.1.below hB) (And.intro hP (HP.out.2.1.trans (hB.mono HP.out.2.1.size)))); clear hP hB hs; obtain ⟨s0, s1, s2, s3, s4, s5, s6, s7, s8, s9, s10, s11, s12, s13, s14, s15, s16, s17, s18, s19⟩ := Wire.cell20 (w := w2) (g := w.heap.size) HP2.out.1; obtain ⟨t0, t1, t2, t3, t4, t5, t6, t7, t8, t9, t10, t11, t12, t13, t14, t15, t16, t17, t18, t19⟩ := Wire.cell20 (w := w2) (g := w1.heap.size) HP2.out.2.1; have hca := (HA.out.keep (fun k hk => HP2.out.2.2.block k (HD.out k hk))).str; have hcb := (HB.out.keep (fun k hk => HP2.out.2.2.block k (HD'.out k hk))).str; rw [← HSA.out] at hca; rw [← HSB.out] at hcb; clear HP))
  go_ret
  exact ⟨by rw [HR.out]; rfl, HP2.out.2.2⟩
end Go.Proofs.YtfcofokbhhnfkaaDoor.Byt
