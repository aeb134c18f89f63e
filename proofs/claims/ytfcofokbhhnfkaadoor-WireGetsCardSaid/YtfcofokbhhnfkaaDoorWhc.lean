/- blocking.Check, wire.why, wire.Check by their contracts. Printed by mkwhy2.py. -/
import Derived.Test.YtfcofokbhhnfkaaDoorW14
namespace Go.Proofs.YtfcofokbhhnfkaaDoor.Byt
set_option linter.unusedSimpArgs false
set_option linter.unusedVariables false
open Go.RowKit Go.Deep Go.Proofs.YtfcofokbhhnfkaaDoor.Er Go.Proofs.YtfcofokbhhnfkaaDoorW.PrintWords Go.Proofs.YtfcofokbhhnfkaaDoorW.PrintLast
def ck14N : ByteArray := ⟨#[98, 108, 111, 99, 107, 105, 110, 103, 46, 67, 104, 101, 99, 107]⟩
def ckN : ByteArray := ⟨#[119, 105, 114, 101, 46, 67, 104, 101, 99, 107]⟩
theorem er_none {c : ByteArray} {n : Int} : er c n = none ↔ n = 0 := by
  unfold er
  constructor
  · intro h
    by_cases e : n = 0
    · exact e
    · rw [if_neg e] at h; cases h
  · intro h; rw [if_pos h]
set_option maxHeartbeats 4000000 in
theorem Check14_calls (size sym blocks long short : Int) (w : World) (hsz : size ≤ 4294967295) : Calls Tryd.prog 39 #[planV size sym blocks long short] w fun e w' => ∃ (ev : Value) (t : Option Er), e = .returned ev ∧ ErR w' ev t ∧ (t = none ↔ PlanOk size sym blocks long short) ∧ Below w.heap.size w w' := by
  have HSZ := Lib.hid hsz
  clear hsz
  go_enter Tryd.func39, Tryd.ntmps39
  go_wp2_with (first
    | ((with_reducible refine gate_dst (N := 1) rfl ?_); refine wp_boxPl rfl (.tmp 0) rfl rfl ?_; intro w1 hP hB; have HB := Lib.hid hB; obtain ⟨s0, s1, s2, s3, s4⟩ := Wire.cell5 hP; clear hP hB)
    | (go_at_call 54; refine (why14_calls size sym blocks long short _ HSZ.out).mono ?_; rintro e w2 ⟨n, rfl, hn, hB⟩; have HN := Lib.hid (And.intro hn (HB.out.trans (hB.mono HB.out.size))); clear hn hB)
    | (go_at_call 19; refine (fault_New.calls _ n (er ck14N n) _ rfl).mono ?_; rintro e w3 ⟨ev, rfl, h1, h2⟩; have HE := Lib.hid (And.intro h1 h2); clear h1 h2))
  go_ret
  exact ⟨_, _, rfl, HE.out.1, er_none.trans HN.out.1, HN.out.2.trans (HE.out.2.mono HN.out.2.size)⟩
set_option maxHeartbeats 16000000 in
set_option maxRecDepth 100000 in
theorem why_calls (p : Pk) (A : Option Addr) (L c : Nat) (w : World) (hL : L = p.data.length) : Calls Tryd.prog 20 #[pkV p (.slice A L c)] w fun e w' => e = .returned (.int .i64 (whyP p)) ∧ Below w.heap.size w w' := by
  obtain ⟨kind, sess, layer, tick, burst, sync, many, place, block, esi, data, size, sym, blocks, long, short, layers, esis, base, len⟩ := p
  replace hL : L = data.length := hL
  by_cases r : RangeOk ⟨kind, sess, layer, tick, burst, sync, many, place, block, esi, data, size, sym, blocks, long, short, layers, esis, base, len⟩
  rotate_left
  · skip
    have HQ : Hid (decide (RangeOk ⟨kind, sess, layer, tick, burst, sync, many, place, block, esi, data, size, sym, blocks, long, short, layers, esis, base, len⟩) = false) := Lib.hid (decide_eq_false r)
    have HR : Hid (whyP ⟨kind, sess, layer, tick, burst, sync, many, place, block, esi, data, size, sym, blocks, long, short, layers, esis, base, len⟩ = 1) := Lib.hid (by unfold whyP; rw [if_neg r])
    clear r hL 
    go_enter Tryd.func20, Tryd.ntmps20
    go_wp2_with (first
      | ((with_reducible refine gate_dst (N := 1) rfl ?_); refine wp_box rfl (.tmp 0) rfl rfl rfl ?_; intro w1 hP hB hs; have HP := Lib.hid hP; have HB := Lib.hid hB; obtain ⟨s0, s1, s2, s3, s4, s5, s6, s7, s8, s9, s10, s11, s12, s13, s14, s15, s16, s17, s18, s19⟩ := Wire.cell20 (w := w1) (g := w.heap.size) hP; clear hP hB hs)
      | ((with_reducible refine gate_dst (N := 3) rfl ?_); refine wp_ldpk rfl (.tmp 1) rfl rfl HP.out ?_)
      | (go_at_call 38; refine (ranges_calls _ A L c _).mono ?_; rintro e w2 ⟨rfl, hB⟩; rw [HQ.out]; have HB2 := Lib.hid (HB.out.trans (hB.mono HB.out.size)); have HP2 := Lib.hid (HP.out.below hB); clear hB s0 s1 s2 s3 s4 s5 s6 s7 s8 s9 s10 s11 s12 s13 s14 s15 s16 s17 s18 s19; obtain ⟨s0, s1, s2, s3, s4, s5, s6, s7, s8, s9, s10, s11, s12, s13, s14, s15, s16, s17, s18, s19⟩ := Wire.cell20 (w := w2) (g := w.heap.size) HP2.out))
    go_wp2
    go_ret
    exact ⟨by rw [HR.out]; rfl, HB2.out⟩
  have HQ : Hid (decide (RangeOk ⟨kind, sess, layer, tick, burst, sync, many, place, block, esi, data, size, sym, blocks, long, short, layers, esis, base, len⟩) = true) := Lib.hid (decide_eq_true r)
  by_cases h_k1 : kind = 1
  · skip
    by_cases h_d1 : (L : Int) < 1
    · skip
      have HR : Hid (whyP ⟨kind, sess, layer, tick, burst, sync, many, place, block, esi, data, size, sym, blocks, long, short, layers, esis, base, len⟩ = 2) := Lib.hid (by unfold whyP; rw [if_pos r, if_pos h_k1, if_neg (fun h => by simp only [DataF] at h; omega)])
      have f_k1 : (kind == 1) = true := beq_iff_eq.2 h_k1
      have f_d1 : decide ((L : Int) < 1) = true := decide_eq_true h_d1
      clear r hL h_k1 h_d1
      go_enter Tryd.func20, Tryd.ntmps20
      go_wp2_with (first
        | ((with_reducible refine gate_dst (N := 1) rfl ?_); refine wp_box rfl (.tmp 0) rfl rfl rfl ?_; intro w1 hP hB hs; have HP := Lib.hid hP; have HB := Lib.hid hB; obtain ⟨s0, s1, s2, s3, s4, s5, s6, s7, s8, s9, s10, s11, s12, s13, s14, s15, s16, s17, s18, s19⟩ := Wire.cell20 (w := w1) (g := w.heap.size) hP; clear hP hB hs)
        | ((with_reducible refine gate_dst (N := 3) rfl ?_); refine wp_ldpk rfl (.tmp 1) rfl rfl HP.out ?_)
        | (go_at_call 38; refine (ranges_calls _ A L c _).mono ?_; rintro e w2 ⟨rfl, hB⟩; rw [HQ.out]; have HB2 := Lib.hid (HB.out.trans (hB.mono HB.out.size)); have HP2 := Lib.hid (HP.out.below hB); clear hB s0 s1 s2 s3 s4 s5 s6 s7 s8 s9 s10 s11 s12 s13 s14 s15 s16 s17 s18 s19; obtain ⟨s0, s1, s2, s3, s4, s5, s6, s7, s8, s9, s10, s11, s12, s13, s14, s15, s16, s17, s18, s19⟩ := Wire.cell20 (w := w2) (g := w.heap.size) HP2.out))
      go_wp2
      go_ret
      exact ⟨by rw [HR.out]; rfl, HB2.out⟩
    by_cases h_d2 : 64 < (L : Int)
    · skip
      have HR : Hid (whyP ⟨kind, sess, layer, tick, burst, sync, many, place, block, esi, data, size, sym, blocks, long, short, layers, esis, base, len⟩ = 2) := Lib.hid (by unfold whyP; rw [if_pos r, if_pos h_k1, if_neg (fun h => by simp only [DataF] at h; omega)])
      have f_k1 : (kind == 1) = true := beq_iff_eq.2 h_k1
      have f_d1 : decide ((L : Int) < 1) = false := decide_eq_false h_d1
      have f_d2 : decide (64 < (L : Int)) = true := decide_eq_true h_d2
      clear r hL h_k1 h_d1 h_d2
      go_enter Tryd.func20, Tryd.ntmps20
      go_wp2_with (first
        | ((with_reducible refine gate_dst (N := 1) rfl ?_); refine wp_box rfl (.tmp 0) rfl rfl rfl ?_; intro w1 hP hB hs; have HP := Lib.hid hP; have HB := Lib.hid hB; obtain ⟨s0, s1, s2, s3, s4, s5, s6, s7, s8, s9, s10, s11, s12, s13, s14, s15, s16, s17, s18, s19⟩ := Wire.cell20 (w := w1) (g := w.heap.size) hP; clear hP hB hs)
        | ((with_reducible refine gate_dst (N := 3) rfl ?_); refine wp_ldpk rfl (.tmp 1) rfl rfl HP.out ?_)
        | (go_at_call 38; refine (ranges_calls _ A L c _).mono ?_; rintro e w2 ⟨rfl, hB⟩; rw [HQ.out]; have HB2 := Lib.hid (HB.out.trans (hB.mono HB.out.size)); have HP2 := Lib.hid (HP.out.below hB); clear hB s0 s1 s2 s3 s4 s5 s6 s7 s8 s9 s10 s11 s12 s13 s14 s15 s16 s17 s18 s19; obtain ⟨s0, s1, s2, s3, s4, s5, s6, s7, s8, s9, s10, s11, s12, s13, s14, s15, s16, s17, s18, s19⟩ := Wire.cell20 (w := w2) (g := w.heap.size) HP2.out))
      go_wp2
      go_ret
      exact ⟨by rw [HR.out]; rfl, HB2.out⟩
    by_cases h_z0 : size = 0
    rotate_left
    · skip
      have HR : Hid (whyP ⟨kind, sess, layer, tick, burst, sync, many, place, block, esi, data, size, sym, blocks, long, short, layers, esis, base, len⟩ = 2) := Lib.hid (by unfold whyP; rw [if_pos r, if_pos h_k1, if_neg (fun h => by simp only [DataF] at h; omega)])
      have f_k1 : (kind == 1) = true := beq_iff_eq.2 h_k1
      have f_d1 : decide ((L : Int) < 1) = false := decide_eq_false h_d1
      have f_d2 : decide (64 < (L : Int)) = false := decide_eq_false h_d2
      have f_z0 : (size == 0) = false := beq_eq_false_iff_ne.2 h_z0
      clear r hL h_k1 h_d1 h_d2 h_z0
      go_enter Tryd.func20, Tryd.ntmps20
      go_wp2_with (first
        | ((with_reducible refine gate_dst (N := 1) rfl ?_); refine wp_box rfl (.tmp 0) rfl rfl rfl ?_; intro w1 hP hB hs; have HP := Lib.hid hP; have HB := Lib.hid hB; obtain ⟨s0, s1, s2, s3, s4, s5, s6, s7, s8, s9, s10, s11, s12, s13, s14, s15, s16, s17, s18, s19⟩ := Wire.cell20 (w := w1) (g := w.heap.size) hP; clear hP hB hs)
        | ((with_reducible refine gate_dst (N := 3) rfl ?_); refine wp_ldpk rfl (.tmp 1) rfl rfl HP.out ?_)
        | (go_at_call 38; refine (ranges_calls _ A L c _).mono ?_; rintro e w2 ⟨rfl, hB⟩; rw [HQ.out]; have HB2 := Lib.hid (HB.out.trans (hB.mono HB.out.size)); have HP2 := Lib.hid (HP.out.below hB); clear hB s0 s1 s2 s3 s4 s5 s6 s7 s8 s9 s10 s11 s12 s13 s14 s15 s16 s17 s18 s19; obtain ⟨s0, s1, s2, s3, s4, s5, s6, s7, s8, s9, s10, s11, s12, s13, s14, s15, s16, s17, s18, s19⟩ := Wire.cell20 (w := w2) (g := w.heap.size) HP2.out))
      go_wp2
      go_ret
      exact ⟨by rw [HR.out]; rfl, HB2.out⟩
    by_cases h_z1 : sym = 0
    rotate_left
    · skip
      have HR : Hid (whyP ⟨kind, sess, layer, tick, burst, sync, many, place, block, esi, data, size, sym, blocks, long, short, layers, esis, base, len⟩ = 2) := Lib.hid (by unfold whyP; rw [if_pos r, if_pos h_k1, if_neg (fun h => by simp only [DataF] at h; omega)])
      have f_k1 : (kind == 1) = true := beq_iff_eq.2 h_k1
      have f_d1 : decide ((L : Int) < 1) = false := decide_eq_false h_d1
      have f_d2 : decide (64 < (L : Int)) = false := decide_eq_false h_d2
      have f_z0 : (size == 0) = true := beq_iff_eq.2 h_z0
      have f_z1 : (sym == 0) = false := beq_eq_false_iff_ne.2 h_z1
      clear r hL h_k1 h_d1 h_d2 h_z0 h_z1
      go_enter Tryd.func20, Tryd.ntmps20
      go_wp2_with (first
        | ((with_reducible refine gate_dst (N := 1) rfl ?_); refine wp_box rfl (.tmp 0) rfl rfl rfl ?_; intro w1 hP hB hs; have HP := Lib.hid hP; have HB := Lib.hid hB; obtain ⟨s0, s1, s2, s3, s4, s5, s6, s7, s8, s9, s10, s11, s12, s13, s14, s15, s16, s17, s18, s19⟩ := Wire.cell20 (w := w1) (g := w.heap.size) hP; clear hP hB hs)
        | ((with_reducible refine gate_dst (N := 3) rfl ?_); refine wp_ldpk rfl (.tmp 1) rfl rfl HP.out ?_)
        | (go_at_call 38; refine (ranges_calls _ A L c _).mono ?_; rintro e w2 ⟨rfl, hB⟩; rw [HQ.out]; have HB2 := Lib.hid (HB.out.trans (hB.mono HB.out.size)); have HP2 := Lib.hid (HP.out.below hB); clear hB s0 s1 s2 s3 s4 s5 s6 s7 s8 s9 s10 s11 s12 s13 s14 s15 s16 s17 s18 s19; obtain ⟨s0, s1, s2, s3, s4, s5, s6, s7, s8, s9, s10, s11, s12, s13, s14, s15, s16, s17, s18, s19⟩ := Wire.cell20 (w := w2) (g := w.heap.size) HP2.out))
      go_wp2
      go_ret
      exact ⟨by rw [HR.out]; rfl, HB2.out⟩
    by_cases h_z2 : blocks = 0
    rotate_left
    · skip
      have HR : Hid (whyP ⟨kind, sess, layer, tick, burst, sync, many, place, block, esi, data, size, sym, blocks, long, short, layers, esis, base, len⟩ = 2) := Lib.hid (by unfold whyP; rw [if_pos r, if_pos h_k1, if_neg (fun h => by simp only [DataF] at h; omega)])
      have f_k1 : (kind == 1) = true := beq_iff_eq.2 h_k1
      have f_d1 : decide ((L : Int) < 1) = false := decide_eq_false h_d1
      have f_d2 : decide (64 < (L : Int)) = false := decide_eq_false h_d2
      have f_z0 : (size == 0) = true := beq_iff_eq.2 h_z0
      have f_z1 : (sym == 0) = true := beq_iff_eq.2 h_z1
      have f_z2 : (blocks == 0) = false := beq_eq_false_iff_ne.2 h_z2
      clear r hL h_k1 h_d1 h_d2 h_z0 h_z1 h_z2
      go_enter Tryd.func20, Tryd.ntmps20
      go_wp2_with (first
        | ((with_reducible refine gate_dst (N := 1) rfl ?_); refine wp_box rfl (.tmp 0) rfl rfl rfl ?_; intro w1 hP hB hs; have HP := Lib.hid hP; have HB := Lib.hid hB; obtain ⟨s0, s1, s2, s3, s4, s5, s6, s7, s8, s9, s10, s11, s12, s13, s14, s15, s16, s17, s18, s19⟩ := Wire.cell20 (w := w1) (g := w.heap.size) hP; clear hP hB hs)
        | ((with_reducible refine gate_dst (N := 3) rfl ?_); refine wp_ldpk rfl (.tmp 1) rfl rfl HP.out ?_)
        | (go_at_call 38; refine (ranges_calls _ A L c _).mono ?_; rintro e w2 ⟨rfl, hB⟩; rw [HQ.out]; have HB2 := Lib.hid (HB.out.trans (hB.mono HB.out.size)); have HP2 := Lib.hid (HP.out.below hB); clear hB s0 s1 s2 s3 s4 s5 s6 s7 s8 s9 s10 s11 s12 s13 s14 s15 s16 s17 s18 s19; obtain ⟨s0, s1, s2, s3, s4, s5, s6, s7, s8, s9, s10, s11, s12, s13, s14, s15, s16, s17, s18, s19⟩ := Wire.cell20 (w := w2) (g := w.heap.size) HP2.out))
      go_wp2
      go_ret
      exact ⟨by rw [HR.out]; rfl, HB2.out⟩
    by_cases h_z3 : long = 0
    rotate_left
    · skip
      have HR : Hid (whyP ⟨kind, sess, layer, tick, burst, sync, many, place, block, esi, data, size, sym, blocks, long, short, layers, esis, base, len⟩ = 2) := Lib.hid (by unfold whyP; rw [if_pos r, if_pos h_k1, if_neg (fun h => by simp only [DataF] at h; omega)])
      have f_k1 : (kind == 1) = true := beq_iff_eq.2 h_k1
      have f_d1 : decide ((L : Int) < 1) = false := decide_eq_false h_d1
      have f_d2 : decide (64 < (L : Int)) = false := decide_eq_false h_d2
      have f_z0 : (size == 0) = true := beq_iff_eq.2 h_z0
      have f_z1 : (sym == 0) = true := beq_iff_eq.2 h_z1
      have f_z2 : (blocks == 0) = true := beq_iff_eq.2 h_z2
      have f_z3 : (long == 0) = false := beq_eq_false_iff_ne.2 h_z3
      clear r hL h_k1 h_d1 h_d2 h_z0 h_z1 h_z2 h_z3
      go_enter Tryd.func20, Tryd.ntmps20
      go_wp2_with (first
        | ((with_reducible refine gate_dst (N := 1) rfl ?_); refine wp_box rfl (.tmp 0) rfl rfl rfl ?_; intro w1 hP hB hs; have HP := Lib.hid hP; have HB := Lib.hid hB; obtain ⟨s0, s1, s2, s3, s4, s5, s6, s7, s8, s9, s10, s11, s12, s13, s14, s15, s16, s17, s18, s19⟩ := Wire.cell20 (w := w1) (g := w.heap.size) hP; clear hP hB hs)
        | ((with_reducible refine gate_dst (N := 3) rfl ?_); refine wp_ldpk rfl (.tmp 1) rfl rfl HP.out ?_)
        | (go_at_call 38; refine (ranges_calls _ A L c _).mono ?_; rintro e w2 ⟨rfl, hB⟩; rw [HQ.out]; have HB2 := Lib.hid (HB.out.trans (hB.mono HB.out.size)); have HP2 := Lib.hid (HP.out.below hB); clear hB s0 s1 s2 s3 s4 s5 s6 s7 s8 s9 s10 s11 s12 s13 s14 s15 s16 s17 s18 s19; obtain ⟨s0, s1, s2, s3, s4, s5, s6, s7, s8, s9, s10, s11, s12, s13, s14, s15, s16, s17, s18, s19⟩ := Wire.cell20 (w := w2) (g := w.heap.size) HP2.out))
      go_wp2
      go_ret
      exact ⟨by rw [HR.out]; rfl, HB2.out⟩
    by_cases h_z4 : short = 0
    rotate_left
    · skip
      have HR : Hid (whyP ⟨kind, sess, layer, tick, burst, sync, many, place, block, esi, data, size, sym, blocks, long, short, layers, esis, base, len⟩ = 2) := Lib.hid (by unfold whyP; rw [if_pos r, if_pos h_k1, if_neg (fun h => by simp only [DataF] at h; omega)])
      have f_k1 : (kind == 1) = true := beq_iff_eq.2 h_k1
      have f_d1 : decide ((L : Int) < 1) = false := decide_eq_false h_d1
      have f_d2 : decide (64 < (L : Int)) = false := decide_eq_false h_d2
      have f_z0 : (size == 0) = true := beq_iff_eq.2 h_z0
      have f_z1 : (sym == 0) = true := beq_iff_eq.2 h_z1
      have f_z2 : (blocks == 0) = true := beq_iff_eq.2 h_z2
      have f_z3 : (long == 0) = true := beq_iff_eq.2 h_z3
      have f_z4 : (short == 0) = false := beq_eq_false_iff_ne.2 h_z4
      clear r hL h_k1 h_d1 h_d2 h_z0 h_z1 h_z2 h_z3 h_z4
      go_enter Tryd.func20, Tryd.ntmps20
      go_wp2_with (first
        | ((with_reducible refine gate_dst (N := 1) rfl ?_); refine wp_box rfl (.tmp 0) rfl rfl rfl ?_; intro w1 hP hB hs; have HP := Lib.hid hP; have HB := Lib.hid hB; obtain ⟨s0, s1, s2, s3, s4, s5, s6, s7, s8, s9, s10, s11, s12, s13, s14, s15, s16, s17, s18, s19⟩ := Wire.cell20 (w := w1) (g := w.heap.size) hP; clear hP hB hs)
        | ((with_reducible refine gate_dst (N := 3) rfl ?_); refine wp_ldpk rfl (.tmp 1) rfl rfl HP.out ?_)
        | (go_at_call 38; refine (ranges_calls _ A L c _).mono ?_; rintro e w2 ⟨rfl, hB⟩; rw [HQ.out]; have HB2 := Lib.hid (HB.out.trans (hB.mono HB.out.size)); have HP2 := Lib.hid (HP.out.below hB); clear hB s0 s1 s2 s3 s4 s5 s6 s7 s8 s9 s10 s11 s12 s13 s14 s15 s16 s17 s18 s19; obtain ⟨s0, s1, s2, s3, s4, s5, s6, s7, s8, s9, s10, s11, s12, s13, s14, s15, s16, s17, s18, s19⟩ := Wire.cell20 (w := w2) (g := w.heap.size) HP2.out))
      go_wp2
      go_ret
      exact ⟨by rw [HR.out]; rfl, HB2.out⟩
    by_cases h_z5 : layers = 0
    rotate_left
    · skip
      have HR : Hid (whyP ⟨kind, sess, layer, tick, burst, sync, many, place, block, esi, data, size, sym, blocks, long, short, layers, esis, base, len⟩ = 2) := Lib.hid (by unfold whyP; rw [if_pos r, if_pos h_k1, if_neg (fun h => by simp only [DataF] at h; omega)])
      have f_k1 : (kind == 1) = true := beq_iff_eq.2 h_k1
      have f_d1 : decide ((L : Int) < 1) = false := decide_eq_false h_d1
      have f_d2 : decide (64 < (L : Int)) = false := decide_eq_false h_d2
      have f_z0 : (size == 0) = true := beq_iff_eq.2 h_z0
      have f_z1 : (sym == 0) = true := beq_iff_eq.2 h_z1
      have f_z2 : (blocks == 0) = true := beq_iff_eq.2 h_z2
      have f_z3 : (long == 0) = true := beq_iff_eq.2 h_z3
      have f_z4 : (short == 0) = true := beq_iff_eq.2 h_z4
      have f_z5 : (layers != 0) = true := bne_iff_ne.2 h_z5
      clear r hL h_k1 h_d1 h_d2 h_z0 h_z1 h_z2 h_z3 h_z4 h_z5
      go_enter Tryd.func20, Tryd.ntmps20
      go_wp2_with (first
        | ((with_reducible refine gate_dst (N := 1) rfl ?_); refine wp_box rfl (.tmp 0) rfl rfl rfl ?_; intro w1 hP hB hs; have HP := Lib.hid hP; have HB := Lib.hid hB; obtain ⟨s0, s1, s2, s3, s4, s5, s6, s7, s8, s9, s10, s11, s12, s13, s14, s15, s16, s17, s18, s19⟩ := Wire.cell20 (w := w1) (g := w.heap.size) hP; clear hP hB hs)
        | ((with_reducible refine gate_dst (N := 3) rfl ?_); refine wp_ldpk rfl (.tmp 1) rfl rfl HP.out ?_)
        | (go_at_call 38; refine (ranges_calls _ A L c _).mono ?_; rintro e w2 ⟨rfl, hB⟩; rw [HQ.out]; have HB2 := Lib.hid (HB.out.trans (hB.mono HB.out.size)); have HP2 := Lib.hid (HP.out.below hB); clear hB s0 s1 s2 s3 s4 s5 s6 s7 s8 s9 s10 s11 s12 s13 s14 s15 s16 s17 s18 s19; obtain ⟨s0, s1, s2, s3, s4, s5, s6, s7, s8, s9, s10, s11, s12, s13, s14, s15, s16, s17, s18, s19⟩ := Wire.cell20 (w := w2) (g := w.heap.size) HP2.out))
      go_wp2
      go_ret
      exact ⟨by rw [HR.out]; rfl, HB2.out⟩
    by_cases h_z6 : esis = 0
    rotate_left
    · skip
      have HR : Hid (whyP ⟨kind, sess, layer, tick, burst, sync, many, place, block, esi, data, size, sym, blocks, long, short, layers, esis, base, len⟩ = 2) := Lib.hid (by unfold whyP; rw [if_pos r, if_pos h_k1, if_neg (fun h => by simp only [DataF] at h; omega)])
      have f_k1 : (kind == 1) = true := beq_iff_eq.2 h_k1
      have f_d1 : decide ((L : Int) < 1) = false := decide_eq_false h_d1
      have f_d2 : decide (64 < (L : Int)) = false := decide_eq_false h_d2
      have f_z0 : (size == 0) = true := beq_iff_eq.2 h_z0
      have f_z1 : (sym == 0) = true := beq_iff_eq.2 h_z1
      have f_z2 : (blocks == 0) = true := beq_iff_eq.2 h_z2
      have f_z3 : (long == 0) = true := beq_iff_eq.2 h_z3
      have f_z4 : (short == 0) = true := beq_iff_eq.2 h_z4
      have f_z5 : (layers != 0) = false := bne_eq_false_iff_eq.2 h_z5
      have f_z6 : (esis != 0) = true := bne_iff_ne.2 h_z6
      clear r hL h_k1 h_d1 h_d2 h_z0 h_z1 h_z2 h_z3 h_z4 h_z5 h_z6
      go_enter Tryd.func20, Tryd.ntmps20
      go_wp2_with (first
        | ((with_reducible refine gate_dst (N := 1) rfl ?_); refine wp_box rfl (.tmp 0) rfl rfl rfl ?_; intro w1 hP hB hs; have HP := Lib.hid hP; have HB := Lib.hid hB; obtain ⟨s0, s1, s2, s3, s4, s5, s6, s7, s8, s9, s10, s11, s12, s13, s14, s15, s16, s17, s18, s19⟩ := Wire.cell20 (w := w1) (g := w.heap.size) hP; clear hP hB hs)
        | ((with_reducible refine gate_dst (N := 3) rfl ?_); refine wp_ldpk rfl (.tmp 1) rfl rfl HP.out ?_)
        | (go_at_call 38; refine (ranges_calls _ A L c _).mono ?_; rintro e w2 ⟨rfl, hB⟩; rw [HQ.out]; have HB2 := Lib.hid (HB.out.trans (hB.mono HB.out.size)); have HP2 := Lib.hid (HP.out.below hB); clear hB s0 s1 s2 s3 s4 s5 s6 s7 s8 s9 s10 s11 s12 s13 s14 s15 s16 s17 s18 s19; obtain ⟨s0, s1, s2, s3, s4, s5, s6, s7, s8, s9, s10, s11, s12, s13, s14, s15, s16, s17, s18, s19⟩ := Wire.cell20 (w := w2) (g := w.heap.size) HP2.out))
      go_wp2
      go_ret
      exact ⟨by rw [HR.out]; rfl, HB2.out⟩
    by_cases h_z7 : base = 0
    rotate_left
    · skip
      have HR : Hid (whyP ⟨kind, sess, layer, tick, burst, sync, many, place, block, esi, data, size, sym, blocks, long, short, layers, esis, base, len⟩ = 2) := Lib.hid (by unfold whyP; rw [if_pos r, if_pos h_k1, if_neg (fun h => by simp only [DataF] at h; omega)])
      have f_k1 : (kind == 1) = true := beq_iff_eq.2 h_k1
      have f_d1 : decide ((L : Int) < 1) = false := decide_eq_false h_d1
      have f_d2 : decide (64 < (L : Int)) = false := decide_eq_false h_d2
      have f_z0 : (size == 0) = true := beq_iff_eq.2 h_z0
      have f_z1 : (sym == 0) = true := beq_iff_eq.2 h_z1
      have f_z2 : (blocks == 0) = true := beq_iff_eq.2 h_z2
      have f_z3 : (long == 0) = true := beq_iff_eq.2 h_z3
      have f_z4 : (short == 0) = true := beq_iff_eq.2 h_z4
      have f_z5 : (layers != 0) = false := bne_eq_false_iff_eq.2 h_z5
      have f_z6 : (esis != 0) = false := bne_eq_false_iff_eq.2 h_z6
      have f_z7 : (base != 0) = true := bne_iff_ne.2 h_z7
      clear r hL h_k1 h_d1 h_d2 h_z0 h_z1 h_z2 h_z3 h_z4 h_z5 h_z6 h_z7
      go_enter Tryd.func20, Tryd.ntmps20
      go_wp2_with (first
        | ((with_reducible refine gate_dst (N := 1) rfl ?_); refine wp_box rfl (.tmp 0) rfl rfl rfl ?_; intro w1 hP hB hs; have HP := Lib.hid hP; have HB := Lib.hid hB; obtain ⟨s0, s1, s2, s3, s4, s5, s6, s7, s8, s9, s10, s11, s12, s13, s14, s15, s16, s17, s18, s19⟩ := Wire.cell20 (w := w1) (g := w.heap.size) hP; clear hP hB hs)
        | ((with_reducible refine gate_dst (N := 3) rfl ?_); refine wp_ldpk rfl (.tmp 1) rfl rfl HP.out ?_)
        | (go_at_call 38; refine (ranges_calls _ A L c _).mono ?_; rintro e w2 ⟨rfl, hB⟩; rw [HQ.out]; have HB2 := Lib.hid (HB.out.trans (hB.mono HB.out.size)); have HP2 := Lib.hid (HP.out.below hB); clear hB s0 s1 s2 s3 s4 s5 s6 s7 s8 s9 s10 s11 s12 s13 s14 s15 s16 s17 s18 s19; obtain ⟨s0, s1, s2, s3, s4, s5, s6, s7, s8, s9, s10, s11, s12, s13, s14, s15, s16, s17, s18, s19⟩ := Wire.cell20 (w := w2) (g := w.heap.size) HP2.out))
      go_wp2
      go_ret
      exact ⟨by rw [HR.out]; rfl, HB2.out⟩
    by_cases h_z8 : len = 0
    rotate_left
    · skip
      have HR : Hid (whyP ⟨kind, sess, layer, tick, burst, sync, many, place, block, esi, data, size, sym, blocks, long, short, layers, esis, base, len⟩ = 2) := Lib.hid (by unfold whyP; rw [if_pos r, if_pos h_k1, if_neg (fun h => by simp only [DataF] at h; omega)])
      have f_k1 : (kind == 1) = true := beq_iff_eq.2 h_k1
      have f_d1 : decide ((L : Int) < 1) = false := decide_eq_false h_d1
      have f_d2 : decide (64 < (L : Int)) = false := decide_eq_false h_d2
      have f_z0 : (size == 0) = true := beq_iff_eq.2 h_z0
      have f_z1 : (sym == 0) = true := beq_iff_eq.2 h_z1
      have f_z2 : (blocks == 0) = true := beq_iff_eq.2 h_z2
      have f_z3 : (long == 0) = true := beq_iff_eq.2 h_z3
      have f_z4 : (short == 0) = true := beq_iff_eq.2 h_z4
      have f_z5 : (layers != 0) = false := bne_eq_false_iff_eq.2 h_z5
      have f_z6 : (esis != 0) = false := bne_eq_false_iff_eq.2 h_z6
      have f_z7 : (base != 0) = false := bne_eq_false_iff_eq.2 h_z7
      have f_z8 : (len != 0) = true := bne_iff_ne.2 h_z8
      clear r hL h_k1 h_d1 h_d2 h_z0 h_z1 h_z2 h_z3 h_z4 h_z5 h_z6 h_z7 h_z8
      go_enter Tryd.func20, Tryd.ntmps20
      go_wp2_with (first
        | ((with_reducible refine gate_dst (N := 1) rfl ?_); refine wp_box rfl (.tmp 0) rfl rfl rfl ?_; intro w1 hP hB hs; have HP := Lib.hid hP; have HB := Lib.hid hB; obtain ⟨s0, s1, s2, s3, s4, s5, s6, s7, s8, s9, s10, s11, s12, s13, s14, s15, s16, s17, s18, s19⟩ := Wire.cell20 (w := w1) (g := w.heap.size) hP; clear hP hB hs)
        | ((with_reducible refine gate_dst (N := 3) rfl ?_); refine wp_ldpk rfl (.tmp 1) rfl rfl HP.out ?_)
        | (go_at_call 38; refine (ranges_calls _ A L c _).mono ?_; rintro e w2 ⟨rfl, hB⟩; rw [HQ.out]; have HB2 := Lib.hid (HB.out.trans (hB.mono HB.out.size)); have HP2 := Lib.hid (HP.out.below hB); clear hB s0 s1 s2 s3 s4 s5 s6 s7 s8 s9 s10 s11 s12 s13 s14 s15 s16 s17 s18 s19; obtain ⟨s0, s1, s2, s3, s4, s5, s6, s7, s8, s9, s10, s11, s12, s13, s14, s15, s16, s17, s18, s19⟩ := Wire.cell20 (w := w2) (g := w.heap.size) HP2.out))
      go_wp2
      go_ret
      exact ⟨by rw [HR.out]; rfl, HB2.out⟩
    have HR : Hid (whyP ⟨kind, sess, layer, tick, burst, sync, many, place, block, esi, data, size, sym, blocks, long, short, layers, esis, base, len⟩ = 0) := Lib.hid (by unfold whyP; rw [if_pos r, if_pos h_k1, if_pos (by simp only [DataF]; omega)])
    have f_k1 : (kind == 1) = true := beq_iff_eq.2 h_k1
    have f_d1 : decide ((L : Int) < 1) = false := decide_eq_false h_d1
    have f_d2 : decide (64 < (L : Int)) = false := decide_eq_false h_d2
    have f_z0 : (size == 0) = true := beq_iff_eq.2 h_z0
    have f_z1 : (sym == 0) = true := beq_iff_eq.2 h_z1
    have f_z2 : (blocks == 0) = true := beq_iff_eq.2 h_z2
    have f_z3 : (long == 0) = true := beq_iff_eq.2 h_z3
    have f_z4 : (short == 0) = true := beq_iff_eq.2 h_z4
    have f_z5 : (layers != 0) = false := bne_eq_false_iff_eq.2 h_z5
    have f_z6 : (esis != 0) = false := bne_eq_false_iff_eq.2 h_z6
    have f_z7 : (base != 0) = false := bne_eq_false_iff_eq.2 h_z7
    have f_z8 : (len != 0) = false := bne_eq_false_iff_eq.2 h_z8
    clear r hL h_k1 h_d1 h_d2 h_z0 h_z1 h_z2 h_z3 h_z4 h_z5 h_z6 h_z7 h_z8
    go_enter Tryd.func20, Tryd.ntmps20
    go_wp2_with (first
      | ((with_reducible refine gate_dst (N := 1) rfl ?_); refine wp_box rfl (.tmp 0) rfl rfl rfl ?_; intro w1 hP hB hs; have HP := Lib.hid hP; have HB := Lib.hid hB; obtain ⟨s0, s1, s2, s3, s4, s5, s6, s7, s8, s9, s10, s11, s12, s13, s14, s15, s16, s17, s18, s19⟩ := Wire.cell20 (w := w1) (g := w.heap.size) hP; clear hP hB hs)
      | ((with_reducible refine gate_dst (N := 3) rfl ?_); refine wp_ldpk rfl (.tmp 1) rfl rfl HP.out ?_)
      | (go_at_call 38; refine (ranges_calls _ A L c _).mono ?_; rintro e w2 ⟨rfl, hB⟩; rw [HQ.out]; have HB2 := Lib.hid (HB.out.trans (hB.mono HB.out.size)); have HP2 := Lib.hid (HP.out.below hB); clear hB s0 s1 s2 s3 s4 s5 s6 s7 s8 s9 s10 s11 s12 s13 s14 s15 s16 s17 s18 s19; obtain ⟨s0, s1, s2, s3, s4, s5, s6, s7, s8, s9, s10, s11, s12, s13, s14, s15, s16, s17, s18, s19⟩ := Wire.cell20 (w := w2) (g := w.heap.size) HP2.out))
    go_wp2
    go_ret
    exact ⟨by rw [HR.out]; rfl, HB2.out⟩
  cases burst with
  | true =>
    have HR : Hid (whyP ⟨kind, sess, layer, tick, true, sync, many, place, block, esi, data, size, sym, blocks, long, short, layers, esis, base, len⟩ = 2) := Lib.hid (by unfold whyP; rw [if_pos r, if_neg h_k1, if_neg (fun h => absurd (h.1 : true = false) (by decide))])
    have f_k1 : (kind == 1) = false := beq_eq_false_iff_ne.2 h_k1
    clear r hL h_k1
    go_enter Tryd.func20, Tryd.ntmps20
    go_wp2_with (first
      | ((with_reducible refine gate_dst (N := 1) rfl ?_); refine wp_box rfl (.tmp 0) rfl rfl rfl ?_; intro w1 hP hB hs; have HP := Lib.hid hP; have HB := Lib.hid hB; obtain ⟨s0, s1, s2, s3, s4, s5, s6, s7, s8, s9, s10, s11, s12, s13, s14, s15, s16, s17, s18, s19⟩ := Wire.cell20 (w := w1) (g := w.heap.size) hP; clear hP hB hs)
      | ((with_reducible refine gate_dst (N := 3) rfl ?_); refine wp_ldpk rfl (.tmp 1) rfl rfl HP.out ?_)
      | (go_at_call 38; refine (ranges_calls _ A L c _).mono ?_; rintro e w2 ⟨rfl, hB⟩; rw [HQ.out]; have HB2 := Lib.hid (HB.out.trans (hB.mono HB.out.size)); have HP2 := Lib.hid (HP.out.below hB); clear hB s0 s1 s2 s3 s4 s5 s6 s7 s8 s9 s10 s11 s12 s13 s14 s15 s16 s17 s18 s19; obtain ⟨s0, s1, s2, s3, s4, s5, s6, s7, s8, s9, s10, s11, s12, s13, s14, s15, s16, s17, s18, s19⟩ := Wire.cell20 (w := w2) (g := w.heap.size) HP2.out))
    go_wp2
    go_ret
    exact ⟨by rw [HR.out]; rfl, HB2.out⟩
  | false =>
    by_cases h_y0 : sync = 0
    rotate_left
    · skip
      have HR : Hid (whyP ⟨kind, sess, layer, tick, false, sync, many, place, block, esi, data, size, sym, blocks, long, short, layers, esis, base, len⟩ = 2) := Lib.hid (by unfold whyP; rw [if_pos r, if_neg h_k1, if_neg (fun h => by simp only [AnnF] at h; omega)])
      have f_k1 : (kind == 1) = false := beq_eq_false_iff_ne.2 h_k1
      have f_y0 : (sync != 0) = true := bne_iff_ne.2 h_y0
      clear r hL h_k1 h_y0
      go_enter Tryd.func20, Tryd.ntmps20
      go_wp2_with (first
        | ((with_reducible refine gate_dst (N := 1) rfl ?_); refine wp_box rfl (.tmp 0) rfl rfl rfl ?_; intro w1 hP hB hs; have HP := Lib.hid hP; have HB := Lib.hid hB; obtain ⟨s0, s1, s2, s3, s4, s5, s6, s7, s8, s9, s10, s11, s12, s13, s14, s15, s16, s17, s18, s19⟩ := Wire.cell20 (w := w1) (g := w.heap.size) hP; clear hP hB hs)
        | ((with_reducible refine gate_dst (N := 3) rfl ?_); refine wp_ldpk rfl (.tmp 1) rfl rfl HP.out ?_)
        | (go_at_call 38; refine (ranges_calls _ A L c _).mono ?_; rintro e w2 ⟨rfl, hB⟩; rw [HQ.out]; have HB2 := Lib.hid (HB.out.trans (hB.mono HB.out.size)); have HP2 := Lib.hid (HP.out.below hB); clear hB s0 s1 s2 s3 s4 s5 s6 s7 s8 s9 s10 s11 s12 s13 s14 s15 s16 s17 s18 s19; obtain ⟨s0, s1, s2, s3, s4, s5, s6, s7, s8, s9, s10, s11, s12, s13, s14, s15, s16, s17, s18, s19⟩ := Wire.cell20 (w := w2) (g := w.heap.size) HP2.out))
      go_wp2
      go_ret
      exact ⟨by rw [HR.out]; rfl, HB2.out⟩
    by_cases h_y1 : many = 0
    rotate_left
    · skip
      have HR : Hid (whyP ⟨kind, sess, layer, tick, false, sync, many, place, block, esi, data, size, sym, blocks, long, short, layers, esis, base, len⟩ = 2) := Lib.hid (by unfold whyP; rw [if_pos r, if_neg h_k1, if_neg (fun h => by simp only [AnnF] at h; omega)])
      have f_k1 : (kind == 1) = false := beq_eq_false_iff_ne.2 h_k1
      have f_y0 : (sync != 0) = false := bne_eq_false_iff_eq.2 h_y0
      have f_y1 : (many != 0) = true := bne_iff_ne.2 h_y1
      clear r hL h_k1 h_y0 h_y1
      go_enter Tryd.func20, Tryd.ntmps20
      go_wp2_with (first
        | ((with_reducible refine gate_dst (N := 1) rfl ?_); refine wp_box rfl (.tmp 0) rfl rfl rfl ?_; intro w1 hP hB hs; have HP := Lib.hid hP; have HB := Lib.hid hB; obtain ⟨s0, s1, s2, s3, s4, s5, s6, s7, s8, s9, s10, s11, s12, s13, s14, s15, s16, s17, s18, s19⟩ := Wire.cell20 (w := w1) (g := w.heap.size) hP; clear hP hB hs)
        | ((with_reducible refine gate_dst (N := 3) rfl ?_); refine wp_ldpk rfl (.tmp 1) rfl rfl HP.out ?_)
        | (go_at_call 38; refine (ranges_calls _ A L c _).mono ?_; rintro e w2 ⟨rfl, hB⟩; rw [HQ.out]; have HB2 := Lib.hid (HB.out.trans (hB.mono HB.out.size)); have HP2 := Lib.hid (HP.out.below hB); clear hB s0 s1 s2 s3 s4 s5 s6 s7 s8 s9 s10 s11 s12 s13 s14 s15 s16 s17 s18 s19; obtain ⟨s0, s1, s2, s3, s4, s5, s6, s7, s8, s9, s10, s11, s12, s13, s14, s15, s16, s17, s18, s19⟩ := Wire.cell20 (w := w2) (g := w.heap.size) HP2.out))
      go_wp2
      go_ret
      exact ⟨by rw [HR.out]; rfl, HB2.out⟩
    by_cases h_y2 : place = 0
    rotate_left
    · skip
      have HR : Hid (whyP ⟨kind, sess, layer, tick, false, sync, many, place, block, esi, data, size, sym, blocks, long, short, layers, esis, base, len⟩ = 2) := Lib.hid (by unfold whyP; rw [if_pos r, if_neg h_k1, if_neg (fun h => by simp only [AnnF] at h; omega)])
      have f_k1 : (kind == 1) = false := beq_eq_false_iff_ne.2 h_k1
      have f_y0 : (sync != 0) = false := bne_eq_false_iff_eq.2 h_y0
      have f_y1 : (many != 0) = false := bne_eq_false_iff_eq.2 h_y1
      have f_y2 : (place != 0) = true := bne_iff_ne.2 h_y2
      clear r hL h_k1 h_y0 h_y1 h_y2
      go_enter Tryd.func20, Tryd.ntmps20
      go_wp2_with (first
        | ((with_reducible refine gate_dst (N := 1) rfl ?_); refine wp_box rfl (.tmp 0) rfl rfl rfl ?_; intro w1 hP hB hs; have HP := Lib.hid hP; have HB := Lib.hid hB; obtain ⟨s0, s1, s2, s3, s4, s5, s6, s7, s8, s9, s10, s11, s12, s13, s14, s15, s16, s17, s18, s19⟩ := Wire.cell20 (w := w1) (g := w.heap.size) hP; clear hP hB hs)
        | ((with_reducible refine gate_dst (N := 3) rfl ?_); refine wp_ldpk rfl (.tmp 1) rfl rfl HP.out ?_)
        | (go_at_call 38; refine (ranges_calls _ A L c _).mono ?_; rintro e w2 ⟨rfl, hB⟩; rw [HQ.out]; have HB2 := Lib.hid (HB.out.trans (hB.mono HB.out.size)); have HP2 := Lib.hid (HP.out.below hB); clear hB s0 s1 s2 s3 s4 s5 s6 s7 s8 s9 s10 s11 s12 s13 s14 s15 s16 s17 s18 s19; obtain ⟨s0, s1, s2, s3, s4, s5, s6, s7, s8, s9, s10, s11, s12, s13, s14, s15, s16, s17, s18, s19⟩ := Wire.cell20 (w := w2) (g := w.heap.size) HP2.out))
      go_wp2
      go_ret
      exact ⟨by rw [HR.out]; rfl, HB2.out⟩
    by_cases h_y3 : block = 0
    rotate_left
    · skip
      have HR : Hid (whyP ⟨kind, sess, layer, tick, false, sync, many, place, block, esi, data, size, sym, blocks, long, short, layers, esis, base, len⟩ = 2) := Lib.hid (by unfold whyP; rw [if_pos r, if_neg h_k1, if_neg (fun h => by simp only [AnnF] at h; omega)])
      have f_k1 : (kind == 1) = false := beq_eq_false_iff_ne.2 h_k1
      have f_y0 : (sync != 0) = false := bne_eq_false_iff_eq.2 h_y0
      have f_y1 : (many != 0) = false := bne_eq_false_iff_eq.2 h_y1
      have f_y2 : (place != 0) = false := bne_eq_false_iff_eq.2 h_y2
      have f_y3 : (block != 0) = true := bne_iff_ne.2 h_y3
      clear r hL h_k1 h_y0 h_y1 h_y2 h_y3
      go_enter Tryd.func20, Tryd.ntmps20
      go_wp2_with (first
        | ((with_reducible refine gate_dst (N := 1) rfl ?_); refine wp_box rfl (.tmp 0) rfl rfl rfl ?_; intro w1 hP hB hs; have HP := Lib.hid hP; have HB := Lib.hid hB; obtain ⟨s0, s1, s2, s3, s4, s5, s6, s7, s8, s9, s10, s11, s12, s13, s14, s15, s16, s17, s18, s19⟩ := Wire.cell20 (w := w1) (g := w.heap.size) hP; clear hP hB hs)
        | ((with_reducible refine gate_dst (N := 3) rfl ?_); refine wp_ldpk rfl (.tmp 1) rfl rfl HP.out ?_)
        | (go_at_call 38; refine (ranges_calls _ A L c _).mono ?_; rintro e w2 ⟨rfl, hB⟩; rw [HQ.out]; have HB2 := Lib.hid (HB.out.trans (hB.mono HB.out.size)); have HP2 := Lib.hid (HP.out.below hB); clear hB s0 s1 s2 s3 s4 s5 s6 s7 s8 s9 s10 s11 s12 s13 s14 s15 s16 s17 s18 s19; obtain ⟨s0, s1, s2, s3, s4, s5, s6, s7, s8, s9, s10, s11, s12, s13, s14, s15, s16, s17, s18, s19⟩ := Wire.cell20 (w := w2) (g := w.heap.size) HP2.out))
      go_wp2
      go_ret
      exact ⟨by rw [HR.out]; rfl, HB2.out⟩
    by_cases h_y4 : esi = 0
    rotate_left
    · skip
      have HR : Hid (whyP ⟨kind, sess, layer, tick, false, sync, many, place, block, esi, data, size, sym, blocks, long, short, layers, esis, base, len⟩ = 2) := Lib.hid (by unfold whyP; rw [if_pos r, if_neg h_k1, if_neg (fun h => by simp only [AnnF] at h; omega)])
      have f_k1 : (kind == 1) = false := beq_eq_false_iff_ne.2 h_k1
      have f_y0 : (sync != 0) = false := bne_eq_false_iff_eq.2 h_y0
      have f_y1 : (many != 0) = false := bne_eq_false_iff_eq.2 h_y1
      have f_y2 : (place != 0) = false := bne_eq_false_iff_eq.2 h_y2
      have f_y3 : (block != 0) = false := bne_eq_false_iff_eq.2 h_y3
      have f_y4 : (esi != 0) = true := bne_iff_ne.2 h_y4
      clear r hL h_k1 h_y0 h_y1 h_y2 h_y3 h_y4
      go_enter Tryd.func20, Tryd.ntmps20
      go_wp2_with (first
        | ((with_reducible refine gate_dst (N := 1) rfl ?_); refine wp_box rfl (.tmp 0) rfl rfl rfl ?_; intro w1 hP hB hs; have HP := Lib.hid hP; have HB := Lib.hid hB; obtain ⟨s0, s1, s2, s3, s4, s5, s6, s7, s8, s9, s10, s11, s12, s13, s14, s15, s16, s17, s18, s19⟩ := Wire.cell20 (w := w1) (g := w.heap.size) hP; clear hP hB hs)
        | ((with_reducible refine gate_dst (N := 3) rfl ?_); refine wp_ldpk rfl (.tmp 1) rfl rfl HP.out ?_)
        | (go_at_call 38; refine (ranges_calls _ A L c _).mono ?_; rintro e w2 ⟨rfl, hB⟩; rw [HQ.out]; have HB2 := Lib.hid (HB.out.trans (hB.mono HB.out.size)); have HP2 := Lib.hid (HP.out.below hB); clear hB s0 s1 s2 s3 s4 s5 s6 s7 s8 s9 s10 s11 s12 s13 s14 s15 s16 s17 s18 s19; obtain ⟨s0, s1, s2, s3, s4, s5, s6, s7, s8, s9, s10, s11, s12, s13, s14, s15, s16, s17, s18, s19⟩ := Wire.cell20 (w := w2) (g := w.heap.size) HP2.out))
      go_wp2
      go_ret
      exact ⟨by rw [HR.out]; rfl, HB2.out⟩
    by_cases h_a7 : 0 < (L : Int)
    · skip
      have HR : Hid (whyP ⟨kind, sess, layer, tick, false, sync, many, place, block, esi, data, size, sym, blocks, long, short, layers, esis, base, len⟩ = 2) := Lib.hid (by unfold whyP; rw [if_pos r, if_neg h_k1, if_neg (fun h => by have e : data = [] := h.2.2.2.2.2.2.1; rw [e] at hL; simp at hL; omega)])
      have f_k1 : (kind == 1) = false := beq_eq_false_iff_ne.2 h_k1
      have f_y0 : (sync != 0) = false := bne_eq_false_iff_eq.2 h_y0
      have f_y1 : (many != 0) = false := bne_eq_false_iff_eq.2 h_y1
      have f_y2 : (place != 0) = false := bne_eq_false_iff_eq.2 h_y2
      have f_y3 : (block != 0) = false := bne_eq_false_iff_eq.2 h_y3
      have f_y4 : (esi != 0) = false := bne_eq_false_iff_eq.2 h_y4
      have f_a7 : decide (0 < (L : Int)) = true := decide_eq_true h_a7
      have g_a7 : decide (0 < L) = true := decide_eq_true (by omega)
      clear r hL h_k1 h_y0 h_y1 h_y2 h_y3 h_y4 h_a7
      go_enter Tryd.func20, Tryd.ntmps20
      go_wp2_with (first
        | ((with_reducible refine gate_dst (N := 1) rfl ?_); refine wp_box rfl (.tmp 0) rfl rfl rfl ?_; intro w1 hP hB hs; have HP := Lib.hid hP; have HB := Lib.hid hB; obtain ⟨s0, s1, s2, s3, s4, s5, s6, s7, s8, s9, s10, s11, s12, s13, s14, s15, s16, s17, s18, s19⟩ := Wire.cell20 (w := w1) (g := w.heap.size) hP; clear hP hB hs)
        | ((with_reducible refine gate_dst (N := 3) rfl ?_); refine wp_ldpk rfl (.tmp 1) rfl rfl HP.out ?_)
        | (go_at_call 38; refine (ranges_calls _ A L c _).mono ?_; rintro e w2 ⟨rfl, hB⟩; rw [HQ.out]; have HB2 := Lib.hid (HB.out.trans (hB.mono HB.out.size)); have HP2 := Lib.hid (HP.out.below hB); clear hB s0 s1 s2 s3 s4 s5 s6 s7 s8 s9 s10 s11 s12 s13 s14 s15 s16 s17 s18 s19; obtain ⟨s0, s1, s2, s3, s4, s5, s6, s7, s8, s9, s10, s11, s12, s13, s14, s15, s16, s17, s18, s19⟩ := Wire.cell20 (w := w2) (g := w.heap.size) HP2.out))
      go_wp2
      go_ret
      exact ⟨by rw [HR.out]; rfl, HB2.out⟩
    have HR : Hid (whyP ⟨kind, sess, layer, tick, false, sync, many, place, block, esi, data, size, sym, blocks, long, short, layers, esis, base, len⟩ = if PlanOk size sym blocks long short then 0 else 2) := Lib.hid (by unfold whyP; rw [if_pos r, if_neg h_k1]; have e : data = [] := List.eq_nil_of_length_eq_zero (by omega); have : AnnF ⟨kind, sess, layer, tick, false, sync, many, place, block, esi, data, size, sym, blocks, long, short, layers, esis, base, len⟩ ↔ PlanOk size sym blocks long short := ⟨fun h => h.2.2.2.2.2.2.2, fun h => ⟨rfl, h_y0, h_y1, h_y2, h_y3, h_y4, e, h⟩⟩; simp only [this])
    have HSZ : Hid (size ≤ 4294967295) := Lib.hid (r.2.2.2.elim (fun h => absurd h.1 h_k1) (fun h => by have := h.2.2.1; simp only at this; omega))
    have f_k1 : (kind == 1) = false := beq_eq_false_iff_ne.2 h_k1
    have f_y0 : (sync != 0) = false := bne_eq_false_iff_eq.2 h_y0
    have f_y1 : (many != 0) = false := bne_eq_false_iff_eq.2 h_y1
    have f_y2 : (place != 0) = false := bne_eq_false_iff_eq.2 h_y2
    have f_y3 : (block != 0) = false := bne_eq_false_iff_eq.2 h_y3
    have f_y4 : (esi != 0) = false := bne_eq_false_iff_eq.2 h_y4
    have f_a7 : decide (0 < (L : Int)) = false := decide_eq_false h_a7
    have g_a7 : decide (0 < L) = false := decide_eq_false (by omega)
    clear r hL h_k1 h_y0 h_y1 h_y2 h_y3 h_y4 h_a7
    go_enter Tryd.func20, Tryd.ntmps20
    go_wp2_with (first
      | ((with_reducible refine gate_dst (N := 1) rfl ?_); refine wp_box rfl (.tmp 0) rfl rfl rfl ?_; intro w1 hP hB hs; have HP := Lib.hid hP; have HB := Lib.hid hB; obtain ⟨s0, s1, s2, s3, s4, s5, s6, s7, s8, s9, s10, s11, s12, s13, s14, s15, s16, s17, s18, s19⟩ := Wire.cell20 (w := w1) (g := w.heap.size) hP; clear hP hB hs)
      | ((with_reducible refine gate_dst (N := 3) rfl ?_); refine wp_ldpk rfl (.tmp 1) rfl rfl HP.out ?_)
      | (go_at_call 38; refine (ranges_calls _ A L c _).mono ?_; rintro e w2 ⟨rfl, hB⟩; rw [HQ.out]; have HB2 := Lib.hid (HB.out.trans (hB.mono HB.out.size)); have HP2 := Lib.hid (HP.out.below hB); clear hB s0 s1 s2 s3 s4 s5 s6 s7 s8 s9 s10 s11 s12 s13 s14 s15 s16 s17 s18 s19; obtain ⟨s0, s1, s2, s3, s4, s5, s6, s7, s8, s9, s10, s11, s12, s13, s14, s15, s16, s17, s18, s19⟩ := Wire.cell20 (w := w2) (g := w.heap.size) HP2.out)
      | (go_at_call 39
         refine (Check14_calls _ _ _ _ _ _ HSZ.out).mono ?_
         rintro e w3 ⟨ev, t, rfl, h1, h2, h3⟩
         have HE := Lib.hid h2
         have HB3 := Lib.hid (HB2.out.trans (h3.mono HB2.out.size))
         clear h2 h3
         cases t with
         | none =>
           obtain rfl := ErR_nil h1
           have HR3 : Hid (whyP ⟨kind, sess, layer, tick, false, sync, many, place, block, esi, data, size, sym, blocks, long, short, layers, esis, base, len⟩ = 0) := Lib.hid (by rw [HR.out, if_pos (HE.out.1 rfl)])
           clear h1
           go_wp2
           go_ret
           exact ⟨by rw [HR3.out]; rfl, HB3.out⟩
         | some x =>
           obtain ⟨a, rfl⟩ := ErR_ptr h1
           have HR3 : Hid (whyP ⟨kind, sess, layer, tick, false, sync, many, place, block, esi, data, size, sym, blocks, long, short, layers, esis, base, len⟩ = 2) := Lib.hid (by rw [HR.out, if_neg (fun h => by have := HE.out.2 h; cases this)])
           clear h1
           go_wp2
           go_ret
           exact ⟨by rw [HR3.out]; rfl, HB3.out⟩))
set_option maxHeartbeats 4000000 in
theorem Check_calls (p : Pk) (A : Option Addr) (L c : Nat) (w : World) (hL : L = p.data.length) : Calls Tryd.prog 8 #[pkV p (.slice A L c)] w fun e w' => ∃ ev : Value, e = .returned ev ∧ ErR w' ev (er ckN (whyP p)) ∧ Below w.heap.size w w' := by
  have HL := Lib.hid hL
  obtain ⟨n, hn⟩ : ∃ n, n = whyP p := ⟨_, rfl⟩
  have HN := Lib.hid hn
  rw [← hn]
  clear hL hn
  go_enter Tryd.func8, Tryd.ntmps8
  go_wp2_with (first
    | ((with_reducible refine gate_dst (N := 1) rfl ?_); refine wp_box rfl (.tmp 0) rfl rfl rfl ?_; intro w1 hP hB hs; have HP := Lib.hid hP; have HB := Lib.hid hB; clear hP hB hs)
    | ((with_reducible refine gate_dst (N := 3) rfl ?_); refine wp_ldpk rfl (.tmp 1) rfl rfl HP.out ?_)
    | (go_at_call 20; refine (why_calls p A L c _ HL.out).mono ?_; rw [← HN.out]; rintro e w2 ⟨rfl, hB⟩; have HB2 := Lib.hid (HB.out.trans (hB.mono HB.out.size)); clear hB)
    | (go_at_call 19; refine (fault_New.calls _ n (er ckN n) _ rfl).mono ?_; rintro e w3 ⟨ev, rfl, h1, h2⟩; have HE := Lib.hid (And.intro h1 h2); clear h1 h2))
  go_ret
  exact ⟨_, rfl, HE.out.1, HB2.out.trans (HE.out.2.mono HB2.out.size)⟩
end Go.Proofs.YtfcofokbhhnfkaaDoor.Byt
