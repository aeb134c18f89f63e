/- geyserref16.ranged and bare by their contracts. Conditions: numbers as memory holds them. -/
import Derived.Test.YtfcofokbhhnfkaaDoorR14
namespace Go.Proofs.YtfcofokbhhnfkaaDoor.Byt
set_option linter.unusedSimpArgs false
set_option linter.unusedVariables false
open Go.RowKit Go.Deep Go.Proofs.YtfcofokbhhnfkaaDoor.Er Go.Proofs.YtfcofokbhhnfkaaDoorW.PrintWords Go.Proofs.YtfcofokbhhnfkaaDoorW.PrintLast Go.Proofs.YtfcofokbhhnfkaaDoorW.PrintMore
def HeadR (p : Pk) : Prop := (1 ≤ p.kind ∧ p.kind ≤ 2) ∧ (0 ≤ p.sess ∧ p.sess ≤ 65535) ∧ (0 ≤ p.layer ∧ p.layer ≤ 7) ∧ (0 ≤ p.tick ∧ p.tick ≤ 1099511627775)
instance (p : Pk) : Decidable (HeadR p) := by unfold HeadR; exact inferInstance
theorem head_all (p : Pk) : (headN p).all okN = decide (HeadR p) := by
  unfold headN okN HeadR
  simp only [List.all_cons, List.all_nil, Bool.and_true]
  rw [← Bool.decide_and, ← Bool.decide_and, ← Bool.decide_and]
theorem data_all {p : Pk} (h1 : -1 ≤ p.sync) (h2 : p.sync ≤ 7) (hb : I64 p.many) : (dataN p).all okN = decide (DataR p) := by
  unfold dataN okN
  simp only [List.all_cons, List.all_nil, Bool.and_true]
  rw [← Bool.decide_and, ← Bool.decide_and, ← Bool.decide_and, ← Bool.decide_and]
  refine decide_eq_decide.2 ?_
  unfold DataR
  rw [show wrap64 (p.sync + 1) = p.sync + 1 from w64 ⟨by omega, by omega⟩]
  constructor
  · rintro ⟨a1, a2, a3, a4, a5⟩
    rw [show wrap64 (p.many - 1) = p.many - 1 from w64 ⟨by omega, by omega⟩] at a3
    omega
  · rintro ⟨a1, a2, a3, a4, a5⟩
    rw [show wrap64 (p.many - 1) = p.many - 1 from w64 ⟨by omega, by omega⟩]
    omega
theorem ann_all {p : Pk} (h1 : p.layer = 0) (h2 : 2 ≤ p.base) (hb : PkB p) : (annN p).all okN = decide (AnnR p) := by
  have b1 := hb.size
  have b2 := hb.base
  unfold I64 at b1 b2
  unfold annN okN
  simp only [List.all_cons, List.all_nil, Bool.and_true]
  rw [← Bool.decide_and, ← Bool.decide_and, ← Bool.decide_and, ← Bool.decide_and]
  refine decide_eq_decide.2 ?_
  unfold AnnR
  rw [show wrap64 (p.base - 1) = p.base - 1 from w64 ⟨by omega, by omega⟩]
  omega
set_option maxHeartbeats 8000000 in
set_option maxRecDepth 100000 in
theorem ranged_calls (p : Pk) (u : Value) (w : World) (hu : u.cells = #[u]) (hb : PkB p) : Calls Tryd.prog 21 #[pkV p u] w fun e w' => e = .returned (.bool (decide (RangeOk p))) ∧ Below w.heap.size w w' := by
  have HU := Lib.hid hu
  have HB := Lib.hid hb
  obtain ⟨r, hr⟩ : ∃ r, r = decide (RangeOk p) := ⟨_, rfl⟩
  rw [← hr]
  by_cases h1 : HeadR p
  rotate_left
  · have HH : Hid ((headN p).all okN = false) := Lib.hid (by rw [head_all]; exact decide_eq_false h1)
    have HR : Hid (r = false) := Lib.hid (hr.trans (decide_eq_false (fun h => h1 (by
      obtain ⟨a1, a2, a3, a4⟩ := h
      exact ⟨by rcases a4 with q | q <;> omega, a1, a2, a3⟩))))
    clear hr h1 hu hb
    go_enter Tryd.func21, Tryd.ntmps21
    go_wp2_with (first
      | ((with_reducible refine gate_dst (N := 1) rfl ?_); refine wp_box rfl (.tmp 0) rfl rfl HU.out ?_; intro w2 hP hB hs; have H2 := Lib.hid (SB.mk hP hB); clear hP hB hs)
      | ((with_reducible refine gate_dst (N := 3) rfl ?_); refine wp_ldpk rfl (.tmp 1) rfl rfl H2.out.P ?_)
      | (go_at_call 41; refine (head_calls p u _ HU.out).mono ?_; rintro e w3 ⟨g3, c3, rfl, hN, hb⟩; have H3 := Lib.hid (And.intro (H2.out.below hb) hN); clear hN hb H2)
      | (go_at_call 40; refine (fits_calls _ g3 c3 (headN p) H3.out.2 (show 4 ≤ 1000 by decide)).mono ?_; rw [HH.out]; rintro e w4 ⟨rfl, hb⟩; have H4 := Lib.hid (H3.out.1.below hb); clear hb H3))
    go_ret
    exact ⟨by rw [HR.out]; rfl, H4.out.B⟩
  have HH : Hid ((headN p).all okN = true) := Lib.hid (by rw [head_all]; exact decide_eq_true h1)
  have hro : RangeOk p ↔ (p.kind = 1 ∧ DataR p ∨ p.kind = 2 ∧ AnnR p) := ⟨fun h => h.2.2.2, fun h => ⟨h1.2.1, h1.2.2.1, h1.2.2.2, h⟩⟩
  by_cases hk : p.kind = 1
  · have hro2 : RangeOk p ↔ DataR p := hro.trans ⟨fun h => h.elim (fun q => q.2) (fun q => by omega), fun h => .inl ⟨hk, h⟩⟩
    by_cases hs1 : -1 ≤ p.sync
    rotate_left
    · have HR : Hid (r = false) := Lib.hid (hr.trans (decide_eq_false (fun h => hs1 (hro2.1 h).1.1)))
      have d1 : decide (-1 ≤ p.sync) = false := decide_eq_false hs1
      have HK := Lib.hid hk
      clear hr h1 hu hb hro hro2 hs1 hk
      go_enter Tryd.func21, Tryd.ntmps21
      go_upto_region 3 with (first
        | ((with_reducible refine gate_dst (N := 1) rfl ?_); refine wp_box rfl (.tmp 0) rfl rfl HU.out ?_; intro w2 hP hB hs; have H2 := Lib.hid (SB.mk hP hB); clear hP hB hs)
        | ((with_reducible refine gate_dst (N := 3) rfl ?_); refine wp_ldpk rfl (.tmp 1) rfl rfl H2.out.P ?_)
        | (go_at_call 41; refine (head_calls p u _ HU.out).mono ?_; rintro e w3 ⟨g3, c3, rfl, hN, hb⟩; have H3 := Lib.hid (And.intro (H2.out.below hb) hN); clear hN hb H2)
        | (go_at_call 40; refine (fits_calls _ g3 c3 (headN p) H3.out.2 (show 4 ≤ 1000 by decide)).mono ?_; rw [HH.out]; rintro e w4 ⟨rfl, hb⟩; have H4 := Lib.hid (H3.out.1.below hb); clear hb H3))
      have s0 : w4.cell? ⟨w.heap.size, 0, none⟩ = some (.int .i64 1) := (blk_cell H4.out.P 0).trans (congrArg (fun z => some (Value.int .i64 z)) HK.out)
      have s2 : w4.cell? ⟨w.heap.size, 2, none⟩ = some (.int .i64 p.layer) := (blk_cell H4.out.P 2).trans rfl
      have s5 : w4.cell? ⟨w.heap.size, 5, none⟩ = some (.int .i64 p.sync) := (blk_cell H4.out.P 5).trans rfl
      have s18 : w4.cell? ⟨w.heap.size, 18, none⟩ = some (.int .i64 p.base) := (blk_cell H4.out.P 18).trans rfl
      go_wp2
      go_ret
      exact ⟨by rw [HR.out]; rfl, H4.out.B⟩
    by_cases hs2 : p.sync ≤ 7
    rotate_left
    · have HR : Hid (r = false) := Lib.hid (hr.trans (decide_eq_false (fun h => hs2 (hro2.1 h).1.2)))
      have d1 : decide (-1 ≤ p.sync) = true := decide_eq_true hs1
      have d2 : decide (p.sync ≤ 7) = false := decide_eq_false hs2
      have HK := Lib.hid hk
      clear hr h1 hu hb hro hro2 hs1 hs2 hk
      go_enter Tryd.func21, Tryd.ntmps21
      go_upto_region 3 with (first
        | ((with_reducible refine gate_dst (N := 1) rfl ?_); refine wp_box rfl (.tmp 0) rfl rfl HU.out ?_; intro w2 hP hB hs; have H2 := Lib.hid (SB.mk hP hB); clear hP hB hs)
        | ((with_reducible refine gate_dst (N := 3) rfl ?_); refine wp_ldpk rfl (.tmp 1) rfl rfl H2.out.P ?_)
        | (go_at_call 41; refine (head_calls p u _ HU.out).mono ?_; rintro e w3 ⟨g3, c3, rfl, hN, hb⟩; have H3 := Lib.hid (And.intro (H2.out.below hb) hN); clear hN hb H2)
        | (go_at_call 40; refine (fits_calls _ g3 c3 (headN p) H3.out.2 (show 4 ≤ 1000 by decide)).mono ?_; rw [HH.out]; rintro e w4 ⟨rfl, hb⟩; have H4 := Lib.hid (H3.out.1.below hb); clear hb H3))
      have s0 : w4.cell? ⟨w.heap.size, 0, none⟩ = some (.int .i64 1) := (blk_cell H4.out.P 0).trans (congrArg (fun z => some (Value.int .i64 z)) HK.out)
      have s2 : w4.cell? ⟨w.heap.size, 2, none⟩ = some (.int .i64 p.layer) := (blk_cell H4.out.P 2).trans rfl
      have s5 : w4.cell? ⟨w.heap.size, 5, none⟩ = some (.int .i64 p.sync) := (blk_cell H4.out.P 5).trans rfl
      have s18 : w4.cell? ⟨w.heap.size, 18, none⟩ = some (.int .i64 p.base) := (blk_cell H4.out.P 18).trans rfl
      go_wp2
      go_ret
      exact ⟨by rw [HR.out]; rfl, H4.out.B⟩
    have HR : Hid (r = (dataN p).all okN) := Lib.hid (by rw [hr, data_all hs1 hs2 hb.many]; exact decide_eq_decide.2 hro2)
    have d1 : decide (-1 ≤ p.sync) = true := decide_eq_true hs1
    have d2 : decide (p.sync ≤ 7) = true := decide_eq_true hs2
    have HK := Lib.hid hk
    clear hr h1 hu hb hro hro2 hs1 hs2 hk
    go_enter Tryd.func21, Tryd.ntmps21
    go_upto_region 3 with (first
      | ((with_reducible refine gate_dst (N := 1) rfl ?_); refine wp_box rfl (.tmp 0) rfl rfl HU.out ?_; intro w2 hP hB hs; have H2 := Lib.hid (SB.mk hP hB); clear hP hB hs)
      | ((with_reducible refine gate_dst (N := 3) rfl ?_); refine wp_ldpk rfl (.tmp 1) rfl rfl H2.out.P ?_)
      | (go_at_call 41; refine (head_calls p u _ HU.out).mono ?_; rintro e w3 ⟨g3, c3, rfl, hN, hb⟩; have H3 := Lib.hid (And.intro (H2.out.below hb) hN); clear hN hb H2)
      | (go_at_call 40; refine (fits_calls _ g3 c3 (headN p) H3.out.2 (show 4 ≤ 1000 by decide)).mono ?_; rw [HH.out]; rintro e w4 ⟨rfl, hb⟩; have H4 := Lib.hid (H3.out.1.below hb); clear hb H3))
    have s0 : w4.cell? ⟨w.heap.size, 0, none⟩ = some (.int .i64 1) := (blk_cell H4.out.P 0).trans (congrArg (fun z => some (Value.int .i64 z)) HK.out)
    have s2 : w4.cell? ⟨w.heap.size, 2, none⟩ = some (.int .i64 p.layer) := (blk_cell H4.out.P 2).trans rfl
    have s5 : w4.cell? ⟨w.heap.size, 5, none⟩ = some (.int .i64 p.sync) := (blk_cell H4.out.P 5).trans rfl
    have s18 : w4.cell? ⟨w.heap.size, 18, none⟩ = some (.int .i64 p.base) := (blk_cell H4.out.P 18).trans rfl
    go_wp2_with (first
      | ((with_reducible refine gate_dst (N := 19) rfl ?_); refine wp_ldpk_want (by rfl) (.tmp 1) rfl rfl H4.out.P ?_)
      | (go_at_call 42; refine (dataN_calls p u _ HU.out).mono ?_; rintro e w5 ⟨g5, c5, rfl, hN, hb⟩; have H5 := Lib.hid (And.intro (H4.out.below hb) hN); clear hN hb H4)
      | (go_at_call 40; refine (fits_calls _ g5 c5 (dataN p) H5.out.2 (show 5 ≤ 1000 by decide)).mono ?_; rw [← HR.out]; rintro e w6 ⟨rfl, hb⟩; have H6 := Lib.hid (H5.out.1.below hb); clear hb H5))
    go_ret
    exact ⟨rfl, H6.out.B⟩
  · have hk2 : p.kind = 2 := by have := h1.1; omega
    have hro2 : RangeOk p ↔ AnnR p := hro.trans ⟨fun h => h.elim (fun q => by omega) (fun q => q.2), fun h => .inr ⟨hk2, h⟩⟩
    have HK := Lib.hid hk2
    by_cases hs1 : p.layer = 0
    rotate_left
    · have HR : Hid (r = false) := Lib.hid (hr.trans (decide_eq_false (fun h => hs1 (hro2.1 h).1)))
      have d1 : (p.layer == 0) = false := beq_eq_false_iff_ne.2 hs1
      clear hr h1 hu hb hro hro2 hs1 hk hk2
      go_enter Tryd.func21, Tryd.ntmps21
      go_upto_region 3 with (first
        | ((with_reducible refine gate_dst (N := 1) rfl ?_); refine wp_box rfl (.tmp 0) rfl rfl HU.out ?_; intro w2 hP hB hs; have H2 := Lib.hid (SB.mk hP hB); clear hP hB hs)
        | ((with_reducible refine gate_dst (N := 3) rfl ?_); refine wp_ldpk rfl (.tmp 1) rfl rfl H2.out.P ?_)
        | (go_at_call 41; refine (head_calls p u _ HU.out).mono ?_; rintro e w3 ⟨g3, c3, rfl, hN, hb⟩; have H3 := Lib.hid (And.intro (H2.out.below hb) hN); clear hN hb H2)
        | (go_at_call 40; refine (fits_calls _ g3 c3 (headN p) H3.out.2 (show 4 ≤ 1000 by decide)).mono ?_; rw [HH.out]; rintro e w4 ⟨rfl, hb⟩; have H4 := Lib.hid (H3.out.1.below hb); clear hb H3))
      have s0 : w4.cell? ⟨w.heap.size, 0, none⟩ = some (.int .i64 2) := (blk_cell H4.out.P 0).trans (congrArg (fun z => some (Value.int .i64 z)) HK.out)
      have s2 : w4.cell? ⟨w.heap.size, 2, none⟩ = some (.int .i64 p.layer) := (blk_cell H4.out.P 2).trans rfl
      have s5 : w4.cell? ⟨w.heap.size, 5, none⟩ = some (.int .i64 p.sync) := (blk_cell H4.out.P 5).trans rfl
      have s18 : w4.cell? ⟨w.heap.size, 18, none⟩ = some (.int .i64 p.base) := (blk_cell H4.out.P 18).trans rfl
      go_wp2
      go_ret
      exact ⟨by rw [HR.out]; rfl, H4.out.B⟩
    by_cases hs2 : 2 ≤ p.base
    rotate_left
    · have HR : Hid (r = false) := Lib.hid (hr.trans (decide_eq_false (fun h => hs2 (hro2.1 h).2.2.2.2.1.1)))
      have d1 : (p.layer == 0) = true := beq_iff_eq.2 hs1
      have d2 : decide (2 ≤ p.base) = false := decide_eq_false hs2
      clear hr h1 hu hb hro hro2 hs1 hs2 hk hk2
      go_enter Tryd.func21, Tryd.ntmps21
      go_upto_region 3 with (first
        | ((with_reducible refine gate_dst (N := 1) rfl ?_); refine wp_box rfl (.tmp 0) rfl rfl HU.out ?_; intro w2 hP hB hs; have H2 := Lib.hid (SB.mk hP hB); clear hP hB hs)
        | ((with_reducible refine gate_dst (N := 3) rfl ?_); refine wp_ldpk rfl (.tmp 1) rfl rfl H2.out.P ?_)
        | (go_at_call 41; refine (head_calls p u _ HU.out).mono ?_; rintro e w3 ⟨g3, c3, rfl, hN, hb⟩; have H3 := Lib.hid (And.intro (H2.out.below hb) hN); clear hN hb H2)
        | (go_at_call 40; refine (fits_calls _ g3 c3 (headN p) H3.out.2 (show 4 ≤ 1000 by decide)).mono ?_; rw [HH.out]; rintro e w4 ⟨rfl, hb⟩; have H4 := Lib.hid (H3.out.1.below hb); clear hb H3))
      have s0 : w4.cell? ⟨w.heap.size, 0, none⟩ = some (.int .i64 2) := (blk_cell H4.out.P 0).trans (congrArg (fun z => some (Value.int .i64 z)) HK.out)
      have s2 : w4.cell? ⟨w.heap.size, 2, none⟩ = some (.int .i64 p.layer) := (blk_cell H4.out.P 2).trans rfl
      have s5 : w4.cell? ⟨w.heap.size, 5, none⟩ = some (.int .i64 p.sync) := (blk_cell H4.out.P 5).trans rfl
      have s18 : w4.cell? ⟨w.heap.size, 18, none⟩ = some (.int .i64 p.base) := (blk_cell H4.out.P 18).trans rfl
      go_wp2
      go_ret
      exact ⟨by rw [HR.out]; rfl, H4.out.B⟩
    have HR : Hid (r = (annN p).all okN) := Lib.hid (by rw [hr, ann_all hs1 hs2 hb]; exact decide_eq_decide.2 hro2)
    have d1 : (p.layer == 0) = true := beq_iff_eq.2 hs1
    have d2 : decide (2 ≤ p.base) = true := decide_eq_true hs2
    clear hr h1 hu hb hro hro2 hs1 hs2 hk hk2
    go_enter Tryd.func21, Tryd.ntmps21
    go_upto_region 3 with (first
      | ((with_reducible refine gate_dst (N := 1) rfl ?_); refine wp_box rfl (.tmp 0) rfl rfl HU.out ?_; intro w2 hP hB hs; have H2 := Lib.hid (SB.mk hP hB); clear hP hB hs)
      | ((with_reducible refine gate_dst (N := 3) rfl ?_); refine wp_ldpk rfl (.tmp 1) rfl rfl H2.out.P ?_)
      | (go_at_call 41; refine (head_calls p u _ HU.out).mono ?_; rintro e w3 ⟨g3, c3, rfl, hN, hb⟩; have H3 := Lib.hid (And.intro (H2.out.below hb) hN); clear hN hb H2)
      | (go_at_call 40; refine (fits_calls _ g3 c3 (headN p) H3.out.2 (show 4 ≤ 1000 by decide)).mono ?_; rw [HH.out]; rintro e w4 ⟨rfl, hb⟩; have H4 := Lib.hid (H3.out.1.below hb); clear hb H3))
    have s0 : w4.cell? ⟨w.heap.size, 0, none⟩ = some (.int .i64 2) := (blk_cell H4.out.P 0).trans (congrArg (fun z => some (Value.int .i64 z)) HK.out)
    have s2 : w4.cell? ⟨w.heap.size, 2, none⟩ = some (.int .i64 p.layer) := (blk_cell H4.out.P 2).trans rfl
    have s5 : w4.cell? ⟨w.heap.size, 5, none⟩ = some (.int .i64 p.sync) := (blk_cell H4.out.P 5).trans rfl
    have s18 : w4.cell? ⟨w.heap.size, 18, none⟩ = some (.int .i64 p.base) := (blk_cell H4.out.P 18).trans rfl
    go_wp2_with (first
      | ((with_reducible refine gate_dst (N := 32) rfl ?_); refine wp_ldpk_want (by rfl) (.tmp 1) rfl rfl H4.out.P ?_)
      | (go_at_call 43; refine (ann_calls p u _ HU.out).mono ?_; rintro e w5 ⟨g5, c5, rfl, hN, hb⟩; have H5 := Lib.hid (And.intro (H4.out.below hb) hN); clear hN hb H4)
      | (go_at_call 40; refine (fits_calls _ g5 c5 (annN p) H5.out.2 (show 5 ≤ 1000 by decide)).mono ?_; rw [← HR.out]; rintro e w6 ⟨rfl, hb⟩; have H6 := Lib.hid (H5.out.1.below hb); clear hb H5))
    go_ret
    exact ⟨rfl, H6.out.B⟩
end Go.Proofs.YtfcofokbhhnfkaaDoor.Byt
