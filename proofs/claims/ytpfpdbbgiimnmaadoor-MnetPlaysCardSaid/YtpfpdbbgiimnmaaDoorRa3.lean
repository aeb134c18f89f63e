/- geyserref22.Inject by its contract. Conditions: a net of at most 16 hosts, bytes; numbers small. geyserref22.Drop, Double by their contracts. Conditions: a net of at most 16 hosts; numbers small. geyserref22.Delay by its contract. Conditions: a net of at most 16 hosts; numbers small. geyserref15.power, Spoil by their contracts. Conditions: bytes as they may be read. geyserref22.Spoil by its contract; bytes of a string. Conditions: a net of at most 16 hosts; numbers small. geyserref22.Take, Queue by their contracts. Conditions: a net of at most 16 hosts; numbers small. geyserref22.Queue by its contract. Conditions: a net of at most 16 hosts; numbers small. geyserref22.New by its contract. Conditions: none. -/
import Derived.Test.YtpfpdbbgiimnmaaDoorPg
import Derived.Test.YtpfpdbbgiimnmaaDoorRa2
import Derived.Lib.ConvBytes
namespace Go.Proofs.YtpfpdbbgiimnmaaDoor.Net
set_option linter.unusedSimpArgs false
set_option linter.unusedVariables false
section
open Go.RowKit Go.Deep Go.Proofs.YtpfpdbbgiimnmaaDoor.Er Go.Proofs.YtpfpdbbgiimnmaaDoor.Mod Go.Proofs.YtpfpdbbgiimnmaaDoorW.PrintWords Go.Proofs.YtpfpdbbgiimnmaaDoorW.PrintLast
theorem run_cnv {o : Oper} {a : Act} {W : World} {v : Value} {s : ByteArray} (x : Operand) (ho : o.op = .convert 22 9 x) (hx : a.eval x = v) (h : (convert 22 9 v).run Tryd.prog W = .ok (.string s) W) : (execOp a.eval o).run Tryd.prog W = .ok (.value (.string s)) W := by
  unfold execOp
  simp only [ho, hx, Sem.run_bind, h, Result.andThen_ok, Sem.run_pure]
set_option maxHeartbeats 8000000 in
set_option maxRecDepth 100000 in
theorem inject_r {D : Nat → Prop} {w : World} {v : Value} {s : Nt} (h : NRef w v s) (hn : s.n ≤ 16) (i : Int) (A2 : Option Addr) (lb c2 : Nat) (bb : List Int) (hl : RdB D w (.slice A2 lb c2) bb) (hD : ∀ k, D k → k < w.heap.size) (hq : ∀ k, k < s.n → (s.h k).q.length < 900000000000) : Calls Tryd.prog 60 #[v, .int .i64 i, .slice A2 lb c2] w fun e w' => ∃ v', e = .returned (.tuple #[v', .int .i64 (s.injectE i bb)]) ∧ NRef w' v' (s.inject i bb) ∧ Below w.heap.size w w' := by
  have HRD : Hid (∀ w', Below w.heap.size w w' → RdB D w' (.slice A2 lb c2) bb) := Lib.hid (fun w' hb => hl.keep (fun k hk => hb.block k (hD k hk)))
  obtain ⟨hlb, hlc, hlm⟩ := hl.len
  have hlm2 : lb ≤ 140737488355328 := by omega
  have HLB := Lib.hid hlb
  clear hl hD hlc hlm
  by_cases ha : s.at i = 0
  rotate_left
  · skip
    have hE : s.injectE i bb = 1 := (if_neg ha).trans (at_no ha).1
    have hS : s.inject i bb = s := if_neg (by rw [hE]; decide)
    have HIs := Lib.hid (at_dec ha)
    rw [hE, hS]
    clear ha hE hS hq hlb
    obtain ⟨b, c, rfl, hc, _⟩ := h.parts
    have HN := Lib.hid h
    have H16 := Lib.hid hn
    obtain ⟨n, hnn⟩ : ∃ n, n = s.n := ⟨_, rfl⟩
    obtain ⟨now, hnow⟩ : ∃ z, z = s.now := ⟨_, rfl⟩
    rw [← hnn, ← hnow] at HN ⊢
    rw [← hnn] at hc
    have HB0 := Lib.hid (Bs.start w)
    clear h hn hnn hnow
    go_enter Tryd.func60, Tryd.ntmps60
    go_wp2_with (first
      | ((with_reducible refine gate_dst (N := 3) rfl ?_); refine wp_bx HB0.out (t := 40) (cs := [.int .i64 now, .slice (some ⟨b, 0, none⟩) n c]) rfl (.tmp 0) rfl rfl ?_; intro g2 w1 hb HB1; clear hb HB0)
      | ((with_reducible refine gate_dst (N := 6) rfl ?_); refine wp_al HB1.out (t := 40) rfl rfl al_T ?_; intro g4 w2 hb HB2; clear hb HB1)
      | ((with_reducible refine gate_dst (N := 9) rfl ?_); refine wp_ld HB2.out 1 rfl rfl (.tmp 3) rfl rfl Tryd.underlying40 (by kernel_rfl) ?_)
      | (go_at_call 46; refine (is_calls (HN.out.below HB2.out.B) H16.out i).mono ?_; rintro e w3 ⟨rfl, hb⟩; rw [HIs.out]; have HB3 := Lib.hid (HB2.out.below hb); clear hb HB2)
      | ((with_reducible refine gate_dst (N := 13) rfl ?_); refine wp_ld HB3.out 1 rfl rfl (.tmp 3) rfl rfl Tryd.underlying40 (by kernel_rfl) ?_)
      | ((with_reducible refine gate_store (t := 40) (p := 6) rfl ?_); refine wp_st HB3.out 0 rfl (q := 0) (seg := [.int .i64 now, .slice (some ⟨b, 0, none⟩) n c]) rfl rfl rfl rfl rfl (by kernel_rfl) (Nat.le_refl _) (o_cons rfl (o_cons rfl o_nil)) ?_; intro w4 hq hf; have HB4 : Hid (Bs w w4 [(g4, 40, [.int .i64 now, .slice (some ⟨b, 0, none⟩) n c]), (g2, 40, [.int .i64 now, .slice (some ⟨b, 0, none⟩) n c])]) := hq; clear hq hf HB3))
    (try simp only [Exit.inBlock, Exit.then])
    refine bodyPost_ret (results_ct rfl _ _ g4 _ _ _ _ rfl (HB4.out.get 0 rfl) Tryd.underlying40 rfl (show (Tryd.prog.info? 40).map (·.size) = some 2 by kernel_rfl)) rfl ?_
    exact ⟨_, rfl, HN.out.below HB4.out.B, HB4.out.B⟩
  obtain ⟨k, rfl, hk⟩ := at_of ha
  have HIs := Lib.hid (at_dec1 hk)
  have hqk := hq k hk
  by_cases ht : (s.h k).there = true
  rotate_left
  · skip
    have ht2 : (s.h k).there = false := by cases hh : (s.h k).there with
      | false => rfl
      | true => exact absurd hh ht
    have hE : s.injectE (k : Int) bb = 7 := (if_pos ha).trans (if_neg (by rw [Int.toNat_natCast]; exact ht))
    have hS : s.inject (k : Int) bb = s := if_neg (by rw [hE]; decide)
    rw [hE, hS]
    clear ha hE hS hq hqk hlb
    obtain ⟨b, c, FA, fl, fc, QA, ql, qc, rfl, hc, hblt, hx, hrow⟩ := h.host hk
    have HN := Lib.hid h
    have H16 := Lib.hid hn
    have HK := Lib.hid hk
    have HX := Lib.hid hx
    have HR := Lib.hid (And.intro hblt hrow)
    obtain ⟨x, hxx⟩ : ∃ x, x = s.h k := ⟨_, rfl⟩
    have HXX := Lib.hid hxx
    rw [← hxx] at HX HR
    obtain ⟨n, hnn⟩ : ∃ n, n = s.n := ⟨_, rfl⟩
    obtain ⟨now, hnow⟩ : ∃ z, z = s.now := ⟨_, rfl⟩
    have HNN := Lib.hid (And.intro hnn hnow)
    rw [← hnn, ← hnow] at HN ⊢
    rw [← hnn] at hc
    have hkn : k < n := by rw [hnn]; exact hk
    obtain ⟨i0, i1⟩ : (0 : Int) ≤ (k : Int) ∧ (k : Int) < (n : Int) := by omega
    have e0 : decide ((0 : Int) ≤ (k : Int)) = true := decide_eq_true i0
    have e1 : decide ((k : Int) < (n : Int)) = true := decide_eq_true i1
    have HB0 := Lib.hid (Bs.start w)
    clear h hn hk hx hrow hblt hxx hnn hnow
    have hth : x.there = false := by rw [HXX.out]; exact ht2
    clear ht ht2
    go_enter Tryd.func60, Tryd.ntmps60
    go_upto_region 3 with (first
      | ((with_reducible refine gate_dst (N := 3) rfl ?_); refine wp_bx HB0.out (t := 40) (cs := [.int .i64 now, .slice (some ⟨b, 0, none⟩) n c]) rfl (.tmp 0) rfl rfl ?_; intro g2 w1 hb HB1; clear hb HB0)
      | ((with_reducible refine gate_dst (N := 6) rfl ?_); refine wp_al HB1.out (t := 40) rfl rfl al_T ?_; intro g4 w2 hb HB2; clear hb HB1)
      | ((with_reducible refine gate_dst (N := 9) rfl ?_); refine wp_ld HB2.out 1 rfl rfl (.tmp 3) rfl rfl Tryd.underlying40 (by kernel_rfl) ?_)
      | (go_at_call 46; refine (is_calls (HN.out.below HB2.out.B) H16.out k).mono ?_; rintro e w3 ⟨rfl, hb⟩; rw [HIs.out]; have HB3 := Lib.hid (HB2.out.below hb); clear hb HB2))
    have a1 : w3.cell? ⟨g2, 1, none⟩ = some (.slice (some ⟨b, 0, none⟩) n c) := (HB3.out.get 1 rfl).cell 1
    have r0 : w3.cell? ⟨b, k * 7, none⟩ = some (.bool false) := (by rw [← hth]; exact (HB3.out.B.cell (p := ⟨b, _, none⟩) HR.out.1).trans (HR.out.2 0 (by omega)))
    have r1 : w3.cell? ⟨b, k * 7 + 1, none⟩ = some (.int .i64 x.level) := (HB3.out.B.cell (p := ⟨b, _, none⟩) HR.out.1).trans (HR.out.2 1 (by omega))
    have r2 : w3.cell? ⟨b, k * 7 + 2, none⟩ = some (.slice FA fl fc) := (HB3.out.B.cell (p := ⟨b, _, none⟩) HR.out.1).trans (HR.out.2 2 (by omega))
    have r3 : w3.cell? ⟨b, k * 7 + 3, none⟩ = some (.int .i64 x.graft) := (HB3.out.B.cell (p := ⟨b, _, none⟩) HR.out.1).trans (HR.out.2 3 (by omega))
    have r4 : w3.cell? ⟨b, k * 7 + 4, none⟩ = some (.int .i64 x.cap) := (HB3.out.B.cell (p := ⟨b, _, none⟩) HR.out.1).trans (HR.out.2 4 (by omega))
    have r5 : w3.cell? ⟨b, k * 7 + 5, none⟩ = some (.int .i64 x.got) := (HB3.out.B.cell (p := ⟨b, _, none⟩) HR.out.1).trans (HR.out.2 5 (by omega))
    have r6 : w3.cell? ⟨b, k * 7 + 6, none⟩ = some (.slice QA ql qc) := (HB3.out.B.cell (p := ⟨b, _, none⟩) HR.out.1).trans (HR.out.2 6 (by omega))
    clear hth
    go_upto_region 4 with (fail)
    clear a1 r0 r1 r2 r3 r4 r5 r6
    go_wp2_with (first
      | ((with_reducible refine gate_dst (N := 21) rfl ?_); refine wp_ld HB3.out 1 rfl rfl (.tmp 3) rfl rfl Tryd.underlying40 (by kernel_rfl) ?_)
      | ((with_reducible refine gate_store (t := 40) (p := 6) rfl ?_); refine wp_st HB3.out 0 rfl (q := 0) (seg := [.int .i64 now, .slice (some ⟨b, 0, none⟩) n c]) rfl rfl rfl rfl rfl (by kernel_rfl) (Nat.le_refl _) (o_cons rfl (o_cons rfl o_nil)) ?_; intro w4 hq hf; have HB4 : Hid (Bs w w4 [(g4, 40, [.int .i64 now, .slice (some ⟨b, 0, none⟩) n c]), (g2, 40, [.int .i64 now, .slice (some ⟨b, 0, none⟩) n c])]) := hq; clear hq hf HB3))
    (try simp only [Exit.inBlock, Exit.then])
    refine bodyPost_ret (results_ct rfl _ _ g4 _ _ _ _ rfl (HB4.out.get 0 rfl) Tryd.underlying40 rfl (show (Tryd.prog.info? 40).map (·.size) = some 2 by kernel_rfl)) rfl ?_
    exact ⟨_, rfl, HN.out.below HB4.out.B, HB4.out.B⟩
  have hE0 : s.injectE (k : Int) bb = if 128 < bb.length then 3 else 0 := (if_pos ha).trans (if_pos (by rw [Int.toNat_natCast]; exact ht))
  have ht2 := ht
  by_cases hm : 128 < bb.length
  · skip
    have hE : s.injectE (k : Int) bb = 3 := hE0.trans (if_pos hm)
    have hS : s.inject (k : Int) bb = s := if_neg (by rw [hE]; decide)
    rw [hE, hS]
    have dl : 128 < lb := by omega
    have dl2 : decide ((128 : Int) < (lb : Int)) = true := decide_eq_true (by omega)
    clear ha hE hS hq hqk hlb hE0 hm
    obtain ⟨b, c, FA, fl, fc, QA, ql, qc, rfl, hc, hblt, hx, hrow⟩ := h.host hk
    have HN := Lib.hid h
    have H16 := Lib.hid hn
    have HK := Lib.hid hk
    have HX := Lib.hid hx
    have HR := Lib.hid (And.intro hblt hrow)
    obtain ⟨x, hxx⟩ : ∃ x, x = s.h k := ⟨_, rfl⟩
    have HXX := Lib.hid hxx
    rw [← hxx] at HX HR
    obtain ⟨n, hnn⟩ : ∃ n, n = s.n := ⟨_, rfl⟩
    obtain ⟨now, hnow⟩ : ∃ z, z = s.now := ⟨_, rfl⟩
    have HNN := Lib.hid (And.intro hnn hnow)
    rw [← hnn, ← hnow] at HN ⊢
    rw [← hnn] at hc
    have hkn : k < n := by rw [hnn]; exact hk
    obtain ⟨i0, i1⟩ : (0 : Int) ≤ (k : Int) ∧ (k : Int) < (n : Int) := by omega
    have e0 : decide ((0 : Int) ≤ (k : Int)) = true := decide_eq_true i0
    have e1 : decide ((k : Int) < (n : Int)) = true := decide_eq_true i1
    have HB0 := Lib.hid (Bs.start w)
    clear h hn hk hx hrow hblt hxx hnn hnow
    have hth : x.there = true := by rw [HXX.out]; exact ht2
    clear ht ht2
    go_enter Tryd.func60, Tryd.ntmps60
    go_upto_region 3 with (first
      | ((with_reducible refine gate_dst (N := 3) rfl ?_); refine wp_bx HB0.out (t := 40) (cs := [.int .i64 now, .slice (some ⟨b, 0, none⟩) n c]) rfl (.tmp 0) rfl rfl ?_; intro g2 w1 hb HB1; clear hb HB0)
      | ((with_reducible refine gate_dst (N := 6) rfl ?_); refine wp_al HB1.out (t := 40) rfl rfl al_T ?_; intro g4 w2 hb HB2; clear hb HB1)
      | ((with_reducible refine gate_dst (N := 9) rfl ?_); refine wp_ld HB2.out 1 rfl rfl (.tmp 3) rfl rfl Tryd.underlying40 (by kernel_rfl) ?_)
      | (go_at_call 46; refine (is_calls (HN.out.below HB2.out.B) H16.out k).mono ?_; rintro e w3 ⟨rfl, hb⟩; rw [HIs.out]; have HB3 := Lib.hid (HB2.out.below hb); clear hb HB2))
    have a1 : w3.cell? ⟨g2, 1, none⟩ = some (.slice (some ⟨b, 0, none⟩) n c) := (HB3.out.get 1 rfl).cell 1
    have r0 : w3.cell? ⟨b, k * 7, none⟩ = some (.bool true) := (by rw [← hth]; exact (HB3.out.B.cell (p := ⟨b, _, none⟩) HR.out.1).trans (HR.out.2 0 (by omega)))
    have r1 : w3.cell? ⟨b, k * 7 + 1, none⟩ = some (.int .i64 x.level) := (HB3.out.B.cell (p := ⟨b, _, none⟩) HR.out.1).trans (HR.out.2 1 (by omega))
    have r2 : w3.cell? ⟨b, k * 7 + 2, none⟩ = some (.slice FA fl fc) := (HB3.out.B.cell (p := ⟨b, _, none⟩) HR.out.1).trans (HR.out.2 2 (by omega))
    have r3 : w3.cell? ⟨b, k * 7 + 3, none⟩ = some (.int .i64 x.graft) := (HB3.out.B.cell (p := ⟨b, _, none⟩) HR.out.1).trans (HR.out.2 3 (by omega))
    have r4 : w3.cell? ⟨b, k * 7 + 4, none⟩ = some (.int .i64 x.cap) := (HB3.out.B.cell (p := ⟨b, _, none⟩) HR.out.1).trans (HR.out.2 4 (by omega))
    have r5 : w3.cell? ⟨b, k * 7 + 5, none⟩ = some (.int .i64 x.got) := (HB3.out.B.cell (p := ⟨b, _, none⟩) HR.out.1).trans (HR.out.2 5 (by omega))
    have r6 : w3.cell? ⟨b, k * 7 + 6, none⟩ = some (.slice QA ql qc) := (HB3.out.B.cell (p := ⟨b, _, none⟩) HR.out.1).trans (HR.out.2 6 (by omega))
    clear hth
    go_upto_region 5 with (fail)
    clear a1 r0 r1 r2 r3 r4 r5 r6
    go_upto_region 6 with (fail)
    go_wp2_with (first
      | ((with_reducible refine gate_dst (N := 25) rfl ?_); refine wp_ld HB3.out 1 rfl rfl (.tmp 3) rfl rfl Tryd.underlying40 (by kernel_rfl) ?_)
      | ((with_reducible refine gate_store (t := 40) (p := 6) rfl ?_); refine wp_st HB3.out 0 rfl (q := 0) (seg := [.int .i64 now, .slice (some ⟨b, 0, none⟩) n c]) rfl rfl rfl rfl rfl (by kernel_rfl) (Nat.le_refl _) (o_cons rfl (o_cons rfl o_nil)) ?_; intro w4 hq hf; have HB4 : Hid (Bs w w4 [(g4, 40, [.int .i64 now, .slice (some ⟨b, 0, none⟩) n c]), (g2, 40, [.int .i64 now, .slice (some ⟨b, 0, none⟩) n c])]) := hq; clear hq hf HB3))
    (try simp only [Exit.inBlock, Exit.then])
    refine bodyPost_ret (results_ct rfl _ _ g4 _ _ _ _ rfl (HB4.out.get 0 rfl) Tryd.underlying40 rfl (show (Tryd.prog.info? 40).map (·.size) = some 2 by kernel_rfl)) rfl ?_
    exact ⟨_, rfl, HN.out.below HB4.out.B, HB4.out.B⟩
  · skip
    have hE : s.injectE (k : Int) bb = 0 := hE0.trans (if_neg hm)
    have hS : s.inject (k : Int) bb = s.put k { s.h k with q := (s.h k).q ++ [⟨bb, s.now, false⟩] } := (if_pos hE).trans (by rw [Int.toNat_natCast])
    rw [hE, hS]
    have dl : ¬ 128 < lb := by omega
    have dl2 : decide ((128 : Int) < (lb : Int)) = false := decide_eq_false (by omega)
    have HQL := Lib.hid hqk
    clear ha hE hS hq hqk hlb hE0 hm
    obtain ⟨b, c, FA, fl, fc, QA, ql, qc, rfl, hc, hblt, hx, hrow⟩ := h.host hk
    have HN := Lib.hid h
    have H16 := Lib.hid hn
    have HK := Lib.hid hk
    have HX := Lib.hid hx
    have HR := Lib.hid (And.intro hblt hrow)
    obtain ⟨x, hxx⟩ : ∃ x, x = s.h k := ⟨_, rfl⟩
    have HXX := Lib.hid hxx
    rw [← hxx] at HX HR
    obtain ⟨n, hnn⟩ : ∃ n, n = s.n := ⟨_, rfl⟩
    obtain ⟨now, hnow⟩ : ∃ z, z = s.now := ⟨_, rfl⟩
    have HNN := Lib.hid (And.intro hnn hnow)
    rw [← hnn, ← hnow] at HN ⊢
    rw [← hnn] at hc
    have hkn : k < n := by rw [hnn]; exact hk
    obtain ⟨i0, i1⟩ : (0 : Int) ≤ (k : Int) ∧ (k : Int) < (n : Int) := by omega
    have e0 : decide ((0 : Int) ≤ (k : Int)) = true := decide_eq_true i0
    have e1 : decide ((k : Int) < (n : Int)) = true := decide_eq_true i1
    have HB0 := Lib.hid (Bs.start w)
    clear h hn hk hx hrow hblt hxx hnn hnow
    rw [← HXX.out] at HQL
    have hth : x.there = true := by rw [HXX.out]; exact ht2
    clear ht ht2
    go_enter Tryd.func60, Tryd.ntmps60
    go_upto_region 3 with (first
      | ((with_reducible refine gate_dst (N := 3) rfl ?_); refine wp_bx HB0.out (t := 40) (cs := [.int .i64 now, .slice (some ⟨b, 0, none⟩) n c]) rfl (.tmp 0) rfl rfl ?_; intro g2 w1 hb HB1; clear hb HB0)
      | ((with_reducible refine gate_dst (N := 6) rfl ?_); refine wp_al HB1.out (t := 40) rfl rfl al_T ?_; intro g4 w2 hb HB2; clear hb HB1)
      | ((with_reducible refine gate_dst (N := 9) rfl ?_); refine wp_ld HB2.out 1 rfl rfl (.tmp 3) rfl rfl Tryd.underlying40 (by kernel_rfl) ?_)
      | (go_at_call 46; refine (is_calls (HN.out.below HB2.out.B) H16.out k).mono ?_; rintro e w3 ⟨rfl, hb⟩; rw [HIs.out]; have HB3 := Lib.hid (HB2.out.below hb); clear hb HB2))
    have a1 : w3.cell? ⟨g2, 1, none⟩ = some (.slice (some ⟨b, 0, none⟩) n c) := (HB3.out.get 1 rfl).cell 1
    have r0 : w3.cell? ⟨b, k * 7, none⟩ = some (.bool true) := (by rw [← hth]; exact (HB3.out.B.cell (p := ⟨b, _, none⟩) HR.out.1).trans (HR.out.2 0 (by omega)))
    have r1 : w3.cell? ⟨b, k * 7 + 1, none⟩ = some (.int .i64 x.level) := (HB3.out.B.cell (p := ⟨b, _, none⟩) HR.out.1).trans (HR.out.2 1 (by omega))
    have r2 : w3.cell? ⟨b, k * 7 + 2, none⟩ = some (.slice FA fl fc) := (HB3.out.B.cell (p := ⟨b, _, none⟩) HR.out.1).trans (HR.out.2 2 (by omega))
    have r3 : w3.cell? ⟨b, k * 7 + 3, none⟩ = some (.int .i64 x.graft) := (HB3.out.B.cell (p := ⟨b, _, none⟩) HR.out.1).trans (HR.out.2 3 (by omega))
    have r4 : w3.cell? ⟨b, k * 7 + 4, none⟩ = some (.int .i64 x.cap) := (HB3.out.B.cell (p := ⟨b, _, none⟩) HR.out.1).trans (HR.out.2 4 (by omega))
    have r5 : w3.cell? ⟨b, k * 7 + 5, none⟩ = some (.int .i64 x.got) := (HB3.out.B.cell (p := ⟨b, _, none⟩) HR.out.1).trans (HR.out.2 5 (by omega))
    have r6 : w3.cell? ⟨b, k * 7 + 6, none⟩ = some (.slice QA ql qc) := (HB3.out.B.cell (p := ⟨b, _, none⟩) HR.out.1).trans (HR.out.2 6 (by omega))
    clear hth
    go_upto_region 5 with (fail)
    clear a1 r0 r1 r2 r3 r4 r5 r6
    go_upto_region 7 with (fail)
    clear dl dl2
    have a1 : w3.cell? ⟨g2, 1, none⟩ = some (.slice (some ⟨b, 0, none⟩) n c) := (HB3.out.get 1 rfl).cell 1
    have r0 : w3.cell? ⟨b, k * 7, none⟩ = some (.bool x.there) := (HB3.out.B.cell (p := ⟨b, _, none⟩) HR.out.1).trans (HR.out.2 0 (by omega))
    have r1 : w3.cell? ⟨b, k * 7 + 1, none⟩ = some (.int .i64 x.level) := (HB3.out.B.cell (p := ⟨b, _, none⟩) HR.out.1).trans (HR.out.2 1 (by omega))
    have r2 : w3.cell? ⟨b, k * 7 + 2, none⟩ = some (.slice FA fl fc) := (HB3.out.B.cell (p := ⟨b, _, none⟩) HR.out.1).trans (HR.out.2 2 (by omega))
    have r3 : w3.cell? ⟨b, k * 7 + 3, none⟩ = some (.int .i64 x.graft) := (HB3.out.B.cell (p := ⟨b, _, none⟩) HR.out.1).trans (HR.out.2 3 (by omega))
    have r4 : w3.cell? ⟨b, k * 7 + 4, none⟩ = some (.int .i64 x.cap) := (HB3.out.B.cell (p := ⟨b, _, none⟩) HR.out.1).trans (HR.out.2 4 (by omega))
    have r5 : w3.cell? ⟨b, k * 7 + 5, none⟩ = some (.int .i64 x.got) := (HB3.out.B.cell (p := ⟨b, _, none⟩) HR.out.1).trans (HR.out.2 5 (by omega))
    have r6 : w3.cell? ⟨b, k * 7 + 6, none⟩ = some (.slice QA ql qc) := (HB3.out.B.cell (p := ⟨b, _, none⟩) HR.out.1).trans (HR.out.2 6 (by omega))
    have l3 : g2 < w3.heap.size := (HB3.out.get 1 rfl).lt
    have l4 : b < w3.heap.size := Nat.lt_of_lt_of_le HR.out.1 HB3.out.B.size
    go_upto_region 8 with (first
      | (at_builtin; refine wp_qapp (B := w.heap.size) (q := []) (q2 := x.q) rfl (.tmp 26) (.tmp 32) rfl rfl rfl (QOwn.empty HB3.out.B.size) ((HX.out.2.rd).below (HB3.out.B.alloc HB3.out.B.size _)) (by have := HQL.out; simp; omega) (Nat.le_trans HB3.out.B.size (by simp)) ?_; intro A7 L7 c7 w7 HQ7 hg7))
    have HB4 : Hid (Bs w w7 [(g4, 40, [.int .i64 0, .slice none 0 0]), (g2, 40, [.int .i64 now, .slice (some ⟨b, 0, none⟩) n c])]) := Lib.hid ((HB3.out.below (below_alloc (Below.refl _ _) _)).grown hg7.out (own_block (QOwn.empty HB3.out.B.size)) (by intro b hb; simp only [List.mem_cons, List.not_mem_nil, or_false] at hb; rcases hb with rfl | rfl <;> (dsimp only; decide)))
    clear hg7 HB3
    clear l3 l4 a1 r0 r1 r2 r3 r4 r5 r6
    obtain ⟨sb, hsb⟩ : ∃ sb, sb = strOfNums bb := ⟨_, rfl⟩
    have HSB := Lib.hid hsb
    clear hsb
    refine start_ (n := 13) (S := fun w' => Bs w w' [(g4, 40, [.int .i64 0, .slice none 0 0]), (g2, 40, [.int .i64 now, .slice (some ⟨b, 0, none⟩) n c])] ∧ w'.cell? ⟨g2, 0, none⟩ = some (.int .i64 now)) (ds := [11]) #[false, false, false, false, false, false, false, false, false, false, false, false, false] (by kernel_rfl) rfl rfl ⟨HB4.out.below (Below.refl _ _).drew, (HB4.out.get 1 rfl).cell 0⟩ (fun hHeld => ?_)
    refine take_ (i := 0) (N := some 34) (v := .agg #[.int .i64 now, .slice (some ⟨b, 0, none⟩) n c]) (bm_ 13 0x1) rfl rfl (by kernel_rfl) (fun _ _ _ h => h) (Or.inl ⟨by rfl, fun w' hs => run_ldb (hs.1.get 1 rfl) (.tmp 3) rfl rfl Tryd.underlying40 (by kernel_rfl)⟩) hHeld rfl ?_
    refine nm_ 34 ?_
    refine pu_ 1 35 (bm_ 13 0x3) ?_
    refine pu_ 2 36 (bm_ 13 0x7) ?_
    refine pu_ 3 37 (bm_ 13 0xf) ?_
    refine take_ (i := 4) (N := some 38) (v := .string sb) (bm_ 13 0x1f) rfl rfl (by kernel_rfl) (fun _ _ _ h => h) (Or.inl ⟨by rfl, fun w' hs => run_cnv (.tmp 37) rfl rfl (HSB.out ▸ (HRD.out _ hs.1.B).str)⟩) hHeld rfl ?_
    refine nm_ 38 ?_
    refine pu_ 5 39 (bm_ 13 0x3f) ?_
    refine tk_ 6 40 (bm_ 13 0x7f) hHeld ?_
    refine pu_ 7 41 (bm_ 13 0xff) ?_
    refine on_ 8 (some 42) (bm_ 13 0x1ff) fun K hK => ?_
    refine value_ (by rfl) rfl (w1 := w7.drew.alloc (Obj.cells #[.string sb, .int .i64 now, .bool false] 116)) (v := .slice (some ⟨w7.drew.heap.size, 0, none⟩) 1 1) (by go_simp; try rfl) ?_
    have hS8 : Bs w (w7.drew.alloc (Obj.cells #[.string sb, .int .i64 now, .bool false] 116)) [(g4, 40, [.int .i64 0, .slice none 0 0]), (g2, 40, [.int .i64 now, .slice (some ⟨b, 0, none⟩) n c])] ∧ (w7.drew.alloc (Obj.cells #[.string sb, .int .i64 now, .bool false] 116)).cell? ⟨g2, 0, none⟩ = some (.int .i64 now) := ⟨hHeld.1.below (below_alloc (Below.refl _ _) _), (hHeld.1.below (below_alloc (Below.refl _ _) _)).get 1 rfl |>.cell 0⟩
    refine hK.out _ _ hS8 (fun hHeldA => ?_)
    clear hK K hS8
    refine nm_ 42 ?_
    refine on_ 9 (some 43) (bm_ 13 0x3ff) fun K hK => ?_
    obtain ⟨v9, w9, hr9, ho9, hg9⟩ := (HQ7.out.below (w' := w7.drew.alloc (Obj.cells #[.string sb, .int .i64 now, .bool false] 116)) ((Below.refl _ _).drew.alloc (Nat.le_refl _) _)).app (q2 := [⟨bb, now, false⟩]) (by rw [HSB.out]; exact QRd.lit (w := w7.drew) (x := ⟨bb, now, false⟩)) (by have := HQL.out; simp; omega) (Nat.le_trans hHeld.1.B.size (by simp)) 87
    obtain ⟨A9, c9, rfl, _⟩ := ho9.form
    have hB9 := hHeldA.1.grown hg9 (own_block (HQ7.out.below (w' := w7.drew.alloc (Obj.cells #[.string sb, .int .i64 now, .bool false] 116)) ((Below.refl _ _).drew.alloc (Nat.le_refl _) _))) (by intro b hb; simp only [List.mem_cons, List.not_mem_nil, or_false] at hb; rcases hb with rfl | rfl <;> (dsimp only; decide))
    have HQ9 := Lib.hid ho9
    refine value_ (by rfl) rfl (run_app rfl (by rfl) (by rfl) hr9) ?_
    refine hK.out _ _ ⟨hB9, (hB9.get 1 rfl).cell 0⟩ (fun hHeldC => ?_)
    clear hK K hHeld hHeldA hr9 hg9 ho9 hB9 HQ7
    refine nm_ 43 ?_
    refine on_ 10 (some 44) (bm_ 13 0x7ff) fun K hK => ?_
    refine gd_ Tryd.func66 (queue_r (HN.out.below hHeldC.1.B) H16.out k HK.out A9 _ c9 (x.q ++ ([⟨bb, now, false⟩] : List It)) HQ9.out.ref) ?_
    rintro e w10 ⟨v', rfl, hv, hb⟩
    obtain ⟨b5, c5, rfl, hc5⟩ := hv.spell (now := now) (n := n) HNN.out.2 HNN.out.1
    refine ⟨_, rfl, ?_⟩
    have hB10 := hHeldC.1.below hb
    have HV := Lib.hid hv
    clear hb hv hc5
    refine hK.out _ _ ⟨hB10, (hB10.get 1 rfl).cell 0⟩ (fun hHeldB => ?_)
    clear hK K hHeldC hB10 HQ9
    refine nm_ 44 ?_
    refine la_ 11 none (bm_ 13 0xfff) fun K hK => ?_
    refine skip_ (by rfl) rfl (w1 := w10.setCells g4 0 [Value.int .i64 now, .slice (some ⟨b5, 0, none⟩) n c5]) (run_stb (hHeldB.1.get 0 rfl) rfl rfl rfl (by kernel_rfl) (Nat.le_refl _) (o_cons rfl (o_cons rfl o_nil))) ?_
    refine hK.out _ _ ?_
    have HBN : Hid (Bs w (w10.setCells g4 0 [Value.int .i64 now, .slice (some ⟨b5, 0, none⟩) n c5]) [(g4, 40, [Value.int .i64 now, .slice (some ⟨b5, 0, none⟩) n c5]), (g2, 40, [.int .i64 now, .slice (some ⟨b, 0, none⟩) n c])]) := Lib.hid (by
      have := hHeldB.1.seg 0 rfl 0 [Value.int .i64 now, .slice (some ⟨b5, 0, none⟩) n c5] (Nat.le_refl _)
      exact this)
    have HVN := Lib.hid (HV.out.st ⟨hHeldB.1.get 0 rfl, (setCells_blk w10 g4 [Value.int .i64 now, .slice (some ⟨b5, 0, none⟩) n c5] 0).2.2.2.2⟩)
    generalize (w10.setCells g4 0 [Value.int .i64 now, .slice (some ⟨b5, 0, none⟩) n c5]) = w99 at HBN HVN ⊢
    clear hK K hHeldB HV
    refine pu_ 12 7 (bm_ 13 0x1fff) ?_
    refine done_ (by kernel_rfl) ?_
    go_wp2
    refine bodyPost_ret (results_ct rfl _ _ g4 _ _ _ _ rfl (HBN.out.get 0 rfl) Tryd.underlying40 rfl (show (Tryd.prog.info? 40).map (·.size) = some 2 by kernel_rfl)) rfl ?_
    exact ⟨_, rfl, by have hh := HVN.out; rw [← HXX.out] at hh; rw [← HXX.out]; exact hh, HBN.out.B⟩
end
section
open Go.RowKit Go.Deep Go.Proofs.YtpfpdbbgiimnmaaDoor.Er Go.Proofs.YtpfpdbbgiimnmaaDoor.Mod Go.Proofs.YtpfpdbbgiimnmaaDoorW.PrintWords Go.Proofs.YtpfpdbbgiimnmaaDoorW.PrintLast
theorem qcut_l (A : Option Addr) (n c m : Nat) (hm : m ≤ n) : ∃ A' : Option Addr, (∀ W : World, (Instr.slice 87 (.slice A n c) (some (.int .i64 (m : Int))) none none).run Tryd.prog W = .ok (.slice A' (n - m) (c - m)) W) ∧ ∀ (w : World) (q : List It), QRd w (.slice A n c) q → QRd w (.slice A' (n - m) (c - m)) (q.drop m) := by
  obtain ⟨i, hi, hz0, hz1, hz2⟩ := info_parts infoIR
  refine ⟨if c = m then A else A.map (·.add (m * 3)), fun W => ?_, fun w q h => ?_⟩
  · have hel : Tryd.prog.elem 87 = 116 := by simp [Program.elem, Tryd.underlying87]
    have hu : Tryd.prog.underlying 87 = some (.slice (Tryd.prog.elem 87)) := by rw [hel]; exact Tryd.underlying87
    rw [run_slice_l W 87 A n c hu .i64 (m : Int) (Int.natCast_nonneg _) (by omega), hel]
    simp [sizeOf, typeInfo, hi, hz1, sliced, Result.andThen]
  · obtain ⟨A', c', e, h1, h2⟩ := h
    cases e
    by_cases hne : q.drop m = []
    · have hz : q.length - m = 0 := by rw [← List.length_drop, hne]; rfl
      exact ⟨_, _, by rw [hne, hz]; rfl, by rw [hne]; simp, fun hx => absurd hne hx⟩
    · have hq : q ≠ [] := by rintro rfl; exact hne List.drop_nil
      obtain ⟨b, o, rfl, h3, h4⟩ := h2 hq
      have hlt : m < q.length := by
        rcases Nat.lt_or_ge m q.length with h | h
        · exact h
        · exact absurd (List.drop_eq_nil_of_le h) hne
      rw [if_neg (by omega)]
      have hadd : (some (⟨b, o, none⟩ : Addr)).map (·.add (m * 3)) = some ⟨b, o + m * 3, none⟩ := by simp [Addr.add]
      rw [hadd]
      exact QRd.drop ⟨_, _, rfl, h1, fun _ => ⟨b, o, rfl, h3, h4⟩⟩ m hm
theorem qcut_h (A : Option Addr) (n c m : Nat) (hm : m ≤ n) (hc : n ≤ c) : ∃ A' : Option Addr, (∀ W : World, (Instr.slice 87 (.slice A n c) none (some (.int .i64 (m : Int))) none).run Tryd.prog W = .ok (.slice A' m c) W) ∧ ∀ (w : World) (q : List It), QRd w (.slice A n c) q → QRd w (.slice A' m c) (q.take m) := by
  obtain ⟨i, hi, hz0, hz1, hz2⟩ := info_parts infoIR
  have hel : Tryd.prog.elem 87 = 116 := by simp [Program.elem, Tryd.underlying87]
  have hu : Tryd.prog.underlying 87 = some (.slice (Tryd.prog.elem 87)) := by rw [hel]; exact Tryd.underlying87
  refine ⟨A, fun W => ?_, fun w q h => h.take m (by obtain ⟨_, _, e, _⟩ := h; cases e; exact hm)⟩
  rw [run_slice_h W 87 A n c hu .i64 (m : Int) (Int.natCast_nonneg _) (by omega)]
  have hA : A.map (·.add 0) = A := by cases A <;> rfl
  simp [hel, sizeOf, typeInfo, hi, hz1, sliced, Result.andThen, hA]
theorem QRef.cap {w : World} {A : Option Addr} {n c : Nat} {q : List It} (h : QRef w (.slice A n c) q) : n = q.length ∧ n ≤ c := by
  obtain ⟨_, _, e, h1, _⟩ := h
  cases e
  exact ⟨rfl, h1⟩
theorem run_sl {o : Oper} {a : Act} {W : World} {v r : Value} {lo hi mx : Option Value} (x : Operand) (l h m : Option Operand) (ho : o.op = .slice 87 x l h m) (hx : a.eval x = v) (hl : l.map a.eval = lo) (hh : h.map a.eval = hi) (hm : m.map a.eval = mx) (hr : (Instr.slice 87 v lo hi mx).run Tryd.prog W = .ok r W) : (execOp a.eval o).run Tryd.prog W = .ok (.value r) W := by
  subst hl hh hm hx
  unfold execOp
  have hu : Tryd.prog.underlying 87 = some (.slice (Tryd.prog.elem 87)) := by
    have hel : Tryd.prog.elem 87 = 116 := by simp [Program.elem, Tryd.underlying87]
    rw [hel]; exact Tryd.underlying87
  simp only [ho, Sem.run_bind, run_sliceAt_slice _ _ _ _ _ _ hu, hr, Result.andThen_ok, Sem.run_pure]
set_option maxHeartbeats 8000000 in
set_option maxRecDepth 100000 in
theorem drop_r {w : World} {v : Value} {s : Nt} (h : NRef w v s) (hn : s.n ≤ 16) (hq : ∀ k, k < s.n → (s.h k).q.length < 900000000000) (i j : Int) : Calls Tryd.prog 56 #[v, .int .i64 i, .int .i64 j] w fun e w' => ∃ v', e = .returned (.tuple #[v', .int .i64 (s.placeE i j)]) ∧ NRef w' v' (s.drop i j) ∧ Below w.heap.size w w' := by
  obtain ⟨E, hE⟩ : ∃ E, E = s.placeE i j := ⟨_, rfl⟩
  have HE : Hid (s.placeE i j = E) := Lib.hid hE.symm
  by_cases hE0 : E = 0
  rotate_left
  · have hEn : (E != 0) = true := bne_iff_ne.2 hE0
    have hS : s.drop i j = s := if_neg (by rw [← hE]; exact hE0)
    rw [hS, ← hE]
    clear hS hE hE0 hq
    obtain ⟨b, c, rfl, hc, _⟩ := h.parts
    have HN := Lib.hid h
    have H16 := Lib.hid hn
    obtain ⟨n, hnn⟩ : ∃ n, n = s.n := ⟨_, rfl⟩
    obtain ⟨now, hnow⟩ : ∃ z, z = s.now := ⟨_, rfl⟩
    rw [← hnn, ← hnow] at HN ⊢
    rw [← hnn] at hc
    have HB0 := Lib.hid (Bs.start w)
    clear h hn hnn hnow
    go_enter Tryd.func56, Tryd.ntmps56
    go_upto_region 2 with (first
      | ((with_reducible refine gate_dst (N := 3) rfl ?_); refine wp_bx HB0.out (t := 40) (cs := [.int .i64 now, .slice (some ⟨b, 0, none⟩) n c]) rfl (.tmp 0) rfl rfl ?_; intro g2 w1 hb HB1; clear hb HB0)
      | ((with_reducible refine gate_dst (N := 6) rfl ?_); refine wp_al HB1.out (t := 40) rfl rfl al_T ?_; intro g4 w2 hb HB2; clear hb HB1)
      | ((with_reducible refine gate_dst (N := 9) rfl ?_); refine wp_ld HB2.out 1 rfl rfl (.tmp 3) rfl rfl Tryd.underlying40 (by kernel_rfl) ?_)
      | (go_at_call 65; ((with_reducible refine (place_r (HN.out.below HB2.out.B) H16.out i j).mono ?_); rintro e w3 ⟨rfl, hb⟩; rw [HE.out]; have HB3 := Lib.hid (HB2.out.below hb); clear hb)))
    clear hEn
    refine start_ (n := 7) (S := fun w' => Bs w w' [(g4, 40, [.int .i64 0, .slice none 0 0]), (g2, 40, [.int .i64 now, .slice (some ⟨b, 0, none⟩) n c])]) (ds := [5]) #[false, false, false, false, false, false, false] (by kernel_rfl) rfl rfl (HB3.out.below (Below.refl _ _).drew) (fun hHeld => ?_)
    refine take_ (i := 0) (N := some 14) (v := .agg #[.int .i64 now, .slice (some ⟨b, 0, none⟩) n c]) (bm_ 7 0x1) rfl rfl (by kernel_rfl) (fun _ _ _ h => h) (Or.inl ⟨by rfl, fun w' hs => run_ldb (hs.get 1 rfl) (.tmp 3) rfl rfl Tryd.underlying40 (by kernel_rfl)⟩) hHeld rfl ?_
    refine nm_ 14 ?_
    refine take_ (i := 1) (N := some 15) (v := .agg #[.int .i64 now, .slice (some ⟨b, 0, none⟩) n c]) (bm_ 7 0x3) rfl rfl (by kernel_rfl) (fun _ _ _ h => h) (Or.inl ⟨by rfl, fun w' hs => run_ldb (hs.get 1 rfl) (.tmp 3) rfl rfl Tryd.underlying40 (by kernel_rfl)⟩) hHeld rfl ?_
    refine nm_ 15 ?_
    refine pu_ 2 16 (bm_ 7 0x7) ?_
    refine pu_ 3 17 (bm_ 7 0xf) ?_
    refine on_ 4 (some 18) (bm_ 7 0x1f) fun K hK => ?_
    refine gd_ Tryd.func65 (place_r (HN.out.below hHeld.B) H16.out i j) ?_
    rintro e w10 ⟨rfl, hb⟩
    rw [HE.out]
    refine ⟨_, rfl, ?_⟩
    have hB10 := hHeld.below hb
    clear hb
    refine hK.out _ _ hB10 (fun hHeldB => ?_)
    clear hK K hHeld hB10
    refine nm_ 18 ?_
    refine la_ 5 none (bm_ 7 0x3f) fun K hK => ?_
    refine skip_ (by rfl) rfl (w1 := w10.setCells g4 0 [.int .i64 now, .slice (some ⟨b, 0, none⟩) n c]) (run_stb (hHeldB.get 0 rfl) rfl rfl rfl (by kernel_rfl) (Nat.le_refl _) (o_cons rfl (o_cons rfl o_nil))) ?_
    refine hK.out _ _ ?_
    have HBN : Hid (Bs w (w10.setCells g4 0 [.int .i64 now, .slice (some ⟨b, 0, none⟩) n c]) [(g4, 40, [.int .i64 now, .slice (some ⟨b, 0, none⟩) n c]), (g2, 40, [.int .i64 now, .slice (some ⟨b, 0, none⟩) n c])]) := Lib.hid (by
      have := hHeldB.seg 0 rfl 0 [.int .i64 now, .slice (some ⟨b, 0, none⟩) n c] (Nat.le_refl _)
      exact this)
    generalize (w10.setCells g4 0 [.int .i64 now, .slice (some ⟨b, 0, none⟩) n c]) = w99 at HBN ⊢
    clear hK K hHeldB
    refine pu_ 6 7 (bm_ 7 0x7f) ?_
    refine done_ (by kernel_rfl) ?_
    go_wp2
    refine bodyPost_ret (results_ct rfl _ _ g4 _ _ _ _ rfl (HBN.out.get 0 rfl) Tryd.underlying40 rfl (show (Tryd.prog.info? 40).map (·.size) = some 2 by kernel_rfl)) rfl ?_
    exact ⟨_, rfl, HN.out.below HBN.out.B, HBN.out.B⟩
  have hp : s.placeE i j = 0 := hE.symm.trans hE0
  obtain ⟨k, m, rfl, rfl, hk, hmq⟩ := place_at hp
  have hEn : (E != 0) = false := by rw [hE0]; rfl
  have hS : s.drop (k : Int) (m : Int) = s.put k { s.h k with q := (s.h k).q.take m ++ (s.h k).q.drop (m + 1) } := (if_pos hp).trans (by rw [Int.toNat_natCast, Int.toNat_natCast])
  rw [hS, hp]
  have HQL := Lib.hid (hq k hk)
  clear hS hE hE0 hq hp
  obtain ⟨b, c, FA, fl, fc, QA, ql, qc, rfl, hc, hblt, hx, hrow⟩ := h.host hk
  have HN := Lib.hid h
  have H16 := Lib.hid hn
  have HK := Lib.hid hk
  have HX := Lib.hid hx
  have HR := Lib.hid (And.intro hblt hrow)
  obtain ⟨x, hxx⟩ : ∃ x, x = s.h k := ⟨_, rfl⟩
  have HXX := Lib.hid hxx
  rw [← hxx] at HX HR
  obtain ⟨n, hnn⟩ : ∃ n, n = s.n := ⟨_, rfl⟩
  obtain ⟨now, hnow⟩ : ∃ z, z = s.now := ⟨_, rfl⟩
  have HNN := Lib.hid (And.intro hnn hnow)
  rw [← hnn, ← hnow] at HN ⊢
  rw [← hnn] at hc
  have hkn : k < n := by rw [hnn]; exact hk
  obtain ⟨i0, i1⟩ : (0 : Int) ≤ (k : Int) ∧ (k : Int) < (n : Int) := by omega
  have e0 : decide ((0 : Int) ≤ (k : Int)) = true := decide_eq_true i0
  have e1 : decide ((k : Int) < (n : Int)) = true := decide_eq_true i1
  have HB0 := Lib.hid (Bs.start w)
  clear h hn hk hx hrow hblt hxx hnn hnow
  rw [← HXX.out] at HQL hmq
  obtain ⟨hql, hqc⟩ := HX.out.2.cap
  have hmql : m < ql := by rw [hql]; exact hmq
  have hA4 : ∀ (w : World) (q : List It), QRd w (.slice QA ql qc) q → QRd w (.slice QA (m) qc) (q.take (m)) := fun w q h => h.take _ (by obtain ⟨_, _, e, _⟩ := h; cases e; omega)
  obtain ⟨A5, hcut5, hA5⟩ := qcut_l QA ql qc (m + 1) (by omega)
  have H4 := Lib.hid (And.intro hA4 hA5)
  have HCUT5 := Lib.hid hcut5
  have HQN := Lib.hid hql
  have hqc2 : ql ≤ qc := hqc
  clear hA4 hA5 hcut5 hql hqc hmq
  have hw1 : wrap64 ((m : Int) + 1) = ((m + 1 : Nat) : Int) := by have := HQL.out; have := HQN.out; unfold wrap64; omega
  have HW1 := Lib.hid hw1
  clear hw1
  go_enter Tryd.func56, Tryd.ntmps56
  go_upto_region 3 with (first
    | ((with_reducible refine gate_dst (N := 3) rfl ?_); refine wp_bx HB0.out (t := 40) (cs := [.int .i64 now, .slice (some ⟨b, 0, none⟩) n c]) rfl (.tmp 0) rfl rfl ?_; intro g2 w1 hb HB1; clear hb HB0)
    | ((with_reducible refine gate_dst (N := 6) rfl ?_); refine wp_al HB1.out (t := 40) rfl rfl al_T ?_; intro g4 w2 hb HB2; clear hb HB1)
    | ((with_reducible refine gate_dst (N := 9) rfl ?_); refine wp_ld HB2.out 1 rfl rfl (.tmp 3) rfl rfl Tryd.underlying40 (by kernel_rfl) ?_)
    | (go_at_call 65; ((with_reducible refine (place_r (HN.out.below HB2.out.B) H16.out k m).mono ?_); rintro e w3 ⟨rfl, hb⟩; rw [HE.out]; have HB3 := Lib.hid (HB2.out.below hb); clear hb)))
  have a1 : w3.cell? ⟨g2, 1, none⟩ = some (.slice (some ⟨b, 0, none⟩) n c) := (HB3.out.get 1 rfl).cell 1
  have r0 : w3.cell? ⟨b, k * 7, none⟩ = some (.bool x.there) := (HB3.out.B.cell (p := ⟨b, _, none⟩) HR.out.1).trans (HR.out.2 0 (by omega))
  have r1 : w3.cell? ⟨b, k * 7 + 1, none⟩ = some (.int .i64 x.level) := (HB3.out.B.cell (p := ⟨b, _, none⟩) HR.out.1).trans (HR.out.2 1 (by omega))
  have r2 : w3.cell? ⟨b, k * 7 + 2, none⟩ = some (.slice FA fl fc) := (HB3.out.B.cell (p := ⟨b, _, none⟩) HR.out.1).trans (HR.out.2 2 (by omega))
  have r3 : w3.cell? ⟨b, k * 7 + 3, none⟩ = some (.int .i64 x.graft) := (HB3.out.B.cell (p := ⟨b, _, none⟩) HR.out.1).trans (HR.out.2 3 (by omega))
  have r4 : w3.cell? ⟨b, k * 7 + 4, none⟩ = some (.int .i64 x.cap) := (HB3.out.B.cell (p := ⟨b, _, none⟩) HR.out.1).trans (HR.out.2 4 (by omega))
  have r5 : w3.cell? ⟨b, k * 7 + 5, none⟩ = some (.int .i64 x.got) := (HB3.out.B.cell (p := ⟨b, _, none⟩) HR.out.1).trans (HR.out.2 5 (by omega))
  have r6 : w3.cell? ⟨b, k * 7 + 6, none⟩ = some (.slice QA ql qc) := (HB3.out.B.cell (p := ⟨b, _, none⟩) HR.out.1).trans (HR.out.2 6 (by omega))
  have l3 : g2 < w3.heap.size := (HB3.out.get 1 rfl).lt
  have l4 : b < w3.heap.size := Nat.lt_of_lt_of_le HR.out.1 HB3.out.B.size
  go_upto_region 4 with (first
    | (at_builtin; refine wp_qapp (B := w.heap.size) (q := []) (q2 := x.q.take (m)) rfl (.tmp 19) (.tmp 27) rfl rfl rfl (QOwn.empty HB3.out.B.size) ((H4.out.1 _ _ HX.out.2.rd).below (HB3.out.B.alloc HB3.out.B.size _)) (by have := HQL.out; simp only [List.length_nil, List.length_take]; omega) (Nat.le_trans HB3.out.B.size (by simp)) ?_; intro A7 L7 c7 w7 HQ7 hg7))
  have HB4 : Hid (Bs w w7 [(g4, 40, [.int .i64 0, .slice none 0 0]), (g2, 40, [.int .i64 now, .slice (some ⟨b, 0, none⟩) n c])]) := Lib.hid ((HB3.out.below (below_alloc (Below.refl _ _) _)).grown hg7.out (own_block (QOwn.empty HB3.out.B.size)) (by intro b hb; simp only [List.mem_cons, List.not_mem_nil, or_false] at hb; rcases hb with rfl | rfl <;> (dsimp only; decide)))
  clear hg7 HB3
  clear l3 l4 a1 r0 r1 r2 r3 r4 r5 r6
  have HS : Hid (∀ W, Bs w W [(g4, 40, [.int .i64 0, .slice none 0 0]), (g2, 40, [.int .i64 now, .slice (some ⟨b, 0, none⟩) n c])] → Bs w W [(g4, 40, [.int .i64 0, .slice none 0 0]), (g2, 40, [.int .i64 now, .slice (some ⟨b, 0, none⟩) n c])] ∧ W.cell? ⟨g2, 1, none⟩ = some (.slice (some ⟨b, 0, none⟩) n c) ∧ W.cell? ⟨b, k * 7 + 6, none⟩ = some (.slice QA ql qc)) := Lib.hid (fun W hs => ⟨hs, (hs.get 1 rfl).cell 1, (hs.B.cell (p := ⟨b, _, none⟩) HR.out.1).trans (HR.out.2 6 (by omega))⟩)
  refine start_ (n := 16) (S := fun w' => Bs w w' [(g4, 40, [.int .i64 0, .slice none 0 0]), (g2, 40, [.int .i64 now, .slice (some ⟨b, 0, none⟩) n c])] ∧ w'.cell? ⟨g2, 1, none⟩ = some (.slice (some ⟨b, 0, none⟩) n c) ∧ w'.cell? ⟨b, k * 7 + 6, none⟩ = some (.slice QA ql qc)) (ds := [14]) #[false, false, false, false, false, false, false, false, false, false, false, false, false, false, false, false] (by kernel_rfl) rfl rfl (HS.out _ (HB4.out.below (Below.refl _ _).drew)) (fun hHeld => ?_)
  refine take_ (i := 0) (N := some 29) (v := .agg #[.int .i64 now, .slice (some ⟨b, 0, none⟩) n c]) (bm_ 16 0x1) rfl rfl (by kernel_rfl) (fun _ _ _ h => h) (Or.inl ⟨by rfl, fun w' hs => run_ldb (hs.1.get 1 rfl) (.tmp 3) rfl rfl Tryd.underlying40 (by kernel_rfl)⟩) hHeld rfl ?_
  refine nm_ 29 ?_
  refine pu_ 1 30 (bm_ 16 0x3) ?_
  refine pu_ 2 31 (bm_ 16 0x7) ?_
  refine pu_ 3 32 (bm_ 16 0xf) ?_
  refine tk_ 4 33 (bm_ 16 0x1f) hHeld ?_
  refine pu_ 5 34 (bm_ 16 0x3f) ?_
  refine pu_ 6 35 (bm_ 16 0x7f) ?_
  refine pu_ 7 36 (bm_ 16 0xff) ?_
  refine tk_ 8 37 (bm_ 16 0x1ff) hHeld ?_
  refine pu_ 9 38 (bm_ 16 0x3ff) ?_
  refine pu_ 10 39 (bm_ 16 0x7ff) ?_
  refine take_ (i := 11) (N := some 40) (v := .slice A5 (ql - (m + 1)) (qc - (m + 1))) (bm_ 16 0xfff) rfl rfl (by kernel_rfl) (fun _ _ _ h => h) (Or.inl ⟨by rfl, fun w' hs => run_sl (lo := some (.int .i64 ((m + 1 : Nat) : Int))) (.tmp 37) (some (.tmp 39)) none none rfl rfl (by simp [Act.eval, HW1.out]) rfl rfl (HCUT5.out _)⟩) hHeld rfl ?_
  refine nm_ 40 ?_
  refine on_ 12 (some 41) (bm_ 16 0x1fff) fun K hK => ?_
  obtain ⟨v9, w9, hr9, ho9, hg9⟩ := (HQ7.out.below (w' := w7.drew) (Below.refl _ _).drew).app (q2 := x.q.drop (m + 1)) ((H4.out.2 _ _ HX.out.2.rd).below (hHeld.1.B)) (by have := HQL.out; rw [List.nil_append, List.length_take, List.length_drop]; omega) hHeld.1.B.size 87
  rw [List.nil_append] at ho9
  obtain ⟨A9, c9, rfl, _⟩ := ho9.form
  have hB9 := hHeld.1.grown hg9 (own_block (HQ7.out.below (w' := w7.drew) (Below.refl _ _).drew)) (by intro b hb; simp only [List.mem_cons, List.not_mem_nil, or_false] at hb; rcases hb with rfl | rfl <;> (dsimp only; decide))
  have HQ9 := Lib.hid ho9
  refine value_ (by rfl) rfl (run_app rfl (by rfl) (by rfl) hr9) ?_
  refine hK.out _ _ (HS.out _ hB9) (fun hHeldC => ?_)
  clear hK K hHeld hr9 hg9 ho9 hB9 HQ7
  refine nm_ 41 ?_
  refine on_ 13 (some 42) (bm_ 16 0x3fff) fun K hK => ?_
  refine gd_ Tryd.func66 (queue_r (HN.out.below hHeldC.1.B) H16.out k HK.out A9 _ c9 (x.q.take (m) ++ x.q.drop (m + 1)) HQ9.out.ref) ?_
  rintro e w10 ⟨v', rfl, hv, hb⟩
  obtain ⟨b5, c5, rfl, hc5⟩ := hv.spell (now := now) (n := n) HNN.out.2 HNN.out.1
  refine ⟨_, rfl, ?_⟩
  have hB10 := hHeldC.1.below hb
  have HV := Lib.hid hv
  clear hb hv hc5
  refine hK.out _ _ (HS.out _ hB10) (fun hHeldB => ?_)
  clear hK K hHeldC hB10 HQ9
  refine nm_ 42 ?_
  refine la_ 14 none (bm_ 16 0x7fff) fun K hK => ?_
  refine skip_ (by rfl) rfl (w1 := w10.setCells g4 0 [Value.int .i64 now, .slice (some ⟨b5, 0, none⟩) n c5]) (run_stb (hHeldB.1.get 0 rfl) rfl rfl rfl (by kernel_rfl) (Nat.le_refl _) (o_cons rfl (o_cons rfl o_nil))) ?_
  refine hK.out _ _ ?_
  have HBN : Hid (Bs w (w10.setCells g4 0 [Value.int .i64 now, .slice (some ⟨b5, 0, none⟩) n c5]) [(g4, 40, [Value.int .i64 now, .slice (some ⟨b5, 0, none⟩) n c5]), (g2, 40, [.int .i64 now, .slice (some ⟨b, 0, none⟩) n c])]) := Lib.hid (by
    have := hHeldB.1.seg 0 rfl 0 [Value.int .i64 now, .slice (some ⟨b5, 0, none⟩) n c5] (Nat.le_refl _)
    exact this)
  have HVN := Lib.hid (HV.out.st ⟨hHeldB.1.get 0 rfl, (setCells_blk w10 g4 [Value.int .i64 now, .slice (some ⟨b5, 0, none⟩) n c5] 0).2.2.2.2⟩)
  generalize (w10.setCells g4 0 [Value.int .i64 now, .slice (some ⟨b5, 0, none⟩) n c5]) = w99 at HBN HVN ⊢
  clear hK K hHeldB HV
  refine pu_ 15 7 (bm_ 16 0xffff) ?_
  refine done_ (by kernel_rfl) ?_
  go_wp2
  refine bodyPost_ret (results_ct rfl _ _ g4 _ _ _ _ rfl (HBN.out.get 0 rfl) Tryd.underlying40 rfl (show (Tryd.prog.info? 40).map (·.size) = some 2 by kernel_rfl)) rfl ?_
  exact ⟨_, rfl, by have hh := HVN.out; rw [← HXX.out] at hh; rw [← HXX.out]; exact hh, HBN.out.B⟩
set_option maxHeartbeats 8000000 in
set_option maxRecDepth 100000 in
theorem double_r {w : World} {v : Value} {s : Nt} (h : NRef w v s) (hn : s.n ≤ 16) (hq : ∀ k, k < s.n → (s.h k).q.length < 900000000000) (i j : Int) : Calls Tryd.prog 57 #[v, .int .i64 i, .int .i64 j] w fun e w' => ∃ v', e = .returned (.tuple #[v', .int .i64 (s.placeE i j)]) ∧ NRef w' v' (s.double i j) ∧ Below w.heap.size w w' := by
  obtain ⟨E, hE⟩ : ∃ E, E = s.placeE i j := ⟨_, rfl⟩
  have HE : Hid (s.placeE i j = E) := Lib.hid hE.symm
  by_cases hE0 : E = 0
  rotate_left
  · have hEn : (E != 0) = true := bne_iff_ne.2 hE0
    have hS : s.double i j = s := if_neg (by rw [← hE]; exact hE0)
    rw [hS, ← hE]
    clear hS hE hE0 hq
    obtain ⟨b, c, rfl, hc, _⟩ := h.parts
    have HN := Lib.hid h
    have H16 := Lib.hid hn
    obtain ⟨n, hnn⟩ : ∃ n, n = s.n := ⟨_, rfl⟩
    obtain ⟨now, hnow⟩ : ∃ z, z = s.now := ⟨_, rfl⟩
    rw [← hnn, ← hnow] at HN ⊢
    rw [← hnn] at hc
    have HB0 := Lib.hid (Bs.start w)
    clear h hn hnn hnow
    go_enter Tryd.func57, Tryd.ntmps57
    go_upto_region 2 with (first
      | ((with_reducible refine gate_dst (N := 3) rfl ?_); refine wp_bx HB0.out (t := 40) (cs := [.int .i64 now, .slice (some ⟨b, 0, none⟩) n c]) rfl (.tmp 0) rfl rfl ?_; intro g2 w1 hb HB1; clear hb HB0)
      | ((with_reducible refine gate_dst (N := 6) rfl ?_); refine wp_al HB1.out (t := 40) rfl rfl al_T ?_; intro g4 w2 hb HB2; clear hb HB1)
      | ((with_reducible refine gate_dst (N := 9) rfl ?_); refine wp_ld HB2.out 1 rfl rfl (.tmp 3) rfl rfl Tryd.underlying40 (by kernel_rfl) ?_)
      | (go_at_call 65; ((with_reducible refine (place_r (HN.out.below HB2.out.B) H16.out i j).mono ?_); rintro e w3 ⟨rfl, hb⟩; rw [HE.out]; have HB3 := Lib.hid (HB2.out.below hb); clear hb)))
    clear hEn
    refine start_ (n := 7) (S := fun w' => Bs w w' [(g4, 40, [.int .i64 0, .slice none 0 0]), (g2, 40, [.int .i64 now, .slice (some ⟨b, 0, none⟩) n c])]) (ds := [5]) #[false, false, false, false, false, false, false] (by kernel_rfl) rfl rfl (HB3.out.below (Below.refl _ _).drew) (fun hHeld => ?_)
    refine take_ (i := 0) (N := some 14) (v := .agg #[.int .i64 now, .slice (some ⟨b, 0, none⟩) n c]) (bm_ 7 0x1) rfl rfl (by kernel_rfl) (fun _ _ _ h => h) (Or.inl ⟨by rfl, fun w' hs => run_ldb (hs.get 1 rfl) (.tmp 3) rfl rfl Tryd.underlying40 (by kernel_rfl)⟩) hHeld rfl ?_
    refine nm_ 14 ?_
    refine take_ (i := 1) (N := some 15) (v := .agg #[.int .i64 now, .slice (some ⟨b, 0, none⟩) n c]) (bm_ 7 0x3) rfl rfl (by kernel_rfl) (fun _ _ _ h => h) (Or.inl ⟨by rfl, fun w' hs => run_ldb (hs.get 1 rfl) (.tmp 3) rfl rfl Tryd.underlying40 (by kernel_rfl)⟩) hHeld rfl ?_
    refine nm_ 15 ?_
    refine pu_ 2 16 (bm_ 7 0x7) ?_
    refine pu_ 3 17 (bm_ 7 0xf) ?_
    refine on_ 4 (some 18) (bm_ 7 0x1f) fun K hK => ?_
    refine gd_ Tryd.func65 (place_r (HN.out.below hHeld.B) H16.out i j) ?_
    rintro e w10 ⟨rfl, hb⟩
    rw [HE.out]
    refine ⟨_, rfl, ?_⟩
    have hB10 := hHeld.below hb
    clear hb
    refine hK.out _ _ hB10 (fun hHeldB => ?_)
    clear hK K hHeld hB10
    refine nm_ 18 ?_
    refine la_ 5 none (bm_ 7 0x3f) fun K hK => ?_
    refine skip_ (by rfl) rfl (w1 := w10.setCells g4 0 [.int .i64 now, .slice (some ⟨b, 0, none⟩) n c]) (run_stb (hHeldB.get 0 rfl) rfl rfl rfl (by kernel_rfl) (Nat.le_refl _) (o_cons rfl (o_cons rfl o_nil))) ?_
    refine hK.out _ _ ?_
    have HBN : Hid (Bs w (w10.setCells g4 0 [.int .i64 now, .slice (some ⟨b, 0, none⟩) n c]) [(g4, 40, [.int .i64 now, .slice (some ⟨b, 0, none⟩) n c]), (g2, 40, [.int .i64 now, .slice (some ⟨b, 0, none⟩) n c])]) := Lib.hid (by
      have := hHeldB.seg 0 rfl 0 [.int .i64 now, .slice (some ⟨b, 0, none⟩) n c] (Nat.le_refl _)
      exact this)
    generalize (w10.setCells g4 0 [.int .i64 now, .slice (some ⟨b, 0, none⟩) n c]) = w99 at HBN ⊢
    clear hK K hHeldB
    refine pu_ 6 7 (bm_ 7 0x7f) ?_
    refine done_ (by kernel_rfl) ?_
    go_wp2
    refine bodyPost_ret (results_ct rfl _ _ g4 _ _ _ _ rfl (HBN.out.get 0 rfl) Tryd.underlying40 rfl (show (Tryd.prog.info? 40).map (·.size) = some 2 by kernel_rfl)) rfl ?_
    exact ⟨_, rfl, HN.out.below HBN.out.B, HBN.out.B⟩
  have hp : s.placeE i j = 0 := hE.symm.trans hE0
  obtain ⟨k, m, rfl, rfl, hk, hmq⟩ := place_at hp
  have hEn : (E != 0) = false := by rw [hE0]; rfl
  have hS : s.double (k : Int) (m : Int) = s.put k { s.h k with q := (s.h k).q.take (m + 1) ++ (s.h k).q.drop m } := (if_pos hp).trans (by rw [Int.toNat_natCast, Int.toNat_natCast])
  rw [hS, hp]
  have HQL := Lib.hid (hq k hk)
  clear hS hE hE0 hq hp
  obtain ⟨b, c, FA, fl, fc, QA, ql, qc, rfl, hc, hblt, hx, hrow⟩ := h.host hk
  have HN := Lib.hid h
  have H16 := Lib.hid hn
  have HK := Lib.hid hk
  have HX := Lib.hid hx
  have HR := Lib.hid (And.intro hblt hrow)
  obtain ⟨x, hxx⟩ : ∃ x, x = s.h k := ⟨_, rfl⟩
  have HXX := Lib.hid hxx
  rw [← hxx] at HX HR
  obtain ⟨n, hnn⟩ : ∃ n, n = s.n := ⟨_, rfl⟩
  obtain ⟨now, hnow⟩ : ∃ z, z = s.now := ⟨_, rfl⟩
  have HNN := Lib.hid (And.intro hnn hnow)
  rw [← hnn, ← hnow] at HN ⊢
  rw [← hnn] at hc
  have hkn : k < n := by rw [hnn]; exact hk
  obtain ⟨i0, i1⟩ : (0 : Int) ≤ (k : Int) ∧ (k : Int) < (n : Int) := by omega
  have e0 : decide ((0 : Int) ≤ (k : Int)) = true := decide_eq_true i0
  have e1 : decide ((k : Int) < (n : Int)) = true := decide_eq_true i1
  have HB0 := Lib.hid (Bs.start w)
  clear h hn hk hx hrow hblt hxx hnn hnow
  rw [← HXX.out] at HQL hmq
  obtain ⟨hql, hqc⟩ := HX.out.2.cap
  have hmql : m < ql := by rw [hql]; exact hmq
  have hA4 : ∀ (w : World) (q : List It), QRd w (.slice QA ql qc) q → QRd w (.slice QA (m + 1) qc) (q.take (m + 1)) := fun w q h => h.take _ (by obtain ⟨_, _, e, _⟩ := h; cases e; omega)
  obtain ⟨A5, hcut5, hA5⟩ := qcut_l QA ql qc (m) (by omega)
  have H4 := Lib.hid (And.intro hA4 hA5)
  have HCUT5 := Lib.hid hcut5
  have HQN := Lib.hid hql
  have hqc2 : ql ≤ qc := hqc
  clear hA4 hA5 hcut5 hql hqc hmq
  have hw1 : wrap64 ((m : Int) + 1) = ((m + 1 : Nat) : Int) := by have := HQL.out; have := HQN.out; unfold wrap64; omega
  have HW1 := Lib.hid hw1
  skip
  go_enter Tryd.func57, Tryd.ntmps57
  go_upto_region 3 with (first
    | ((with_reducible refine gate_dst (N := 3) rfl ?_); refine wp_bx HB0.out (t := 40) (cs := [.int .i64 now, .slice (some ⟨b, 0, none⟩) n c]) rfl (.tmp 0) rfl rfl ?_; intro g2 w1 hb HB1; clear hb HB0)
    | ((with_reducible refine gate_dst (N := 6) rfl ?_); refine wp_al HB1.out (t := 40) rfl rfl al_T ?_; intro g4 w2 hb HB2; clear hb HB1)
    | ((with_reducible refine gate_dst (N := 9) rfl ?_); refine wp_ld HB2.out 1 rfl rfl (.tmp 3) rfl rfl Tryd.underlying40 (by kernel_rfl) ?_)
    | (go_at_call 65; ((with_reducible refine (place_r (HN.out.below HB2.out.B) H16.out k m).mono ?_); rintro e w3 ⟨rfl, hb⟩; rw [HE.out]; have HB3 := Lib.hid (HB2.out.below hb); clear hb)))
  skip
  have a1 : w3.cell? ⟨g2, 1, none⟩ = some (.slice (some ⟨b, 0, none⟩) n c) := (HB3.out.get 1 rfl).cell 1
  have r0 : w3.cell? ⟨b, k * 7, none⟩ = some (.bool x.there) := (HB3.out.B.cell (p := ⟨b, _, none⟩) HR.out.1).trans (HR.out.2 0 (by omega))
  have r1 : w3.cell? ⟨b, k * 7 + 1, none⟩ = some (.int .i64 x.level) := (HB3.out.B.cell (p := ⟨b, _, none⟩) HR.out.1).trans (HR.out.2 1 (by omega))
  have r2 : w3.cell? ⟨b, k * 7 + 2, none⟩ = some (.slice FA fl fc) := (HB3.out.B.cell (p := ⟨b, _, none⟩) HR.out.1).trans (HR.out.2 2 (by omega))
  have r3 : w3.cell? ⟨b, k * 7 + 3, none⟩ = some (.int .i64 x.graft) := (HB3.out.B.cell (p := ⟨b, _, none⟩) HR.out.1).trans (HR.out.2 3 (by omega))
  have r4 : w3.cell? ⟨b, k * 7 + 4, none⟩ = some (.int .i64 x.cap) := (HB3.out.B.cell (p := ⟨b, _, none⟩) HR.out.1).trans (HR.out.2 4 (by omega))
  have r5 : w3.cell? ⟨b, k * 7 + 5, none⟩ = some (.int .i64 x.got) := (HB3.out.B.cell (p := ⟨b, _, none⟩) HR.out.1).trans (HR.out.2 5 (by omega))
  have r6 : w3.cell? ⟨b, k * 7 + 6, none⟩ = some (.slice QA ql qc) := (HB3.out.B.cell (p := ⟨b, _, none⟩) HR.out.1).trans (HR.out.2 6 (by omega))
  have l3 : g2 < w3.heap.size := (HB3.out.get 1 rfl).lt
  have l4 : b < w3.heap.size := Nat.lt_of_lt_of_le HR.out.1 HB3.out.B.size
  go_upto_region 4 with (first
    | (at_builtin; refine wp_qapp (B := w.heap.size) (q := []) (q2 := x.q.take (m + 1)) rfl (.tmp 19) (.tmp 28) rfl rfl rfl (QOwn.empty HB3.out.B.size) ((H4.out.1 _ _ HX.out.2.rd).below (HB3.out.B.alloc HB3.out.B.size _)) (by have := HQL.out; simp only [List.length_nil, List.length_take]; omega) (Nat.le_trans HB3.out.B.size (by simp)) ?_; intro A7 L7 c7 w7 HQ7 hg7))
  have HB4 : Hid (Bs w w7 [(g4, 40, [.int .i64 0, .slice none 0 0]), (g2, 40, [.int .i64 now, .slice (some ⟨b, 0, none⟩) n c])]) := Lib.hid ((HB3.out.below (below_alloc (Below.refl _ _) _)).grown hg7.out (own_block (QOwn.empty HB3.out.B.size)) (by intro b hb; simp only [List.mem_cons, List.not_mem_nil, or_false] at hb; rcases hb with rfl | rfl <;> (dsimp only; decide)))
  clear hg7 HB3
  clear l3 l4 hw1 a1 r0 r1 r2 r3 r4 r5 r6
  have HS : Hid (∀ W, Bs w W [(g4, 40, [.int .i64 0, .slice none 0 0]), (g2, 40, [.int .i64 now, .slice (some ⟨b, 0, none⟩) n c])] → Bs w W [(g4, 40, [.int .i64 0, .slice none 0 0]), (g2, 40, [.int .i64 now, .slice (some ⟨b, 0, none⟩) n c])] ∧ W.cell? ⟨g2, 1, none⟩ = some (.slice (some ⟨b, 0, none⟩) n c) ∧ W.cell? ⟨b, k * 7 + 6, none⟩ = some (.slice QA ql qc)) := Lib.hid (fun W hs => ⟨hs, (hs.get 1 rfl).cell 1, (hs.B.cell (p := ⟨b, _, none⟩) HR.out.1).trans (HR.out.2 6 (by omega))⟩)
  refine start_ (n := 15) (S := fun w' => Bs w w' [(g4, 40, [.int .i64 0, .slice none 0 0]), (g2, 40, [.int .i64 now, .slice (some ⟨b, 0, none⟩) n c])] ∧ w'.cell? ⟨g2, 1, none⟩ = some (.slice (some ⟨b, 0, none⟩) n c) ∧ w'.cell? ⟨b, k * 7 + 6, none⟩ = some (.slice QA ql qc)) (ds := [13]) #[false, false, false, false, false, false, false, false, false, false, false, false, false, false, false] (by kernel_rfl) rfl rfl (HS.out _ (HB4.out.below (Below.refl _ _).drew)) (fun hHeld => ?_)
  refine take_ (i := 0) (N := some 30) (v := .agg #[.int .i64 now, .slice (some ⟨b, 0, none⟩) n c]) (bm_ 15 0x1) rfl rfl (by kernel_rfl) (fun _ _ _ h => h) (Or.inl ⟨by rfl, fun w' hs => run_ldb (hs.1.get 1 rfl) (.tmp 3) rfl rfl Tryd.underlying40 (by kernel_rfl)⟩) hHeld rfl ?_
  refine nm_ 30 ?_
  refine pu_ 1 31 (bm_ 15 0x3) ?_
  refine pu_ 2 32 (bm_ 15 0x7) ?_
  refine pu_ 3 33 (bm_ 15 0xf) ?_
  refine tk_ 4 34 (bm_ 15 0x1f) hHeld ?_
  refine pu_ 5 35 (bm_ 15 0x3f) ?_
  refine pu_ 6 36 (bm_ 15 0x7f) ?_
  refine pu_ 7 37 (bm_ 15 0xff) ?_
  refine tk_ 8 38 (bm_ 15 0x1ff) hHeld ?_
  refine pu_ 9 39 (bm_ 15 0x3ff) ?_
  refine take_ (i := 10) (N := some 40) (v := .slice A5 (ql - m) (qc - m)) (bm_ 15 0x7ff) rfl rfl (by kernel_rfl) (fun _ _ _ h => h) (Or.inl ⟨by rfl, fun w' hs => run_sl (.tmp 38) (some (.tmp 39)) none none rfl rfl rfl rfl rfl (HCUT5.out _)⟩) hHeld rfl ?_
  refine nm_ 40 ?_
  refine on_ 11 (some 41) (bm_ 15 0xfff) fun K hK => ?_
  obtain ⟨v9, w9, hr9, ho9, hg9⟩ := (HQ7.out.below (w' := w7.drew) (Below.refl _ _).drew).app (q2 := x.q.drop (m)) ((H4.out.2 _ _ HX.out.2.rd).below (hHeld.1.B)) (by have := HQL.out; rw [List.nil_append, List.length_take, List.length_drop]; omega) hHeld.1.B.size 87
  rw [List.nil_append] at ho9
  obtain ⟨A9, c9, rfl, _⟩ := ho9.form
  have hB9 := hHeld.1.grown hg9 (own_block (HQ7.out.below (w' := w7.drew) (Below.refl _ _).drew)) (by intro b hb; simp only [List.mem_cons, List.not_mem_nil, or_false] at hb; rcases hb with rfl | rfl <;> (dsimp only; decide))
  have HQ9 := Lib.hid ho9
  refine value_ (by rfl) rfl (run_app rfl (by rfl) (by rfl) hr9) ?_
  refine hK.out _ _ (HS.out _ hB9) (fun hHeldC => ?_)
  clear hK K hHeld hr9 hg9 ho9 hB9 HQ7
  refine nm_ 41 ?_
  refine on_ 12 (some 42) (bm_ 15 0x1fff) fun K hK => ?_
  refine gd_ Tryd.func66 (queue_r (HN.out.below hHeldC.1.B) H16.out k HK.out A9 _ c9 (x.q.take (m + 1) ++ x.q.drop (m)) HQ9.out.ref) ?_
  rintro e w10 ⟨v', rfl, hv, hb⟩
  obtain ⟨b5, c5, rfl, hc5⟩ := hv.spell (now := now) (n := n) HNN.out.2 HNN.out.1
  refine ⟨_, rfl, ?_⟩
  have hB10 := hHeldC.1.below hb
  have HV := Lib.hid hv
  clear hb hv hc5
  refine hK.out _ _ (HS.out _ hB10) (fun hHeldB => ?_)
  clear hK K hHeldC hB10 HQ9
  refine nm_ 42 ?_
  refine la_ 13 none (bm_ 15 0x3fff) fun K hK => ?_
  refine skip_ (by rfl) rfl (w1 := w10.setCells g4 0 [Value.int .i64 now, .slice (some ⟨b5, 0, none⟩) n c5]) (run_stb (hHeldB.1.get 0 rfl) rfl rfl rfl (by kernel_rfl) (Nat.le_refl _) (o_cons rfl (o_cons rfl o_nil))) ?_
  refine hK.out _ _ ?_
  have HBN : Hid (Bs w (w10.setCells g4 0 [Value.int .i64 now, .slice (some ⟨b5, 0, none⟩) n c5]) [(g4, 40, [Value.int .i64 now, .slice (some ⟨b5, 0, none⟩) n c5]), (g2, 40, [.int .i64 now, .slice (some ⟨b, 0, none⟩) n c])]) := Lib.hid (by
    have := hHeldB.1.seg 0 rfl 0 [Value.int .i64 now, .slice (some ⟨b5, 0, none⟩) n c5] (Nat.le_refl _)
    exact this)
  have HVN := Lib.hid (HV.out.st ⟨hHeldB.1.get 0 rfl, (setCells_blk w10 g4 [Value.int .i64 now, .slice (some ⟨b5, 0, none⟩) n c5] 0).2.2.2.2⟩)
  generalize (w10.setCells g4 0 [Value.int .i64 now, .slice (some ⟨b5, 0, none⟩) n c5]) = w99 at HBN HVN ⊢
  clear hK K hHeldB HV
  refine pu_ 14 7 (bm_ 15 0x7fff) ?_
  refine done_ (by kernel_rfl) ?_
  go_wp2
  refine bodyPost_ret (results_ct rfl _ _ g4 _ _ _ _ rfl (HBN.out.get 0 rfl) Tryd.underlying40 rfl (show (Tryd.prog.info? 40).map (·.size) = some 2 by kernel_rfl)) rfl ?_
  exact ⟨_, rfl, by have hh := HVN.out; rw [← HXX.out] at hh; rw [← HXX.out]; exact hh, HBN.out.B⟩
end
section
open Go.RowKit Go.Deep Go.Proofs.YtpfpdbbgiimnmaaDoor.Er Go.Proofs.YtpfpdbbgiimnmaaDoor.Mod Go.Proofs.YtpfpdbbgiimnmaaDoorW.PrintWords Go.Proofs.YtpfpdbbgiimnmaaDoorW.PrintLast
theorem QOwn.open_ {B : Nat} {w : World} {A : Option Addr} {L c : Nat} {q : List It} (h : QOwn B w (.slice A L c) q) (hne : q ≠ []) : ∃ b cu, A = some ⟨b, 0, none⟩ ∧ B ≤ b ∧ L = q.length ∧ Bk w b 116 cu ∧ cu.take (q.length * 3) = itsC q ∧ q.length * 3 ≤ cu.length := by
  obtain ⟨hl, hv⟩ := h
  rcases hv with ⟨_, e⟩ | ⟨b, cap, cur, e, hb, hc, h1, h2, h3, h4⟩
  · exact absurd (List.length_eq_zero_iff.1 e) hne
  · cases e
    exact ⟨b, cur.toList, rfl, hb, rfl, hc, h4, by have e2 : cur.toList.length = cur.size := Array.length_toList; omega⟩
theorem QOwn.cells {B : Nat} {w : World} {b L c : Nat} {q : List It} (h : QOwn B w (.slice (some ⟨b, 0, none⟩) L c) q) (j : Nat) (y : It) (hj : q[j]? = some y) : w.cell? ⟨b, j * 3, none⟩ = some (.string (strOfNums y.b)) ∧ w.cell? ⟨b, j * 3 + 1, none⟩ = some (.int .i64 y.due) ∧ w.cell? ⟨b, j * 3 + 2, none⟩ = some (.bool y.sp) := by
  have hlt : j < q.length := (List.getElem?_eq_some_iff.1 hj).1
  obtain ⟨b', cu, e, _, _, hk, ht, _⟩ := h.open_ (by rintro rfl; simp at hlt)
  cases e
  have key : ∀ i, i < 3 → w.cell? ⟨b, j * 3 + i, none⟩ = (itR y)[i]? := fun i hi => by
    rw [hk.cell, ← itsC_at q j y i hj hi, ← ht, List.getElem?_take, if_pos (by omega)]
  exact ⟨key 0 (by omega), key 1 (by omega), key 2 (by omega)⟩
theorem QOwn.lenE {B : Nat} {w : World} {A : Option Addr} {L c : Nat} {q : List It} (h : QOwn B w (.slice A L c) q) : L = q.length := by
  obtain ⟨_, _, e, _⟩ := h.form
  cases e; rfl
/-- One item is written anew. -/
theorem QOwn.put {B : Nat} {w : World} {b L c : Nat} {q : List It} (h : QOwn B w (.slice (some ⟨b, 0, none⟩) L c) q) (j : Nat) (hj : j < q.length) (y : It) : QOwn B (w.setCells b (j * 3) (itR y)) (.slice (some ⟨b, 0, none⟩) L c) (q.set j y) ∧ w.grownBy (w.setCells b (j * 3) (itR y)) (some b) := by
  obtain ⟨s1, s2, s3, s4, s5⟩ := setCells_blk w b (itR y) (j * 3)
  refine ⟨?_, ⟨s2, s3, s4, by rw [s1]; exact Nat.le_refl _, fun k _ hk => s5 k (fun e => hk (by rw [e]))⟩⟩
  obtain ⟨hl, hv⟩ := h
  rcases hv with ⟨e, _⟩ | ⟨b', cap, cur, e, hb, hc, h1, h2, h3, h4⟩
  · cases e
  · cases e
    have h7 : (itR y).length = 3 := rfl
    obtain ⟨cur', c1, c2, c3⟩ := setCells_row (itR y) (j * 3) w cur hc (by rw [h3, h7]; omega)
    have hti : (cur.toList.take (j * 3)).length = j * 3 := by rw [List.length_take, Array.length_toList, h3]; omega
    refine ⟨by rw [itsC_len], .inr ⟨b, c, cur', by rw [List.length_set], hb, c1, by rw [List.length_set]; exact h1, h2, by rw [c2, h3], ?_⟩⟩
    rw [List.length_set, c3]
    apply List.ext_getElem?
    intro i
    by_cases hi : i < q.length * 3
    · rw [List.getElem?_take, if_pos hi]
      have hx : (q.set j y)[i / 3]? = some ((q.set j y)[i / 3]'(by rw [List.length_set]; omega)) := List.getElem?_eq_getElem _
      have e1 := itsC_at (q.set j y) (i / 3) _ (i % 3) hx (by omega)
      rw [show i / 3 * 3 + i % 3 = i by omega] at e1
      rw [e1]
      by_cases e : i / 3 = j
      · have ey : (q.set j y)[i / 3]'(by rw [List.length_set]; omega) = y := by simp [e]
        rw [ey, List.append_assoc, List.getElem?_append_right (by omega), hti, List.getElem?_append_left (by omega)]
        congr 1; omega
      · have hq2 : q[i / 3]? = some (q[i / 3]'(by omega)) := List.getElem?_eq_getElem _
        have ey : (q.set j y)[i / 3]'(by rw [List.length_set]; omega) = q[i / 3]'(by omega) := by
          rw [List.getElem_set, if_neg (fun h => e h.symm)]
        have e2 := itsC_at q (i / 3) _ (i % 3) hq2 (by omega)
        rw [show i / 3 * 3 + i % 3 = i by omega, ← h4, List.getElem?_take, if_pos hi] at e2
        rw [ey, ← e2]
        rcases Nat.lt_or_ge i (j * 3) with h | h
        · rw [List.append_assoc, List.getElem?_append_left (by omega), List.getElem?_take, if_pos h]
        · rw [List.getElem?_append_right (by rw [List.length_append, hti, h7]; omega), List.getElem?_drop, List.length_append, hti, h7]
          congr 1; omega
    · rw [List.getElem?_take, if_neg hi, List.getElem?_eq_none (by rw [itsC_len, List.length_set]; omega)]
theorem run_stq {B : Nat} {w : World} {b L c : Nat} {q : List It} (h : QOwn B w (.slice (some ⟨b, 0, none⟩) L c) q) (j : Nat) (hj : j < q.length) {y : It} {o : Oper} {a : Act} {x : Tmp} {u : Operand} (ho : o.op = .store 116 (.tmp x) u) (hx : a.eval (.tmp x) = .pointer (some ⟨b, j * 3, none⟩)) (hu : a.eval u = .agg (itR y).toArray) : (execOp a.eval o).run Tryd.prog w = .ok .skip (w.setCells b (j * 3) (itR y)) := by
  obtain ⟨b', cu, e, _, _, hk, _, hl⟩ := h.open_ (by rintro rfl; simp at hj)
  cases e
  exact run_stb hk ho hx hu (by kernel_rfl) (by simp [itR]; omega) (by intro z hz; simp only [itR, List.mem_cons, List.not_mem_nil, or_false] at hz; rcases hz with rfl | rfl | rfl <;> rfl)
theorem modify_set {q : List It} {j : Nat} {y : It} (h : q[j]? = some y) (f : It → It) : q.modify j f = q.set j (f y) := by
  apply List.ext_getElem?
  intro i
  rw [List.getElem?_modify, List.getElem?_set]
  by_cases e : j = i
  · subst e
    have hlt : j < q.length := (List.getElem?_eq_some_iff.1 h).1
    have hy : q[j] = y := (List.getElem?_eq_some_iff.1 h).2
    simp [hlt, hy]
  · simp [e]
set_option maxHeartbeats 8000000 in
set_option maxRecDepth 100000 in
theorem delay_r {w : World} {v : Value} {s : Nt} (h : NRef w v s) (hn : s.n ≤ 16) (hq : ∀ k, k < s.n → (s.h k).q.length < 900000000000) (hdue : ∀ k, k < s.n → ∀ y ∈ (s.h k).q, 0 ≤ y.due ∧ y.due < 5000000000000) (i j t : Int) : Calls Tryd.prog 58 #[v, .int .i64 i, .int .i64 j, .int .i64 t] w fun e w' => ∃ v', e = .returned (.tuple #[v', .int .i64 (s.delayE i j t)]) ∧ NRef w' v' (s.delay i j t) ∧ Below w.heap.size w w' := by
  obtain ⟨E, hE⟩ : ∃ E, E = s.placeE i j := ⟨_, rfl⟩
  have HE : Hid (s.placeE i j = E) := Lib.hid hE.symm
  by_cases hE0 : E = 0
  rotate_left
  · have hEn : (E != 0) = true := bne_iff_ne.2 hE0
    have hp : ¬ s.placeE i j = 0 := by rw [← hE]; exact hE0
    have hD : s.delayE i j t = E := (if_neg hp).trans hE.symm
    have hS : s.delay i j t = s := if_neg (by rw [hD]; exact hE0)
    rw [hS, hD]
    clear hS hE hE0 hq hdue hp hD
    obtain ⟨b, c, rfl, hc, _⟩ := h.parts
    have HN := Lib.hid h
    have H16 := Lib.hid hn
    obtain ⟨n, hnn⟩ : ∃ n, n = s.n := ⟨_, rfl⟩
    obtain ⟨now, hnow⟩ : ∃ z, z = s.now := ⟨_, rfl⟩
    rw [← hnn, ← hnow] at HN ⊢
    rw [← hnn] at hc
    have HB0 := Lib.hid (Bs.start w)
    clear h hn hnn hnow
    go_enter Tryd.func58, Tryd.ntmps58
    go_upto_region 2 with (first
      | ((with_reducible refine gate_dst (N := 4) rfl ?_); refine wp_bx HB0.out (t := 40) (cs := [.int .i64 now, .slice (some ⟨b, 0, none⟩) n c]) rfl (.tmp 0) rfl rfl ?_; intro g2 w1 hb HB1; clear hb HB0)
      | ((with_reducible refine gate_dst (N := 8) rfl ?_); refine wp_al HB1.out (t := 40) rfl rfl al_T ?_; intro g4 w2 hb HB2; clear hb HB1)
      | ((with_reducible refine gate_dst (N := 11) rfl ?_); refine wp_ld HB2.out 1 rfl rfl (.tmp 4) rfl rfl Tryd.underlying40 (by kernel_rfl) ?_)
      | (go_at_call 65; ((with_reducible refine (place_r (HN.out.below HB2.out.B) H16.out i j).mono ?_); rintro e w3 ⟨rfl, hb⟩; rw [HE.out]; have HB3 := Lib.hid (HB2.out.below hb); clear hb)))
    clear hEn
    refine start_ (n := 7) (S := fun w' => Bs w w' [(g4, 40, [.int .i64 0, .slice none 0 0]), (g2, 40, [.int .i64 now, .slice (some ⟨b, 0, none⟩) n c])]) (ds := [5]) #[false, false, false, false, false, false, false] (by kernel_rfl) rfl rfl (HB3.out.below (Below.refl _ _).drew) (fun hHeld => ?_)
    refine take_ (i := 0) (N := some 16) (v := .agg #[.int .i64 now, .slice (some ⟨b, 0, none⟩) n c]) (bm_ 7 0x1) rfl rfl (by kernel_rfl) (fun _ _ _ h => h) (Or.inl ⟨by rfl, fun w' hs => run_ldb (hs.get 1 rfl) (.tmp 4) rfl rfl Tryd.underlying40 (by kernel_rfl)⟩) hHeld rfl ?_
    refine nm_ 16 ?_
    refine take_ (i := 1) (N := some 17) (v := .agg #[.int .i64 now, .slice (some ⟨b, 0, none⟩) n c]) (bm_ 7 0x3) rfl rfl (by kernel_rfl) (fun _ _ _ h => h) (Or.inl ⟨by rfl, fun w' hs => run_ldb (hs.get 1 rfl) (.tmp 4) rfl rfl Tryd.underlying40 (by kernel_rfl)⟩) hHeld rfl ?_
    refine nm_ 17 ?_
    refine pu_ 2 18 (bm_ 7 0x7) ?_
    refine pu_ 3 19 (bm_ 7 0xf) ?_
    refine on_ 4 (some 20) (bm_ 7 0x1f) fun K hK => ?_
    refine gd_ Tryd.func65 (place_r (HN.out.below hHeld.B) H16.out i j) ?_
    rintro e w10 ⟨rfl, hb⟩
    rw [HE.out]
    refine ⟨_, rfl, ?_⟩
    have hB10 := hHeld.below hb
    clear hb
    refine hK.out _ _ hB10 (fun hHeldB => ?_)
    clear hK K hHeld hB10
    refine nm_ 20 ?_
    refine la_ 5 none (bm_ 7 0x3f) fun K hK => ?_
    refine skip_ (by rfl) rfl (w1 := w10.setCells g4 0 [.int .i64 now, .slice (some ⟨b, 0, none⟩) n c]) (run_stb (hHeldB.get 0 rfl) rfl rfl rfl (by kernel_rfl) (Nat.le_refl _) (o_cons rfl (o_cons rfl o_nil))) ?_
    refine hK.out _ _ ?_
    have HBN : Hid (Bs w (w10.setCells g4 0 [.int .i64 now, .slice (some ⟨b, 0, none⟩) n c]) [(g4, 40, [.int .i64 now, .slice (some ⟨b, 0, none⟩) n c]), (g2, 40, [.int .i64 now, .slice (some ⟨b, 0, none⟩) n c])]) := Lib.hid (by
      have := hHeldB.seg 0 rfl 0 [.int .i64 now, .slice (some ⟨b, 0, none⟩) n c] (Nat.le_refl _)
      exact this)
    generalize (w10.setCells g4 0 [.int .i64 now, .slice (some ⟨b, 0, none⟩) n c]) = w99 at HBN ⊢
    clear hK K hHeldB
    refine pu_ 6 9 (bm_ 7 0x7f) ?_
    refine done_ (by kernel_rfl) ?_
    go_wp2
    refine bodyPost_ret (results_ct rfl _ _ g4 _ _ _ _ rfl (HBN.out.get 0 rfl) Tryd.underlying40 rfl (show (Tryd.prog.info? 40).map (·.size) = some 2 by kernel_rfl)) rfl ?_
    exact ⟨_, rfl, HN.out.below HBN.out.B, HBN.out.B⟩
  have hp : s.placeE i j = 0 := hE.symm.trans hE0
  have hEn : (E != 0) = false := by rw [hE0]; rfl
  have hD0 : s.delayE i j t = if t < 0 ∨ 64 < t then 1 else 0 := if_pos hp
  obtain ⟨k, m, rfl, rfl, hk, hmq⟩ := place_at hp
  by_cases ht : t < 0 ∨ 64 < t
  · have hD : s.delayE (k : Int) (m : Int) t = 1 := hD0.trans (if_pos ht)
    have hS : s.delay (k : Int) (m : Int) t = s := if_neg (by rw [hD]; decide)
    rw [hS, hD]
    have ht2 : t < 0 ∨ (¬ t < 0 ∧ 64 < t) := by omega
    clear hS hE hE0 hq hdue hp hD hD0 hmq ht
    rcases ht2 with h1 | ⟨h1, h2⟩
    · skip
      have d1 : decide (t < (0 : Int)) = true := decide_eq_true h1
      clear h1
      obtain ⟨b, c, rfl, hc, _⟩ := h.parts
      have HN := Lib.hid h
      have H16 := Lib.hid hn
      obtain ⟨n, hnn⟩ : ∃ n, n = s.n := ⟨_, rfl⟩
      obtain ⟨now, hnow⟩ : ∃ z, z = s.now := ⟨_, rfl⟩
      rw [← hnn, ← hnow] at HN ⊢
      rw [← hnn] at hc
      have HB0 := Lib.hid (Bs.start w)
      clear h hn hnn hnow
      go_enter Tryd.func58, Tryd.ntmps58
      go_upto_region 4 with (first
        | ((with_reducible refine gate_dst (N := 4) rfl ?_); refine wp_bx HB0.out (t := 40) (cs := [.int .i64 now, .slice (some ⟨b, 0, none⟩) n c]) rfl (.tmp 0) rfl rfl ?_; intro g2 w1 hb HB1; clear hb HB0)
        | ((with_reducible refine gate_dst (N := 8) rfl ?_); refine wp_al HB1.out (t := 40) rfl rfl al_T ?_; intro g4 w2 hb HB2; clear hb HB1)
        | ((with_reducible refine gate_dst (N := 11) rfl ?_); refine wp_ld HB2.out 1 rfl rfl (.tmp 4) rfl rfl Tryd.underlying40 (by kernel_rfl) ?_)
        | (go_at_call 65; ((with_reducible refine (place_r (HN.out.below HB2.out.B) H16.out k m).mono ?_); rintro e w3 ⟨rfl, hb⟩; rw [HE.out]; have HB3 := Lib.hid (HB2.out.below hb); clear hb)))
      clear hEn
      go_wp2_with (first
        | ((with_reducible refine gate_dst (N := 27) rfl ?_); refine wp_ld HB3.out 1 rfl rfl (.tmp 4) rfl rfl Tryd.underlying40 (by kernel_rfl) ?_)
        | ((with_reducible refine gate_store (t := 40) (p := 8) rfl ?_); refine wp_st HB3.out 0 rfl (q := 0) (seg := [.int .i64 now, .slice (some ⟨b, 0, none⟩) n c]) rfl rfl rfl rfl rfl (by kernel_rfl) (Nat.le_refl _) (o_cons rfl (o_cons rfl o_nil)) ?_; intro w4 hq hf; have HB4 : Hid (Bs w w4 [(g4, 40, [.int .i64 now, .slice (some ⟨b, 0, none⟩) n c]), (g2, 40, [.int .i64 now, .slice (some ⟨b, 0, none⟩) n c])]) := hq; clear hq hf HB3))
      (try simp only [Exit.inBlock, Exit.then])
      refine bodyPost_ret (results_ct rfl _ _ g4 _ _ _ _ rfl (HB4.out.get 0 rfl) Tryd.underlying40 rfl (show (Tryd.prog.info? 40).map (·.size) = some 2 by kernel_rfl)) rfl ?_
      exact ⟨_, rfl, HN.out.below HB4.out.B, HB4.out.B⟩
    · skip
      have d1 : decide (t < (0 : Int)) = false := decide_eq_false h1
      have d2 : decide ((64 : Int) < t) = true := decide_eq_true h2
      clear h1 h2
      obtain ⟨b, c, rfl, hc, _⟩ := h.parts
      have HN := Lib.hid h
      have H16 := Lib.hid hn
      obtain ⟨n, hnn⟩ : ∃ n, n = s.n := ⟨_, rfl⟩
      obtain ⟨now, hnow⟩ : ∃ z, z = s.now := ⟨_, rfl⟩
      rw [← hnn, ← hnow] at HN ⊢
      rw [← hnn] at hc
      have HB0 := Lib.hid (Bs.start w)
      clear h hn hnn hnow
      go_enter Tryd.func58, Tryd.ntmps58
      go_upto_region 4 with (first
        | ((with_reducible refine gate_dst (N := 4) rfl ?_); refine wp_bx HB0.out (t := 40) (cs := [.int .i64 now, .slice (some ⟨b, 0, none⟩) n c]) rfl (.tmp 0) rfl rfl ?_; intro g2 w1 hb HB1; clear hb HB0)
        | ((with_reducible refine gate_dst (N := 8) rfl ?_); refine wp_al HB1.out (t := 40) rfl rfl al_T ?_; intro g4 w2 hb HB2; clear hb HB1)
        | ((with_reducible refine gate_dst (N := 11) rfl ?_); refine wp_ld HB2.out 1 rfl rfl (.tmp 4) rfl rfl Tryd.underlying40 (by kernel_rfl) ?_)
        | (go_at_call 65; ((with_reducible refine (place_r (HN.out.below HB2.out.B) H16.out k m).mono ?_); rintro e w3 ⟨rfl, hb⟩; rw [HE.out]; have HB3 := Lib.hid (HB2.out.below hb); clear hb)))
      clear hEn
      go_wp2_with (first
        | ((with_reducible refine gate_dst (N := 27) rfl ?_); refine wp_ld HB3.out 1 rfl rfl (.tmp 4) rfl rfl Tryd.underlying40 (by kernel_rfl) ?_)
        | ((with_reducible refine gate_store (t := 40) (p := 8) rfl ?_); refine wp_st HB3.out 0 rfl (q := 0) (seg := [.int .i64 now, .slice (some ⟨b, 0, none⟩) n c]) rfl rfl rfl rfl rfl (by kernel_rfl) (Nat.le_refl _) (o_cons rfl (o_cons rfl o_nil)) ?_; intro w4 hq hf; have HB4 : Hid (Bs w w4 [(g4, 40, [.int .i64 now, .slice (some ⟨b, 0, none⟩) n c]), (g2, 40, [.int .i64 now, .slice (some ⟨b, 0, none⟩) n c])]) := hq; clear hq hf HB3))
      (try simp only [Exit.inBlock, Exit.then])
      refine bodyPost_ret (results_ct rfl _ _ g4 _ _ _ _ rfl (HB4.out.get 0 rfl) Tryd.underlying40 rfl (show (Tryd.prog.info? 40).map (·.size) = some 2 by kernel_rfl)) rfl ?_
      exact ⟨_, rfl, HN.out.below HB4.out.B, HB4.out.B⟩
  have hD : s.delayE (k : Int) (m : Int) t = 0 := hD0.trans (if_neg ht)
  obtain ⟨y, hy⟩ : ∃ y, (s.h k).q[m]? = some y := ⟨_, List.getElem?_eq_getElem hmq⟩
  have hS : s.delay (k : Int) (m : Int) t = s.put k { s.h k with q := (s.h k).q.set m (y.late t) } := by
    refine (if_pos hD).trans ?_
    rw [Int.toNat_natCast, Int.toNat_natCast, modify_set hy]
  rw [hS, hD]
  have d1 : decide (t < (0 : Int)) = false := decide_eq_false (by omega)
  have d2 : decide ((64 : Int) < t) = false := decide_eq_false (by omega)
  have HQL := Lib.hid (hq k hk)
  have hdy := hdue k hk y (List.mem_of_getElem? hy)
  have HW : Hid (wrap64 (y.due + t) = y.due + t) := Lib.hid (by unfold wrap64; omega)
  clear hS hE hE0 hq hdue hp hD hD0 ht hdy
  obtain ⟨b, c, FA, fl, fc, QA, ql, qc, rfl, hc, hblt, hx, hrow⟩ := h.host hk
  have HN := Lib.hid h
  have H16 := Lib.hid hn
  have HK := Lib.hid hk
  have HX := Lib.hid hx
  have HR := Lib.hid (And.intro hblt hrow)
  obtain ⟨x, hxx⟩ : ∃ x, x = s.h k := ⟨_, rfl⟩
  have HXX := Lib.hid hxx
  rw [← hxx] at HX HR
  obtain ⟨n, hnn⟩ : ∃ n, n = s.n := ⟨_, rfl⟩
  obtain ⟨now, hnow⟩ : ∃ z, z = s.now := ⟨_, rfl⟩
  have HNN := Lib.hid (And.intro hnn hnow)
  rw [← hnn, ← hnow] at HN ⊢
  rw [← hnn] at hc
  have hkn : k < n := by rw [hnn]; exact hk
  obtain ⟨i0, i1⟩ : (0 : Int) ≤ (k : Int) ∧ (k : Int) < (n : Int) := by omega
  have e0 : decide ((0 : Int) ≤ (k : Int)) = true := decide_eq_true i0
  have e1 : decide ((k : Int) < (n : Int)) = true := decide_eq_true i1
  have HB0 := Lib.hid (Bs.start w)
  clear h hn hk hx hrow hblt hxx hnn hnow
  rw [← HXX.out] at HQL hmq hy
  have HMY := Lib.hid (And.intro hmq hy)
  clear hmq hy
  go_enter Tryd.func58, Tryd.ntmps58
  go_upto_region 5 with (first
    | ((with_reducible refine gate_dst (N := 4) rfl ?_); refine wp_bx HB0.out (t := 40) (cs := [.int .i64 now, .slice (some ⟨b, 0, none⟩) n c]) rfl (.tmp 0) rfl rfl ?_; intro g2 w1 hb HB1; clear hb HB0)
    | ((with_reducible refine gate_dst (N := 8) rfl ?_); refine wp_al HB1.out (t := 40) rfl rfl al_T ?_; intro g4 w2 hb HB2; clear hb HB1)
    | ((with_reducible refine gate_dst (N := 11) rfl ?_); refine wp_ld HB2.out 1 rfl rfl (.tmp 4) rfl rfl Tryd.underlying40 (by kernel_rfl) ?_)
    | (go_at_call 65; ((with_reducible refine (place_r (HN.out.below HB2.out.B) H16.out k m).mono ?_); rintro e w3 ⟨rfl, hb⟩; rw [HE.out]; have HB3 := Lib.hid (HB2.out.below hb); clear hb)))
  clear hEn d1 d2
  have a1 : w3.cell? ⟨g2, 1, none⟩ = some (.slice (some ⟨b, 0, none⟩) n c) := (HB3.out.get 1 rfl).cell 1
  have r0 : w3.cell? ⟨b, k * 7, none⟩ = some (.bool x.there) := (HB3.out.B.cell (p := ⟨b, _, none⟩) HR.out.1).trans (HR.out.2 0 (by omega))
  have r1 : w3.cell? ⟨b, k * 7 + 1, none⟩ = some (.int .i64 x.level) := (HB3.out.B.cell (p := ⟨b, _, none⟩) HR.out.1).trans (HR.out.2 1 (by omega))
  have r2 : w3.cell? ⟨b, k * 7 + 2, none⟩ = some (.slice FA fl fc) := (HB3.out.B.cell (p := ⟨b, _, none⟩) HR.out.1).trans (HR.out.2 2 (by omega))
  have r3 : w3.cell? ⟨b, k * 7 + 3, none⟩ = some (.int .i64 x.graft) := (HB3.out.B.cell (p := ⟨b, _, none⟩) HR.out.1).trans (HR.out.2 3 (by omega))
  have r4 : w3.cell? ⟨b, k * 7 + 4, none⟩ = some (.int .i64 x.cap) := (HB3.out.B.cell (p := ⟨b, _, none⟩) HR.out.1).trans (HR.out.2 4 (by omega))
  have r5 : w3.cell? ⟨b, k * 7 + 5, none⟩ = some (.int .i64 x.got) := (HB3.out.B.cell (p := ⟨b, _, none⟩) HR.out.1).trans (HR.out.2 5 (by omega))
  have r6 : w3.cell? ⟨b, k * 7 + 6, none⟩ = some (.slice QA ql qc) := (HB3.out.B.cell (p := ⟨b, _, none⟩) HR.out.1).trans (HR.out.2 6 (by omega))
  have l3 : g2 < w3.heap.size := (HB3.out.get 1 rfl).lt
  have l4 : b < w3.heap.size := Nat.lt_of_lt_of_le HR.out.1 HB3.out.B.size
  go_upto_region 6 with (first
    | (at_builtin; refine wp_qapp (B := w.heap.size) (q := []) (q2 := x.q) rfl (.tmp 28) (.tmp 34) rfl rfl rfl (QOwn.empty HB3.out.B.size) ((HX.out.2.rd).below (HB3.out.B.alloc HB3.out.B.size _)) (by have := HQL.out; simp; omega) (Nat.le_trans HB3.out.B.size (by simp)) ?_; intro A7 L7 c7 w7 HQ7 hg7))
  have HB4 : Hid (Bs w w7 [(g4, 40, [.int .i64 0, .slice none 0 0]), (g2, 40, [.int .i64 now, .slice (some ⟨b, 0, none⟩) n c])]) := Lib.hid ((HB3.out.below (below_alloc (Below.refl _ _) _)).grown hg7.out (own_block (QOwn.empty HB3.out.B.size)) (by intro b hb; simp only [List.mem_cons, List.not_mem_nil, or_false] at hb; rcases hb with rfl | rfl <;> (dsimp only; decide)))
  clear hg7 HB3
  clear l3 l4 a1 r0 r1 r2 r3 r4 r5 r6
  have hLE := HQ7.out.lenE
  rw [List.nil_append] at hLE
  have hxne : x.q ≠ [] := by intro e; have := HMY.out.1; rw [e] at this; simp at this
  obtain ⟨b9, cu9, rfl, hb9, hrest⟩ := HQ7.out.open_ (by rw [List.nil_append]; exact hxne)
  clear hrest cu9
  have HQ7 : Hid (QOwn w.heap.size w7 (.slice (some ⟨b9, 0, none⟩) L7 c7) x.q) := Lib.hid (by have := HQ7.out; rw [List.nil_append] at this; exact this)
  have hmL : m < L7 := by rw [hLE]; exact HMY.out.1
  have HB9 := Lib.hid hb9
  clear hLE hxne hb9
  obtain ⟨sy, hsy⟩ : ∃ z, z = strOfNums y.b := ⟨_, rfl⟩
  have HSY := Lib.hid hsy
  have HC := Lib.hid (HQ7.out.cells m y HMY.out.2)
  rw [← hsy] at HC
  have hw := HW.out
  have m0 : (0 : Int) ≤ (m : Int) := by omega
  have m1 : (m : Int) < (L7 : Int) := by omega
  clear hsy
  refine start_ (n := 22) (S := fun w' => w'.cell? ⟨b9, m * 3, none⟩ = some (.string (sy)) ∧ w'.cell? ⟨b9, m * 3 + 1, none⟩ = some (.int .i64 y.due) ∧ w'.cell? ⟨b9, m * 3 + 2, none⟩ = some (.bool y.sp)) (ds := [21]) #[false, false, false, false, false, false, false, false, false, false, false, false, false, false, false, false, false, false, false, false, false, false] (by kernel_rfl) rfl rfl HC.out (fun hHeld => ?_)
  refine pu_ 0 36 (bm_ 22 0x1) ?_
  refine pu_ 1 37 (bm_ 22 0x3) ?_
  refine pu_ 2 38 (bm_ 22 0x7) ?_
  refine pu_ 3 39 (bm_ 22 0xf) ?_
  refine pu_ 4 40 (bm_ 22 0x1f) ?_
  refine pu_ 5 41 (bm_ 22 0x3f) ?_
  refine tk_ 6 42 (bm_ 22 0x7f) hHeld ?_
  refine pu_ 7 43 (bm_ 22 0xff) ?_
  refine pu_ 8 44 (bm_ 22 0x1ff) ?_
  refine pu_ 9 45 (bm_ 22 0x3ff) ?_
  refine pu_ 10 46 (bm_ 22 0x7ff) ?_
  refine tk_ 11 47 (bm_ 22 0xfff) hHeld ?_
  refine pu_ 12 48 (bm_ 22 0x1fff) ?_
  refine pu_ 13 49 (bm_ 22 0x3fff) ?_
  refine pu_ 14 50 (bm_ 22 0x7fff) ?_
  refine pu_ 15 51 (bm_ 22 0xffff) ?_
  refine pu_ 16 52 (bm_ 22 0x1ffff) ?_
  refine pu_ 17 53 (bm_ 22 0x3ffff) ?_
  refine tk_ 18 54 (bm_ 22 0x7ffff) hHeld ?_
  refine pu_ 19 55 (bm_ 22 0xfffff) ?_
  refine pu_ 20 56 (bm_ 22 0x1fffff) ?_
  refine la_ 21 none (bm_ 22 0x3fffff) fun K hK => ?_
  refine skip_ (by rfl) rfl (w1 := w7.drew.setCells b9 (m * 3) (itR (y.late t))) (run_stq (HQ7.out.below (w' := w7.drew) (Below.refl _ _).drew) m HMY.out.1 rfl rfl (by rw [show (itR (y.late t)).toArray = #[.string sy, .int .i64 (y.due + t), .bool y.sp] by rw [HSY.out]; rfl]; rfl)) ?_
  refine hK.out _ _ ?_
  obtain ⟨hq10, hg10⟩ := (HQ7.out.below (w' := w7.drew) (Below.refl _ _).drew).put m HMY.out.1 (y.late t)
  have HQ10 := Lib.hid hq10
  have HBX : Hid (Bs w (w7.drew.setCells b9 (m * 3) (itR (y.late t))) [(g4, 40, [.int .i64 0, .slice none 0 0]), (g2, 40, [.int .i64 now, .slice (some ⟨b, 0, none⟩) n c])]) := Lib.hid ((HB4.out.below (Below.refl _ _).drew).grown hg10 (fun r hr => own_block (HQ7.out.below (w' := w7.drew) (Below.refl _ _).drew) r (by rw [← hr]; rfl)) (by intro b hb; simp only [List.mem_cons, List.not_mem_nil, or_false] at hb; rcases hb with rfl | rfl <;> (dsimp only; decide)))
  generalize (w7.drew.setCells b9 (m * 3) (itR (y.late t))) = w10 at HQ10 HBX ⊢
  clear hK K hHeld hq10 hg10 HQ7 HC hw m0 m1 hmL HB4
  refine done_ (by kernel_rfl) ?_
  go_wp2_with (first
    | ((with_reducible refine gate_dst (N := 57) rfl ?_); refine wp_ld HBX.out 1 rfl rfl (.tmp 4) rfl rfl Tryd.underlying40 (by kernel_rfl) ?_)
    | (go_at_call 66; refine (queue_r (HN.out.below HBX.out.B) H16.out k HK.out (some ⟨b9, 0, none⟩) L7 c7 (x.q.set m (y.late t)) HQ10.out.ref).mono ?_; rintro e w5 ⟨v', rfl, hv, hb⟩; obtain ⟨b5, c5, rfl, hc5⟩ := hv.spell (now := now) (n := n) HNN.out.2 HNN.out.1; have HV := Lib.hid hv; have HB5 := Lib.hid (HBX.out.below hb); clear hv hb hc5 HBX)
    | ((with_reducible refine gate_store (t := 40) (p := 8) rfl ?_); refine wp_st HB5.out 0 rfl (q := 0) (seg := [Value.int .i64 now, .slice (some ⟨b5, 0, none⟩) n c5]) rfl rfl rfl rfl rfl (by kernel_rfl) (Nat.le_refl _) (o_cons rfl (o_cons rfl o_nil)) ?_; intro w6 hq hf; have HB6 : Hid (Bs w w6 [(g4, 40, [Value.int .i64 now, .slice (some ⟨b5, 0, none⟩) n c5]), (g2, 40, [.int .i64 now, .slice (some ⟨b, 0, none⟩) n c])]) := hq; have HV2 := Lib.hid (HV.out.st hf.out); clear hq hf HB5))
  (try simp only [Exit.inBlock, Exit.then])
  refine bodyPost_ret (results_ct rfl _ _ g4 _ _ _ _ rfl (HB6.out.get 0 rfl) Tryd.underlying40 rfl (show (Tryd.prog.info? 40).map (·.size) = some 2 by kernel_rfl)) rfl ?_
  exact ⟨_, rfl, by have hh := HV2.out; rw [← HXX.out] at hh; rw [← HXX.out]; exact hh, HB6.out.B⟩
end
section
open Go.RowKit Go.Deep Go.Proofs.YtpfpdbbgiimnmaaDoor.Er Go.Proofs.YtpfpdbbgiimnmaaDoor.Mod Go.Proofs.YtpfpdbbgiimnmaaDoorW.PrintWords Go.Proofs.YtpfpdbbgiimnmaaDoorW.PrintLast
set_option maxHeartbeats 4000000 in
set_option maxRecDepth 100000 in
theorem rpower_calls (k : Nat) (hk : k ≤ 31) (w : World) : Calls Tryd.prog 69 #[.int .i64 (k : Int)] w fun e w' => e = .returned (.int .u32 ((2 ^ k : Nat) : Int)) ∧ w' = w := by
  have HK := Lib.hid hk
  go_enter Tryd.func69, Tryd.ntmps69
  go_wp2
  go_loopg [3, 4] (k + 1) (fun kq v3 v4 wr => ∃ (i n : Nat), v4 = .int .i64 i ∧ v3 = .int .u32 n ∧ wr = w ∧ Hid (i ≤ k ∧ kq = k + 1 - i ∧ n = 2 ^ i))
  case atStart => exact ⟨0, 1, rfl, rfl, rfl, Lib.hid ⟨by omega, by omega, rfl⟩⟩
  case round =>
    obtain ⟨i, n, rfl, rfl, rfl, HI⟩ := hrel
    by_cases hi : i < k
    · have hn : n ≤ 1073741824 := by rw [HI.out.2.2]; exact Nat.pow_le_pow_right (n := 2) (by omega) (show i ≤ 30 by have := HK.out; omega)
      obtain ⟨n2, hn2⟩ : ∃ n2, n2 = n * 2 := ⟨_, rfl⟩
      have hw : ((n : Int) * 2) % 4294967296 = (n2 : Int) := by omega
      have hw' : IntKind.u32.wrap ((n : Int) * 2) = (n2 : Int) := by rw [IntKind.wrap_u32]; exact hw
      have HN2 : Hid (n2 = 2 ^ (i + 1)) := Lib.hid (by rw [hn2, HI.out.2.2, Nat.pow_succ])
      clear hn hn2
      go_wp2
      go_roundg (k - i)
      case measure => have := HI.out; omega
      case rel => exact ⟨i + 1, n2, by go_num, by first | rfl | exact congrArg _ hw | exact congrArg _ hw', rfl, Lib.hid ⟨by omega, by omega, HN2.out⟩⟩
    · have hik : i = k := by have := HI.out; omega
      have HN : Hid (n = 2 ^ k) := Lib.hid (by rw [← hik]; exact HI.out.2.2)
      clear hik
      go_wp2
      go_ret
      exact ⟨by rw [HN.out]; rfl, rfl⟩
theorem turn_facts2 (p : Nat) (hp : p ≤ 2000000000000000) (y : Int) (hy : 0 ≤ y ∧ y < 256) : ∃ (q t z : Nat) (r : Int), q = p / 8 ∧ t ≤ 7 ∧ z = 2 ^ t ∧ r = ((y.toNat ^^^ 2 ^ (p % 8) : Nat) : Int) ∧ wrap64 ((p : Int) / 8) = (q : Int) ∧ Int.tmod (p : Int) 8 = (t : Int) ∧ IntKind.u8.wrap (z : Int) = (z : Int) ∧ (z : Int) % 256 = (z : Int) ∧ bits BinOp.xor IntKind.u8 y (z : Int) = r := by
  have hp8 : p % 8 < 8 := Nat.mod_lt _ (by omega)
  have hpow : 2 ^ (p % 8) < 256 := Nat.pow_lt_pow_right (n := 8) (show 1 < 2 by omega) hp8
  obtain ⟨z, hz⟩ : ∃ z, z = 2 ^ (p % 8) := ⟨_, rfl⟩
  rw [← hz] at hpow
  refine ⟨p / 8, p % 8, z, _, rfl, by omega, hz, rfl, by unfold wrap64; omega, by rw [Int.tmod_eq_emod_of_nonneg (by omega)]; omega, by rw [IntKind.wrap_u8']; omega, by omega, ?_⟩
  rw [u8_xor y _ hy.1 hy.2 (Int.natCast_nonneg _) (Int.ofNat_lt.2 hpow), Int.toNat_natCast, hz]
def SpoilQ (B : Nat) (r : Option (List Int)) (e : Ending) (w' : World) : Prop := match r with
  | none => e = .returned (.tuple #[.slice none 0 0, .int .i64 2])
  | some Y => ∃ A c, e = .returned (.tuple #[.slice A Y.length c, .int .i64 0]) ∧ RB (fun k => B ≤ k) w' (.slice A Y.length c) Y
set_option maxHeartbeats 8000000 in
set_option maxRecDepth 100000 in
theorem rspoil_calls {D : Nat → Prop} {w : World} {v : Value} {l : List Int} (hl : RdB D w v l) (hD : ∀ k, D k → k < w.heap.size) (hl9 : l.length ≤ 140737488355328) (a m : Int) (ha : -9223372036854775808 ≤ a ∧ a ≤ 9223372036854775807) (hm : 0 ≤ m ∧ m < 4294967296) : Calls Tryd.prog 67 #[v, .int .i64 a, .int .u32 m] w fun e w' => SpoilQ w.heap.size (spoilB l a m) e w' ∧ Below w.heap.size w w' := by
  have HR := Lib.hid hl
  obtain ⟨A2, c2, rfl, hl1, hl2, _, _⟩ := hl
  obtain ⟨n, hn⟩ : ∃ n, n = l.length := ⟨_, rfl⟩
  have HN := Lib.hid hn
  have hSB : spoilB l a m = if a < 0 ∨ 8 * (n : Int) ≤ a ∨ m = 0 then none else spoI a.toNat m.toNat n 32 0 l := by rw [hn]; rfl
  rw [← hn] at hl1 hl2 hl9 HR ⊢
  clear hn
  have HW8 : Hid (wrap64 (8 * (n : Int)) = 8 * (n : Int)) := Lib.hid (by unfold wrap64; omega)
  by_cases hbad : a < 0 ∨ 8 * (n : Int) ≤ a ∨ m = 0
  · have hr : spoilB l a m = none := hSB.trans (if_pos hbad)
    rw [hr]
    clear hSB hr
    have hb : a < 0 ∨ (¬ a < 0 ∧ 8 * (n : Int) ≤ a) ∨ (¬ a < 0 ∧ ¬ 8 * (n : Int) ≤ a ∧ m = 0) := by omega
    clear hbad
    obtain ⟨ha1, ha2⟩ := ha
    rcases hb with h1 | ⟨h1, h2⟩ | ⟨h1, h2, rfl⟩
    all_goals
      have hw8 := HW8.out
      go_enter Tryd.func67, Tryd.ntmps67
      go_wp2
      go_ret2
      exact ⟨rfl, Below.refl _ _⟩
  have hr : spoilB l a m = spoI a.toNat m.toNat n 32 0 l := hSB.trans (if_neg hbad)
  rw [hr]
  obtain ⟨at_, rfl⟩ : ∃ k : Nat, a = (k : Int) := ⟨a.toNat, by omega⟩
  obtain ⟨mk, rfl⟩ : ∃ k : Nat, m = (k : Int) := ⟨m.toNat, by omega⟩
  rw [Int.toNat_natCast, Int.toNat_natCast]
  have h2 : at_ < 8 * n := by omega
  have h3 : 0 < mk := by omega
  have hm32 : mk < 4294967296 := by omega
  have d0 : decide ((at_ : Int) < 0) = false := decide_eq_false (by omega)
  have d1 : decide (8 * (n : Int) ≤ (at_ : Int)) = false := decide_eq_false (by omega)
  have d2 : ((mk : Int) == 0) = false := beq_eq_false_iff_ne.2 (by omega)
  have hw8 := HW8.out
  clear hSB hr hbad ha hm
  go_enter Tryd.func67, Tryd.ntmps67
  go_upto_region 3 with (fail)
  clear hw8
  go_wp2_with (first | (at_builtin; refine wp_copy rfl (.tmp 23) (.tmp 24) rfl rfl rfl (HR.out.keep ?c0) ?_))
  case c0 => exact fun k hk => ((Below.refl _ _).alloc (Nat.le_refl _) _).block k (hD k hk)
  intro A8 c8 w8 hRB hB8
  have HB8 : Hid (Below w.heap.size w w8) := Lib.hid ((((Below.refl _ _).alloc (Nat.le_refl _) _)).trans (hB8.mono (by omega)))
  have HRB : Hid (RB (fun k => w.heap.size ≤ k) w8 (.slice A8 l.length c8) l) := Lib.hid (hRB.mono (fun k hk => by omega))
  clear hRB hB8
  rw [← HN.out] at HRB ⊢
  go_wp2
  go_loopg [9] 40 (fun kq v9 wr => ∃ (i : Nat) (Y : List Int), v9 = .int .i64 i ∧ Hid (i ≤ 32 ∧ kq = 40 - i ∧ spoI at_ mk n 32 0 l = spoI at_ mk n (32 - i) i Y) ∧ Hid (RB (fun k => w.heap.size ≤ k) wr (.slice A8 n c8) Y ∧ Y.length = n ∧ Below w.heap.size w wr))
  case atStart => exact ⟨0, l, rfl, Lib.hid ⟨by omega, by omega, rfl⟩, Lib.hid ⟨HRB.out, HN.out.symm, HB8.out⟩⟩
  case round =>
    obtain ⟨i, Y, rfl, HK, HA⟩ := hrel
    have hi1 := HK.out.1
    clear d0 d1 d2
    by_cases hi : i < 32
    · have hst : spoI at_ mk n (32 - i) i Y = if mk / 2 ^ i % 2 = 0 then spoI at_ mk n (32 - (i + 1)) (i + 1) Y else if 8 * n ≤ at_ + i then none else spoI at_ mk n (32 - (i + 1)) (i + 1) (turnI Y (at_ + i)) := by
        rw [show 32 - i = (32 - (i + 1)) + 1 by omega]; rfl
      obtain ⟨pw, hpw⟩ : ∃ pw, pw = 2 ^ i := ⟨_, rfl⟩
      have HPW : Hid (2 ^ i = pw) := Lib.hid hpw.symm
      rw [← hpw] at hst
      have hpp : 0 < pw := by rw [hpw]; exact Nat.two_pow_pos i
      have p2 : ¬ pw = 0 := by omega
      have p0 : ¬ (pw : Int) = 0 := by omega
      have p1 : ((pw : Int) == 0) = false := beq_eq_false_iff_ne.2 p0
      have hq5 : mk / pw ≤ mk := Nat.div_le_self _ _
      obtain ⟨q5, hq5e⟩ : ∃ q5, q5 = mk / pw := ⟨_, rfl⟩
      rw [← hq5e] at hq5 hst
      have HDV_ : Hid (Int.tdiv (mk : Int) (pw : Int) = (q5 : Int)) := Lib.hid (by rw [Int.tdiv_eq_ediv_of_nonneg (Int.natCast_nonneg _), ← Int.natCast_ediv, hq5e])
      have HDW_ : Hid (IntKind.u32.wrap (q5 : Int) = (q5 : Int)) := Lib.hid (by rw [IntKind.wrap_u32]; omega)
      have HDM_ : Hid ((q5 : Int) % 4294967296 = (q5 : Int)) := Lib.hid (by omega)
      have htm : Int.tmod (q5 : Int) 2 = ((q5 % 2 : Nat) : Int) := by rw [Int.tmod_eq_emod_of_nonneg (Int.natCast_nonneg _)]; omega
      have hi31 : i ≤ 31 := by omega
      clear hpw hpp hq5 hq5e
      by_cases hb : q5 % 2 = 0
      · have HST : Hid (spoI at_ mk n (32 - i) i Y = spoI at_ mk n (32 - (i + 1)) (i + 1) Y) := Lib.hid (hst.trans (if_pos hb))
        rw [hb] at htm
        have hz : (((0 : Nat) : Int) == 1) = false := by decide
        clear hst hb
        have hdv := HDV_.out; have hdw := HDW_.out; have hdm := HDM_.out
        go_wp2_with (first | (go_at_call 69; refine (rpower_calls i hi31 _).mono ?_; rintro e w1 ⟨rfl, hw⟩; rw [hw, HPW.out]; clear hw))
        clear hdv hdw hdm htm
        go_roundg (39 - i)
        case measure => have := HK.out; omega
        case rel => exact ⟨i + 1, Y, by go_num, Lib.hid ⟨by omega, by omega, HK.out.2.2.trans HST.out⟩, HA⟩
      have hb1 : q5 % 2 = 1 := by omega
      rw [if_neg hb] at hst
      rw [hb1] at htm
      obtain ⟨p, hp⟩ : ∃ p, p = at_ + i := ⟨_, rfl⟩
      have HW1 : Hid (IntKind.i64.wrap ((at_ : Int) + (i : Int)) = (p : Int)) := Lib.hid (by rw [IntKind.wrap_i64]; omega)
      have HW2 : Hid (wrap64 ((at_ : Int) + (i : Int)) = (p : Int)) := Lib.hid (by unfold wrap64; omega)
      by_cases hov : 8 * n ≤ at_ + i
      · have HST : Hid (spoI at_ mk n 32 0 l = none) := Lib.hid (HK.out.2.2.trans (hst.trans (if_pos hov)))
        have d4 : decide (8 * (n : Int) ≤ (p : Int)) = true := decide_eq_true (by omega)
        clear hst hb hb1 hov hp
        have hdv := HDV_.out; have hdw := HDW_.out; have hdm := HDM_.out; have hw1 := HW1.out; have hw2 := HW2.out; have hw8 := HW8.out
        go_wp2_with (first | (go_at_call 69; refine (rpower_calls i hi31 _).mono ?_; rintro e w1 ⟨rfl, hw⟩; rw [hw, HPW.out]; clear hw))
        go_ret2
        exact ⟨by rw [HST.out]; exact rfl, HA.out.2.2⟩
      have HST : Hid (spoI at_ mk n (32 - i) i Y = spoI at_ mk n (32 - (i + 1)) (i + 1) (turnI Y (at_ + i))) := Lib.hid (hst.trans (if_neg hov))
      have d4 : decide (8 * (n : Int) ≤ (p : Int)) = false := decide_eq_false (by omega)
      have hpn : p / 8 < n := by omega
      have hp8 : p % 8 < 8 := Nat.mod_lt _ (by omega)
      obtain ⟨A', c', e1, hc', _, hlt, hx⟩ := HA.out.1
      obtain ⟨b, cur, rfl, hbb, hcur, hy⟩ := hx (by intro e; have := HA.out.2.1; rw [e] at this; simp at this; omega)
      obtain ⟨y, hy1⟩ : ∃ y, Y[p / 8]? = some y := ⟨Y[p / 8]'(by have := HA.out.2.1; omega), List.getElem?_eq_getElem _⟩
      have hyb := hlt y (List.mem_of_getElem? hy1)
      have y0 : wr.cell? ⟨b, p / 8, none⟩ = some (.int .u8 y) := by have := hy _ _ hy1; simp [World.cell?, hcur, this]
      have y1 : wr.frozen? ⟨b, p / 8, none⟩ = false := by simp [World.frozen?, hcur]
      obtain ⟨rfl, rfl⟩ : A8 = some ⟨b, 0, none⟩ ∧ c8 = c' := by cases e1; exact ⟨rfl, rfl⟩
      obtain ⟨q8, t8, z, r, hq8, ht7, hz8, hr, hq0, ht0, hzw, hzm, hxr0⟩ := turn_facts2 p (by omega) y hyb
      have HNX : Hid (RB (fun k => w.heap.size ≤ k) (wr.drew.setCell ⟨b, p / 8, none⟩ (.int .u8 r)) (.slice (some ⟨b, 0, none⟩) n c8) (turnI Y (at_ + i)) ∧ (turnI Y (at_ + i)).length = n ∧ Below w.heap.size w (wr.drew.setCell ⟨b, p / 8, none⟩ (.int .u8 r))) := Lib.hid (by
        have hlen : (turnI Y (at_ + i)).length = n := by rw [turnI_len]; exact HA.out.2.1
        refine ⟨⟨_, c8, by rw [hlen], by rw [hlen, ← HA.out.2.1]; exact hc', by rw [hlen]; exact hl2, turnI_lt hlt _, fun _ => ⟨b, _, rfl, hbb, Joins.block_setCell (w := wr.drew) hcur _, fun j x hj => ?_⟩⟩, hlen, HA.out.2.2.drew.setCell hbb _⟩
        unfold turnI at hj
        rw [← hp, List.getElem?_set] at hj
        rw [Array.getElem?_setIfInBounds]
        by_cases e : p / 8 = j
        · rw [if_pos e] at hj ⊢
          have hy2 : Y.getD (p / 8) 0 = y := by rw [List.getD_eq_getElem?_getD, hy1]; rfl
          rw [hy2, ← hr] at hj
          split at hj
          · cases hj
            have := (List.getElem?_eq_some_iff.1 hy1).1
            have h9 := hy _ _ hy1
            rw [if_pos (by have := (Array.getElem?_eq_some_iff.1 h9).1; omega)]
          · cases hj
        · rw [if_neg e] at hj ⊢
          exact hy j x hj)
      obtain ⟨hyb1, hyb2⟩ := hyb
      have HPP := Lib.hid hp
      have HZ := Lib.hid hz8
      rw [← hq8] at hpn y0 y1 HNX
      clear hst hb hb1 hov e1 hx hcur hy hy1 hlt hbb hp hp8 hq8 hr hz8
      have m8 : (0 : Int) ≤ (q8 : Int) := Int.natCast_nonneg _
      have hdv := HDV_.out; have hdw := HDW_.out; have hdm := HDM_.out; have hw1 := HW1.out; have hw2 := HW2.out; have hw8 := HW8.out
      go_upto_region 10 with (first | (go_at_call 69; refine (rpower_calls i hi31 _).mono ?_; rintro e w1 ⟨rfl, hw⟩; rw [hw, HPW.out]; clear hw))
      clear hdv hdw hdm htm d4 hw8 p0 p1 p2
      refine start_ (n := 21) (S := fun w' => w'.cell? ⟨b, q8, none⟩ = some (.int .u8 y) ∧ w'.frozen? ⟨b, q8, none⟩ = false) (ds := [20]) #[false, false, false, false, false, false, false, false, false, false, false, false, false, false, false, false, false, false, false, false, false] (by kernel_rfl) rfl rfl ⟨y0, y1⟩ (fun hHeld => ?_)
      refine pu_ 0 43 (bm_ 21 0x1) ?_
      refine pu_ 1 44 (bm_ 21 0x3) ?_
      refine pu_ 2 45 (bm_ 21 0x7) ?_
      refine pu_ 3 46 (bm_ 21 0xf) ?_
      refine pu_ 4 47 (bm_ 21 0x1f) ?_
      refine pu_ 5 48 (bm_ 21 0x3f) ?_
      refine pu_ 6 49 (bm_ 21 0x7f) ?_
      refine pu_ 7 50 (bm_ 21 0xff) ?_
      refine pu_ 8 51 (bm_ 21 0x1ff) ?_
      refine pu_ 9 52 (bm_ 21 0x3ff) ?_
      refine pu_ 10 53 (bm_ 21 0x7ff) ?_
      refine tk_ 11 54 (bm_ 21 0xfff) hHeld ?_
      refine pu_ 12 55 (bm_ 21 0x1fff) ?_
      refine pu_ 13 56 (bm_ 21 0x3fff) ?_
      refine pu_ 14 57 (bm_ 21 0x7fff) ?_
      refine pu_ 15 58 (bm_ 21 0xffff) ?_
      refine on_ 16 (some 59) (bm_ 21 0x1ffff) fun K hK => ?_
      refine gd_ Tryd.func69 (rpower_calls t8 (Nat.le_trans ht7 (by decide)) wr.drew) ?_
      rintro e w7 ⟨rfl, hw⟩
      rw [hw, ← HZ.out]
      clear hw
      refine ⟨_, rfl, ?_⟩
      refine hK.out _ _ hHeld (fun hHeldA => ?_)
      clear hK K hHeld
      refine nm_ 59 ?_
      refine pu_ 17 60 (bm_ 21 0x3ffff) ?_
      refine pu_ 18 61 (bm_ 21 0x7ffff) ?_
      refine pu_ 19 62 (bm_ 21 0xfffff) ?_
      refine la_ 20 none (bm_ 21 0x1fffff) fun K hK => ?_
      refine skip_ (by rfl) rfl (w1 := wr.drew.setCell ⟨b, q8, none⟩ (.int .u8 r)) (by go_simp) ?_
      refine hK.out _ _ ?_
      clear hK K
      refine done_ (by kernel_rfl) ?_
      clear hHeldA y0 y1 hq0 ht0 hzw hzm hxr0 hw1 hw2
      generalize wr.drew.setCell ⟨b, q8, none⟩ (.int .u8 r) = w9 at HNX ⊢
      go_wp2
      go_roundg (39 - i)
      case measure => have := HK.out; omega
      case rel => exact ⟨i + 1, turnI Y (at_ + i), by go_num, Lib.hid ⟨by omega, by omega, HK.out.2.2.trans HST.out⟩, HNX⟩
    · have HE : Hid (spoI at_ mk n 32 0 l = some Y) := Lib.hid (by
        have := HK.out.2.2
        rw [show 32 - i = 0 by omega] at this
        exact this)
      go_wp2
      go_ret2
      exact ⟨by rw [HE.out]; exact ⟨A8, c8, by rw [HA.out.2.1]; rfl, by rw [HA.out.2.1]; exact HA.out.1⟩, HA.out.2.2⟩
end
section
open Go.RowKit Go.Deep Go.Proofs.YtpfpdbbgiimnmaaDoor.Er Go.Proofs.YtpfpdbbgiimnmaaDoor.Mod Go.Proofs.YtpfpdbbgiimnmaaDoorW.PrintWords Go.Proofs.YtpfpdbbgiimnmaaDoorW.PrintLast
/-- Bytes as they may be. -/
def ByOk (b : List Int) : Prop := b.length ≤ 140737488355328 ∧ ∀ x ∈ b, 0 ≤ x ∧ x < 256
theorem str_bytes {b : List Int} (hb : ByOk b) (W : World) : ∃ A c w', (convert 9 22 (.string (strOfNums b))).run Tryd.prog W = .ok (.slice A b.length c) w' ∧ Below W.heap.size W w' ∧ RdB (fun k => W.heap.size ≤ k ∧ k < w'.heap.size) w' (.slice A b.length c) b := by
  have hr := Lib.run_convert_string_bytes (P := Tryd.prog) W 9 22 5 (strOfNums b) Tryd.underlying9 Tryd.underlying22 Tryd.underlying5
  have hs : (strOfNums b).size = b.length := strOfNums_size b
  rw [hs] at hr
  refine ⟨_, _, _, hr, ⟨?_, ?_, ?_, by rw [Lib.bytesWorld_size]; omega, fun k hk => Lib.bytesWorld_at_old W _ _ k hk⟩, ⟨_, _, rfl, ?_, by have := hb.1; omega, hb.2, fun _ => ⟨_, rfl, ⟨Nat.le_refl _, by rw [Lib.bytesWorld_size]; exact Nat.lt_succ_self _⟩, fun j x hj => ?_⟩⟩⟩
  · simp [Lib.bytesWorld, World.freeze, World.alloc, World.drew, -World.alloc_eq, -World.drew_eq]
  · simp [Lib.bytesWorld, World.freeze, World.alloc, World.drew, -World.alloc_eq, -World.drew_eq]
  · simp [Lib.bytesWorld, World.freeze, World.alloc, World.drew, -World.alloc_eq, -World.drew_eq]
  · exact grownCap_ge W b.length 0 5
  · have hjl : j < b.length := (List.getElem?_eq_some_iff.1 hj).1
    have hadd : (⟨W.heap.size, 0, none⟩ : Addr).add j = ⟨W.heap.size, j, none⟩ := by unfold Addr.add; split <;> simp_all
    rw [hadd, Lib.bytesWorld_cell W _ _ j (by rw [hs]; exact hjl), strOfNums_data]
    have hx := hb.2 x (List.mem_of_getElem? hj)
    have e : ((b.map fun n => UInt8.ofNat n.toNat).getD j 0) = UInt8.ofNat x.toNat := by rw [List.getD_eq_getElem?_getD, List.getElem?_map, hj]; rfl
    rw [e, UInt8.toNat_ofNat']
    have e2 : ((x.toNat % 2 ^ 8 : Nat) : Int) = x := by omega
    rw [e2]
set_option maxHeartbeats 8000000 in
set_option maxRecDepth 100000 in
theorem spoil_r {w : World} {v : Value} {s : Nt} (h : NRef w v s) (hn : s.n ≤ 16) (hq : ∀ k, k < s.n → (s.h k).q.length < 900000000000) (hby : ∀ k, k < s.n → ∀ y ∈ (s.h k).q, ByOk y.b) (i j a m0 : Int) (ha : -9223372036854775808 ≤ a ∧ a ≤ 9223372036854775807) (hm : 0 ≤ m0 ∧ m0 < 4294967296) : Calls Tryd.prog 59 #[v, .int .i64 i, .int .i64 j, .int .i64 a, .int .u32 m0] w fun e w' => ∃ v', e = .returned (.tuple #[v', .int .i64 (s.spoilE i j a m0)]) ∧ NRef w' v' (s.spoil i j a m0) ∧ Below w.heap.size w w' := by
  obtain ⟨E, hE⟩ : ∃ E, E = s.placeE i j := ⟨_, rfl⟩
  have HE : Hid (s.placeE i j = E) := Lib.hid hE.symm
  have HA := Lib.hid (And.intro ha hm)
  clear ha hm
  by_cases hE0 : E = 0
  rotate_left
  · have hEn : (E != 0) = true := bne_iff_ne.2 hE0
    have hp : ¬ s.placeE i j = 0 := by rw [← hE]; exact hE0
    have hD : s.spoilE i j a m0 = E := (if_neg hp).trans hE.symm
    have hS : s.spoil i j a m0 = s := if_neg (by rw [hD]; exact hE0)
    rw [hS, hD]
    clear hS hE hE0 hq hby hp hD
    obtain ⟨b, c, rfl, hc, _⟩ := h.parts
    have HN := Lib.hid h
    have H16 := Lib.hid hn
    obtain ⟨n, hnn⟩ : ∃ n, n = s.n := ⟨_, rfl⟩
    obtain ⟨now, hnow⟩ : ∃ z, z = s.now := ⟨_, rfl⟩
    rw [← hnn, ← hnow] at HN ⊢
    rw [← hnn] at hc
    have HB0 := Lib.hid (Bs.start w)
    clear h hn hnn hnow
    go_enter Tryd.func59, Tryd.ntmps59
    go_upto_region 2 with (first
      | ((with_reducible refine gate_dst (N := 5) rfl ?_); refine wp_bx HB0.out (t := 40) (cs := [.int .i64 now, .slice (some ⟨b, 0, none⟩) n c]) rfl (.tmp 0) rfl rfl ?_; intro g2 w1 hb HB1; clear hb HB0)
      | ((with_reducible refine gate_dst (N := 10) rfl ?_); refine wp_al HB1.out (t := 40) rfl rfl al_T ?_; intro g4 w2 hb HB2; clear hb HB1)
      | ((with_reducible refine gate_dst (N := 15) rfl ?_); refine wp_ld HB2.out 1 rfl rfl (.tmp 5) rfl rfl Tryd.underlying40 (by kernel_rfl) ?_)
      | (go_at_call 65; ((with_reducible refine (place_r (HN.out.below HB2.out.B) H16.out i j).mono ?_); rintro e w3 ⟨rfl, hb⟩; rw [HE.out]; have HB3 := Lib.hid (HB2.out.below hb); clear hb)))
    clear hEn
    refine start_ (n := 7) (S := fun w' => Bs w w' [(g4, 40, [.int .i64 0, .slice none 0 0]), (g2, 40, [.int .i64 now, .slice (some ⟨b, 0, none⟩) n c])]) (ds := [5]) #[false, false, false, false, false, false, false] (by kernel_rfl) rfl rfl (HB3.out.below (Below.refl _ _).drew) (fun hHeld => ?_)
    refine take_ (i := 0) (N := some 20) (v := .agg #[.int .i64 now, .slice (some ⟨b, 0, none⟩) n c]) (bm_ 7 0x1) rfl rfl (by kernel_rfl) (fun _ _ _ h => h) (Or.inl ⟨by rfl, fun w' hs => run_ldb (hs.get 1 rfl) (.tmp 5) rfl rfl Tryd.underlying40 (by kernel_rfl)⟩) hHeld rfl ?_
    refine nm_ 20 ?_
    refine take_ (i := 1) (N := some 21) (v := .agg #[.int .i64 now, .slice (some ⟨b, 0, none⟩) n c]) (bm_ 7 0x3) rfl rfl (by kernel_rfl) (fun _ _ _ h => h) (Or.inl ⟨by rfl, fun w' hs => run_ldb (hs.get 1 rfl) (.tmp 5) rfl rfl Tryd.underlying40 (by kernel_rfl)⟩) hHeld rfl ?_
    refine nm_ 21 ?_
    refine pu_ 2 22 (bm_ 7 0x7) ?_
    refine pu_ 3 23 (bm_ 7 0xf) ?_
    refine on_ 4 (some 24) (bm_ 7 0x1f) fun K hK => ?_
    refine gd_ Tryd.func65 (place_r (HN.out.below hHeld.B) H16.out i j) ?_
    rintro e w10 ⟨rfl, hb⟩
    rw [HE.out]
    refine ⟨_, rfl, ?_⟩
    have hB10 := hHeld.below hb
    clear hb
    refine hK.out _ _ hB10 (fun hHeldB => ?_)
    clear hK K hHeld hB10
    refine nm_ 24 ?_
    refine la_ 5 none (bm_ 7 0x3f) fun K hK => ?_
    refine skip_ (by rfl) rfl (w1 := w10.setCells g4 0 [.int .i64 now, .slice (some ⟨b, 0, none⟩) n c]) (run_stb (hHeldB.get 0 rfl) rfl rfl rfl (by kernel_rfl) (Nat.le_refl _) (o_cons rfl (o_cons rfl o_nil))) ?_
    refine hK.out _ _ ?_
    have HBN : Hid (Bs w (w10.setCells g4 0 [.int .i64 now, .slice (some ⟨b, 0, none⟩) n c]) [(g4, 40, [.int .i64 now, .slice (some ⟨b, 0, none⟩) n c]), (g2, 40, [.int .i64 now, .slice (some ⟨b, 0, none⟩) n c])]) := Lib.hid (by
      have := hHeldB.seg 0 rfl 0 [.int .i64 now, .slice (some ⟨b, 0, none⟩) n c] (Nat.le_refl _)
      exact this)
    generalize (w10.setCells g4 0 [.int .i64 now, .slice (some ⟨b, 0, none⟩) n c]) = w99 at HBN ⊢
    clear hK K hHeldB
    refine pu_ 6 11 (bm_ 7 0x7f) ?_
    refine done_ (by kernel_rfl) ?_
    go_wp2
    refine bodyPost_ret (results_ct rfl _ _ g4 _ _ _ _ rfl (HBN.out.get 0 rfl) Tryd.underlying40 rfl (show (Tryd.prog.info? 40).map (·.size) = some 2 by kernel_rfl)) rfl ?_
    exact ⟨_, rfl, HN.out.below HBN.out.B, HBN.out.B⟩
  have hp : s.placeE i j = 0 := hE.symm.trans hE0
  have hEn : (E != 0) = false := by rw [hE0]; rfl
  obtain ⟨k, m, rfl, rfl, hk, hmq⟩ := place_at hp
  obtain ⟨y, hy⟩ : ∃ y, (s.h k).q[m]? = some y := ⟨_, List.getElem?_eq_getElem hmq⟩
  have hD0 : s.spoilE (k : Int) (m : Int) a m0 = if y.sp = true then 7 else if (spoilB y.b a m0).isSome = true then 0 else 2 := (if_pos hp).trans (by rw [itemAt_of hy])
  have HQL := Lib.hid (hq k hk)
  have HBY := Lib.hid (hby k hk y (List.mem_of_getElem? hy))
  clear hE hE0 hq hby hp
  by_cases hsp : y.sp = true
  · skip
    have hD : s.spoilE (k : Int) (m : Int) a m0 = 7 := hD0.trans (if_pos hsp)
    have hS : s.spoil (k : Int) (m : Int) a m0 = s := if_neg (by rw [hD]; decide)
    rw [hS, hD]
    clear hS hD hD0
    obtain ⟨b, c, FA, fl, fc, QA, ql, qc, rfl, hc, hblt, hx, hrow⟩ := h.host hk
    have HN := Lib.hid h
    have H16 := Lib.hid hn
    have HK := Lib.hid hk
    have HX := Lib.hid hx
    have HR := Lib.hid (And.intro hblt hrow)
    obtain ⟨x, hxx⟩ : ∃ x, x = s.h k := ⟨_, rfl⟩
    have HXX := Lib.hid hxx
    rw [← hxx] at HX HR
    obtain ⟨n, hnn⟩ : ∃ n, n = s.n := ⟨_, rfl⟩
    obtain ⟨now, hnow⟩ : ∃ z, z = s.now := ⟨_, rfl⟩
    have HNN := Lib.hid (And.intro hnn hnow)
    rw [← hnn, ← hnow] at HN ⊢
    rw [← hnn] at hc
    have hkn : k < n := by rw [hnn]; exact hk
    obtain ⟨i0, i1⟩ : (0 : Int) ≤ (k : Int) ∧ (k : Int) < (n : Int) := by omega
    have e0 : decide ((0 : Int) ≤ (k : Int)) = true := decide_eq_true i0
    have e1 : decide ((k : Int) < (n : Int)) = true := decide_eq_true i1
    have HB0 := Lib.hid (Bs.start w)
    clear h hn hk hx hrow hblt hxx hnn hnow
    rw [← HXX.out] at HQL hmq hy
    have HMY := Lib.hid (And.intro hmq hy)
    clear hmq hy
    go_enter Tryd.func59, Tryd.ntmps59
    go_upto_region 3 with (first
      | ((with_reducible refine gate_dst (N := 5) rfl ?_); refine wp_bx HB0.out (t := 40) (cs := [.int .i64 now, .slice (some ⟨b, 0, none⟩) n c]) rfl (.tmp 0) rfl rfl ?_; intro g2 w1 hb HB1; clear hb HB0)
      | ((with_reducible refine gate_dst (N := 10) rfl ?_); refine wp_al HB1.out (t := 40) rfl rfl al_T ?_; intro g4 w2 hb HB2; clear hb HB1)
      | ((with_reducible refine gate_dst (N := 15) rfl ?_); refine wp_ld HB2.out 1 rfl rfl (.tmp 5) rfl rfl Tryd.underlying40 (by kernel_rfl) ?_)
      | (go_at_call 65; ((with_reducible refine (place_r (HN.out.below HB2.out.B) H16.out k m).mono ?_); rintro e w3 ⟨rfl, hb⟩; rw [HE.out]; have HB3 := Lib.hid (HB2.out.below hb); clear hb)))
    clear hEn
    have a1 : w3.cell? ⟨g2, 1, none⟩ = some (.slice (some ⟨b, 0, none⟩) n c) := (HB3.out.get 1 rfl).cell 1
    have r0 : w3.cell? ⟨b, k * 7, none⟩ = some (.bool x.there) := (HB3.out.B.cell (p := ⟨b, _, none⟩) HR.out.1).trans (HR.out.2 0 (by omega))
    have r1 : w3.cell? ⟨b, k * 7 + 1, none⟩ = some (.int .i64 x.level) := (HB3.out.B.cell (p := ⟨b, _, none⟩) HR.out.1).trans (HR.out.2 1 (by omega))
    have r2 : w3.cell? ⟨b, k * 7 + 2, none⟩ = some (.slice FA fl fc) := (HB3.out.B.cell (p := ⟨b, _, none⟩) HR.out.1).trans (HR.out.2 2 (by omega))
    have r3 : w3.cell? ⟨b, k * 7 + 3, none⟩ = some (.int .i64 x.graft) := (HB3.out.B.cell (p := ⟨b, _, none⟩) HR.out.1).trans (HR.out.2 3 (by omega))
    have r4 : w3.cell? ⟨b, k * 7 + 4, none⟩ = some (.int .i64 x.cap) := (HB3.out.B.cell (p := ⟨b, _, none⟩) HR.out.1).trans (HR.out.2 4 (by omega))
    have r5 : w3.cell? ⟨b, k * 7 + 5, none⟩ = some (.int .i64 x.got) := (HB3.out.B.cell (p := ⟨b, _, none⟩) HR.out.1).trans (HR.out.2 5 (by omega))
    have r6 : w3.cell? ⟨b, k * 7 + 6, none⟩ = some (.slice QA ql qc) := (HB3.out.B.cell (p := ⟨b, _, none⟩) HR.out.1).trans (HR.out.2 6 (by omega))
    have l3 : g2 < w3.heap.size := (HB3.out.get 1 rfl).lt
    have l4 : b < w3.heap.size := Nat.lt_of_lt_of_le HR.out.1 HB3.out.B.size
    go_upto_region 4 with (first
      | (at_builtin; refine wp_qapp (B := w.heap.size) (q := []) (q2 := x.q) rfl (.tmp 25) (.tmp 31) rfl rfl rfl (QOwn.empty HB3.out.B.size) ((HX.out.2.rd).below (HB3.out.B.alloc HB3.out.B.size _)) (by have := HQL.out; simp; omega) (Nat.le_trans HB3.out.B.size (by simp)) ?_; intro A7 L7 c7 w7 HQ7 hg7))
    have HB4 : Hid (Bs w w7 [(g4, 40, [.int .i64 0, .slice none 0 0]), (g2, 40, [.int .i64 now, .slice (some ⟨b, 0, none⟩) n c])]) := Lib.hid ((HB3.out.below (below_alloc (Below.refl _ _) _)).grown hg7.out (own_block (QOwn.empty HB3.out.B.size)) (by intro b hb; simp only [List.mem_cons, List.not_mem_nil, or_false] at hb; rcases hb with rfl | rfl <;> (dsimp only; decide)))
    clear hg7 HB3
    clear l3 l4 a1 r0 r1 r2 r3 r4 r5 r6
    have hLE := HQ7.out.lenE
    rw [List.nil_append] at hLE
    have hxne : x.q ≠ [] := by intro e; have := HMY.out.1; rw [e] at this; simp at this
    obtain ⟨b9, cu9, rfl, hb9, hrest⟩ := HQ7.out.open_ (by rw [List.nil_append]; exact hxne)
    clear hrest cu9
    have HQ7 : Hid (QOwn w.heap.size w7 (.slice (some ⟨b9, 0, none⟩) L7 c7) x.q) := Lib.hid (by have := HQ7.out; rw [List.nil_append] at this; exact this)
    have hmL : m < L7 := by rw [hLE]; exact HMY.out.1
    have HB9 := Lib.hid hb9
    clear hLE hxne hb9
    obtain ⟨sy, hsy⟩ : ∃ z, z = strOfNums y.b := ⟨_, rfl⟩
    have HSY := Lib.hid hsy
    have HC := Lib.hid (HQ7.out.cells m y HMY.out.2)
    rw [← hsy] at HC
    have m0' : (0 : Int) ≤ (m : Int) := Int.natCast_nonneg _
    have q2 : w7.cell? ⟨b9, m * 3 + 2, none⟩ = some (.bool true) := (by rw [← hsp]; exact HC.out.2.2)
    clear hsy hsp
    go_upto_region 5 with (fail)
    go_wp2_with (first
      | ((with_reducible refine gate_dst (N := 38) rfl ?_); refine wp_ld HB4.out 1 rfl rfl (.tmp 5) rfl rfl Tryd.underlying40 (by kernel_rfl) ?_)
      | ((with_reducible refine gate_store (t := 40) (p := 10) rfl ?_); refine wp_st HB4.out 0 rfl (q := 0) (seg := [.int .i64 now, .slice (some ⟨b, 0, none⟩) n c]) rfl rfl rfl rfl rfl (by kernel_rfl) (Nat.le_refl _) (o_cons rfl (o_cons rfl o_nil)) ?_; intro w5 hq hf; have HB5 : Hid (Bs w w5 [(g4, 40, [.int .i64 now, .slice (some ⟨b, 0, none⟩) n c]), (g2, 40, [.int .i64 now, .slice (some ⟨b, 0, none⟩) n c])]) := hq; clear hq hf HB4))
    (try simp only [Exit.inBlock, Exit.then])
    refine bodyPost_ret (results_ct rfl _ _ g4 _ _ _ _ rfl (HB5.out.get 0 rfl) Tryd.underlying40 rfl (show (Tryd.prog.info? 40).map (·.size) = some 2 by kernel_rfl)) rfl ?_
    exact ⟨_, rfl, HN.out.below HB5.out.B, HB5.out.B⟩
  have hspf : y.sp = false := by cases hh : y.sp with
    | false => rfl
    | true => exact absurd hh hsp
  rw [if_neg hsp] at hD0
  clear hsp
  have hsp := hspf
  clear hspf
  cases hY : spoilB y.b a m0 with
  | none =>
    have HYS := Lib.hid hY
    have hD : s.spoilE (k : Int) (m : Int) a m0 = 2 := hD0.trans (by rw [hY]; rfl)
    have hS : s.spoil (k : Int) (m : Int) a m0 = s := if_neg (by rw [hD]; decide)
    rw [hS, hD]
    clear hS hD hD0 hY
    obtain ⟨b, c, FA, fl, fc, QA, ql, qc, rfl, hc, hblt, hx, hrow⟩ := h.host hk
    have HN := Lib.hid h
    have H16 := Lib.hid hn
    have HK := Lib.hid hk
    have HX := Lib.hid hx
    have HR := Lib.hid (And.intro hblt hrow)
    obtain ⟨x, hxx⟩ : ∃ x, x = s.h k := ⟨_, rfl⟩
    have HXX := Lib.hid hxx
    rw [← hxx] at HX HR
    obtain ⟨n, hnn⟩ : ∃ n, n = s.n := ⟨_, rfl⟩
    obtain ⟨now, hnow⟩ : ∃ z, z = s.now := ⟨_, rfl⟩
    have HNN := Lib.hid (And.intro hnn hnow)
    rw [← hnn, ← hnow] at HN ⊢
    rw [← hnn] at hc
    have hkn : k < n := by rw [hnn]; exact hk
    obtain ⟨i0, i1⟩ : (0 : Int) ≤ (k : Int) ∧ (k : Int) < (n : Int) := by omega
    have e0 : decide ((0 : Int) ≤ (k : Int)) = true := decide_eq_true i0
    have e1 : decide ((k : Int) < (n : Int)) = true := decide_eq_true i1
    have HB0 := Lib.hid (Bs.start w)
    clear h hn hk hx hrow hblt hxx hnn hnow
    rw [← HXX.out] at HQL hmq hy
    have HMY := Lib.hid (And.intro hmq hy)
    clear hmq hy
    go_enter Tryd.func59, Tryd.ntmps59
    go_upto_region 3 with (first
      | ((with_reducible refine gate_dst (N := 5) rfl ?_); refine wp_bx HB0.out (t := 40) (cs := [.int .i64 now, .slice (some ⟨b, 0, none⟩) n c]) rfl (.tmp 0) rfl rfl ?_; intro g2 w1 hb HB1; clear hb HB0)
      | ((with_reducible refine gate_dst (N := 10) rfl ?_); refine wp_al HB1.out (t := 40) rfl rfl al_T ?_; intro g4 w2 hb HB2; clear hb HB1)
      | ((with_reducible refine gate_dst (N := 15) rfl ?_); refine wp_ld HB2.out 1 rfl rfl (.tmp 5) rfl rfl Tryd.underlying40 (by kernel_rfl) ?_)
      | (go_at_call 65; ((with_reducible refine (place_r (HN.out.below HB2.out.B) H16.out k m).mono ?_); rintro e w3 ⟨rfl, hb⟩; rw [HE.out]; have HB3 := Lib.hid (HB2.out.below hb); clear hb)))
    clear hEn
    have a1 : w3.cell? ⟨g2, 1, none⟩ = some (.slice (some ⟨b, 0, none⟩) n c) := (HB3.out.get 1 rfl).cell 1
    have r0 : w3.cell? ⟨b, k * 7, none⟩ = some (.bool x.there) := (HB3.out.B.cell (p := ⟨b, _, none⟩) HR.out.1).trans (HR.out.2 0 (by omega))
    have r1 : w3.cell? ⟨b, k * 7 + 1, none⟩ = some (.int .i64 x.level) := (HB3.out.B.cell (p := ⟨b, _, none⟩) HR.out.1).trans (HR.out.2 1 (by omega))
    have r2 : w3.cell? ⟨b, k * 7 + 2, none⟩ = some (.slice FA fl fc) := (HB3.out.B.cell (p := ⟨b, _, none⟩) HR.out.1).trans (HR.out.2 2 (by omega))
    have r3 : w3.cell? ⟨b, k * 7 + 3, none⟩ = some (.int .i64 x.graft) := (HB3.out.B.cell (p := ⟨b, _, none⟩) HR.out.1).trans (HR.out.2 3 (by omega))
    have r4 : w3.cell? ⟨b, k * 7 + 4, none⟩ = some (.int .i64 x.cap) := (HB3.out.B.cell (p := ⟨b, _, none⟩) HR.out.1).trans (HR.out.2 4 (by omega))
    have r5 : w3.cell? ⟨b, k * 7 + 5, none⟩ = some (.int .i64 x.got) := (HB3.out.B.cell (p := ⟨b, _, none⟩) HR.out.1).trans (HR.out.2 5 (by omega))
    have r6 : w3.cell? ⟨b, k * 7 + 6, none⟩ = some (.slice QA ql qc) := (HB3.out.B.cell (p := ⟨b, _, none⟩) HR.out.1).trans (HR.out.2 6 (by omega))
    have l3 : g2 < w3.heap.size := (HB3.out.get 1 rfl).lt
    have l4 : b < w3.heap.size := Nat.lt_of_lt_of_le HR.out.1 HB3.out.B.size
    go_upto_region 4 with (first
      | (at_builtin; refine wp_qapp (B := w.heap.size) (q := []) (q2 := x.q) rfl (.tmp 25) (.tmp 31) rfl rfl rfl (QOwn.empty HB3.out.B.size) ((HX.out.2.rd).below (HB3.out.B.alloc HB3.out.B.size _)) (by have := HQL.out; simp; omega) (Nat.le_trans HB3.out.B.size (by simp)) ?_; intro A7 L7 c7 w7 HQ7 hg7))
    have HB4 : Hid (Bs w w7 [(g4, 40, [.int .i64 0, .slice none 0 0]), (g2, 40, [.int .i64 now, .slice (some ⟨b, 0, none⟩) n c])]) := Lib.hid ((HB3.out.below (below_alloc (Below.refl _ _) _)).grown hg7.out (own_block (QOwn.empty HB3.out.B.size)) (by intro b hb; simp only [List.mem_cons, List.not_mem_nil, or_false] at hb; rcases hb with rfl | rfl <;> (dsimp only; decide)))
    clear hg7 HB3
    clear l3 l4 a1 r0 r1 r2 r3 r4 r5 r6
    have hLE := HQ7.out.lenE
    rw [List.nil_append] at hLE
    have hxne : x.q ≠ [] := by intro e; have := HMY.out.1; rw [e] at this; simp at this
    obtain ⟨b9, cu9, rfl, hb9, hrest⟩ := HQ7.out.open_ (by rw [List.nil_append]; exact hxne)
    clear hrest cu9
    have HQ7 : Hid (QOwn w.heap.size w7 (.slice (some ⟨b9, 0, none⟩) L7 c7) x.q) := Lib.hid (by have := HQ7.out; rw [List.nil_append] at this; exact this)
    have hmL : m < L7 := by rw [hLE]; exact HMY.out.1
    have HB9 := Lib.hid hb9
    clear hLE hxne hb9
    obtain ⟨sy, hsy⟩ : ∃ z, z = strOfNums y.b := ⟨_, rfl⟩
    have HSY := Lib.hid hsy
    have HC := Lib.hid (HQ7.out.cells m y HMY.out.2)
    rw [← hsy] at HC
    have m0' : (0 : Int) ≤ (m : Int) := Int.natCast_nonneg _
    have q2 : w7.cell? ⟨b9, m * 3 + 2, none⟩ = some (.bool false) := (by rw [← hsp]; exact HC.out.2.2)
    clear hsy hsp
    go_upto_region 6 with (fail)
    clear q2
    have q0 := HC.out.1
    obtain ⟨A5, c5, w8, hcv, hb8, hrd8⟩ := str_bytes HBY.out w7
    rw [← HSY.out] at hcv
    have HRD8 := Lib.hid hrd8
    have HB5 := Lib.hid (HB4.out.below hb8)
    have HB78 := Lib.hid hb8
    clear hb8 hrd8
    go_upto_region 8 with (first
      | (go_at_call 67; ((refine (rspoil_calls HRD8.out (fun k hk => hk.2) HBY.out.1 a m0 HA.out.1 HA.out.2).mono ?_); rintro e w6 ⟨hq, hb⟩; rw [HYS.out] at hq; obtain rfl := hq; have HB6 := Lib.hid (HB5.out.below hb); clear hb)))
    clear hcv q0
    go_wp2_with (first
      | ((with_reducible refine gate_dst (N := 53) rfl ?_); refine wp_ld HB6.out 1 rfl rfl (.tmp 5) rfl rfl Tryd.underlying40 (by kernel_rfl) ?_)
      | ((with_reducible refine gate_store (t := 40) (p := 10) rfl ?_); refine wp_st HB6.out 0 rfl (q := 0) (seg := [.int .i64 now, .slice (some ⟨b, 0, none⟩) n c]) rfl rfl rfl rfl rfl (by kernel_rfl) (Nat.le_refl _) (o_cons rfl (o_cons rfl o_nil)) ?_; intro w7 hq hf; have HB7 : Hid (Bs w w7 [(g4, 40, [.int .i64 now, .slice (some ⟨b, 0, none⟩) n c]), (g2, 40, [.int .i64 now, .slice (some ⟨b, 0, none⟩) n c])]) := hq; clear hq hf HB6))
    (try simp only [Exit.inBlock, Exit.then])
    refine bodyPost_ret (results_ct rfl _ _ g4 _ _ _ _ rfl (HB7.out.get 0 rfl) Tryd.underlying40 rfl (show (Tryd.prog.info? 40).map (·.size) = some 2 by kernel_rfl)) rfl ?_
    exact ⟨_, rfl, HN.out.below HB7.out.B, HB7.out.B⟩
  | some Y =>
    have HYS := Lib.hid hY
    have hD : s.spoilE (k : Int) (m : Int) a m0 = 0 := hD0.trans (by rw [hY]; rfl)
    have hS : s.spoil (k : Int) (m : Int) a m0 = s.put k { s.h k with q := (s.h k).q.set m ⟨Y, y.due, true⟩ } := by
      refine (if_pos hD).trans ?_
      rw [Int.toNat_natCast, Int.toNat_natCast, modify_set hy, hY]; rfl
    rw [hS, hD]
    clear hS hD hD0 hY
    obtain ⟨b, c, FA, fl, fc, QA, ql, qc, rfl, hc, hblt, hx, hrow⟩ := h.host hk
    have HN := Lib.hid h
    have H16 := Lib.hid hn
    have HK := Lib.hid hk
    have HX := Lib.hid hx
    have HR := Lib.hid (And.intro hblt hrow)
    obtain ⟨x, hxx⟩ : ∃ x, x = s.h k := ⟨_, rfl⟩
    have HXX := Lib.hid hxx
    rw [← hxx] at HX HR
    obtain ⟨n, hnn⟩ : ∃ n, n = s.n := ⟨_, rfl⟩
    obtain ⟨now, hnow⟩ : ∃ z, z = s.now := ⟨_, rfl⟩
    have HNN := Lib.hid (And.intro hnn hnow)
    rw [← hnn, ← hnow] at HN ⊢
    rw [← hnn] at hc
    have hkn : k < n := by rw [hnn]; exact hk
    obtain ⟨i0, i1⟩ : (0 : Int) ≤ (k : Int) ∧ (k : Int) < (n : Int) := by omega
    have e0 : decide ((0 : Int) ≤ (k : Int)) = true := decide_eq_true i0
    have e1 : decide ((k : Int) < (n : Int)) = true := decide_eq_true i1
    have HB0 := Lib.hid (Bs.start w)
    clear h hn hk hx hrow hblt hxx hnn hnow
    rw [← HXX.out] at HQL hmq hy
    have HMY := Lib.hid (And.intro hmq hy)
    clear hmq hy
    go_enter Tryd.func59, Tryd.ntmps59
    go_upto_region 3 with (first
      | ((with_reducible refine gate_dst (N := 5) rfl ?_); refine wp_bx HB0.out (t := 40) (cs := [.int .i64 now, .slice (some ⟨b, 0, none⟩) n c]) rfl (.tmp 0) rfl rfl ?_; intro g2 w1 hb HB1; clear hb HB0)
      | ((with_reducible refine gate_dst (N := 10) rfl ?_); refine wp_al HB1.out (t := 40) rfl rfl al_T ?_; intro g4 w2 hb HB2; clear hb HB1)
      | ((with_reducible refine gate_dst (N := 15) rfl ?_); refine wp_ld HB2.out 1 rfl rfl (.tmp 5) rfl rfl Tryd.underlying40 (by kernel_rfl) ?_)
      | (go_at_call 65; ((with_reducible refine (place_r (HN.out.below HB2.out.B) H16.out k m).mono ?_); rintro e w3 ⟨rfl, hb⟩; rw [HE.out]; have HB3 := Lib.hid (HB2.out.below hb); clear hb)))
    clear hEn
    have a1 : w3.cell? ⟨g2, 1, none⟩ = some (.slice (some ⟨b, 0, none⟩) n c) := (HB3.out.get 1 rfl).cell 1
    have r0 : w3.cell? ⟨b, k * 7, none⟩ = some (.bool x.there) := (HB3.out.B.cell (p := ⟨b, _, none⟩) HR.out.1).trans (HR.out.2 0 (by omega))
    have r1 : w3.cell? ⟨b, k * 7 + 1, none⟩ = some (.int .i64 x.level) := (HB3.out.B.cell (p := ⟨b, _, none⟩) HR.out.1).trans (HR.out.2 1 (by omega))
    have r2 : w3.cell? ⟨b, k * 7 + 2, none⟩ = some (.slice FA fl fc) := (HB3.out.B.cell (p := ⟨b, _, none⟩) HR.out.1).trans (HR.out.2 2 (by omega))
    have r3 : w3.cell? ⟨b, k * 7 + 3, none⟩ = some (.int .i64 x.graft) := (HB3.out.B.cell (p := ⟨b, _, none⟩) HR.out.1).trans (HR.out.2 3 (by omega))
    have r4 : w3.cell? ⟨b, k * 7 + 4, none⟩ = some (.int .i64 x.cap) := (HB3.out.B.cell (p := ⟨b, _, none⟩) HR.out.1).trans (HR.out.2 4 (by omega))
    have r5 : w3.cell? ⟨b, k * 7 + 5, none⟩ = some (.int .i64 x.got) := (HB3.out.B.cell (p := ⟨b, _, none⟩) HR.out.1).trans (HR.out.2 5 (by omega))
    have r6 : w3.cell? ⟨b, k * 7 + 6, none⟩ = some (.slice QA ql qc) := (HB3.out.B.cell (p := ⟨b, _, none⟩) HR.out.1).trans (HR.out.2 6 (by omega))
    have l3 : g2 < w3.heap.size := (HB3.out.get 1 rfl).lt
    have l4 : b < w3.heap.size := Nat.lt_of_lt_of_le HR.out.1 HB3.out.B.size
    go_upto_region 4 with (first
      | (at_builtin; refine wp_qapp (B := w.heap.size) (q := []) (q2 := x.q) rfl (.tmp 25) (.tmp 31) rfl rfl rfl (QOwn.empty HB3.out.B.size) ((HX.out.2.rd).below (HB3.out.B.alloc HB3.out.B.size _)) (by have := HQL.out; simp; omega) (Nat.le_trans HB3.out.B.size (by simp)) ?_; intro A7 L7 c7 w7 HQ7 hg7))
    have HB4 : Hid (Bs w w7 [(g4, 40, [.int .i64 0, .slice none 0 0]), (g2, 40, [.int .i64 now, .slice (some ⟨b, 0, none⟩) n c])]) := Lib.hid ((HB3.out.below (below_alloc (Below.refl _ _) _)).grown hg7.out (own_block (QOwn.empty HB3.out.B.size)) (by intro b hb; simp only [List.mem_cons, List.not_mem_nil, or_false] at hb; rcases hb with rfl | rfl <;> (dsimp only; decide)))
    clear hg7 HB3
    clear l3 l4 a1 r0 r1 r2 r3 r4 r5 r6
    have hLE := HQ7.out.lenE
    rw [List.nil_append] at hLE
    have hxne : x.q ≠ [] := by intro e; have := HMY.out.1; rw [e] at this; simp at this
    obtain ⟨b9, cu9, rfl, hb9, hrest⟩ := HQ7.out.open_ (by rw [List.nil_append]; exact hxne)
    clear hrest cu9
    have HQ7 : Hid (QOwn w.heap.size w7 (.slice (some ⟨b9, 0, none⟩) L7 c7) x.q) := Lib.hid (by have := HQ7.out; rw [List.nil_append] at this; exact this)
    have hmL : m < L7 := by rw [hLE]; exact HMY.out.1
    have HB9 := Lib.hid hb9
    clear hLE hxne hb9
    obtain ⟨sy, hsy⟩ : ∃ z, z = strOfNums y.b := ⟨_, rfl⟩
    have HSY := Lib.hid hsy
    have HC := Lib.hid (HQ7.out.cells m y HMY.out.2)
    rw [← hsy] at HC
    have m0' : (0 : Int) ≤ (m : Int) := Int.natCast_nonneg _
    have q2 : w7.cell? ⟨b9, m * 3 + 2, none⟩ = some (.bool false) := (by rw [← hsp]; exact HC.out.2.2)
    clear hsy hsp
    go_upto_region 6 with (fail)
    clear q2
    have q0 := HC.out.1
    obtain ⟨A5, c5, w8, hcv, hb8, hrd8⟩ := str_bytes HBY.out w7
    rw [← HSY.out] at hcv
    have HRD8 := Lib.hid hrd8
    have HB5 := Lib.hid (HB4.out.below hb8)
    have HB78 := Lib.hid hb8
    clear hb8 hrd8
    go_upto_region 9 with (first
      | (go_at_call 67; ((refine (rspoil_calls HRD8.out (fun k hk => hk.2) HBY.out.1 a m0 HA.out.1 HA.out.2).mono ?_); rintro e w6 ⟨hq, hb⟩; rw [HYS.out] at hq; obtain ⟨A6, c6, rfl, hrb6⟩ := hq; have HRB6 := Lib.hid hrb6; have HB89 := Lib.hid hb; have HB6 := Lib.hid (HB5.out.below hb); clear hb hrb6)))
    clear hcv q0
    obtain ⟨sY, hsY⟩ : ∃ z, z = strOfNums Y := ⟨_, rfl⟩
    have HSYY := Lib.hid hsY
    obtain ⟨yl, hyl⟩ : ∃ z, z = Y.length := ⟨_, rfl⟩
    have HYL := Lib.hid hyl
    rw [← hyl] at HRB6 ⊢
    clear hsY hyl
    have HQ9 := Lib.hid ((HQ7.out.below HB78.out).below HB89.out)
    have HC9 := Lib.hid (HQ9.out.cells m y HMY.out.2)
    have HRDY : Hid (∀ w', Below w6.heap.size w6 w' → RdB (fun _ => True) w' (.slice A6 yl c6) Y) := Lib.hid (fun w' hb => HRB6.out.rdt.below hb)
    have hYne : True := trivial
    clear HC hYne
    have m1 : (m : Int) < (L7 : Int) := by omega
    refine start_ (n := 12) (S := fun w' => w'.cell? ⟨b9, m * 3 + 1, none⟩ = some (.int .i64 y.due) ∧ Below w6.heap.size w6 w') (ds := [11]) #[false, false, false, false, false, false, false, false, false, false, false, false] (by kernel_rfl) rfl rfl ⟨HC9.out.2.1, (Below.refl _ _).drew⟩ (fun hHeld => ?_)
    refine pu_ 0 55 (bm_ 12 0x1) ?_
    refine pu_ 1 56 (bm_ 12 0x3) ?_
    refine pu_ 2 57 (bm_ 12 0x7) ?_
    refine take_ (i := 3) (N := some 58) (v := .string sY) (bm_ 12 0xf) rfl rfl (by kernel_rfl) (fun _ _ _ h => h) (Or.inl ⟨by rfl, fun w' hs => run_cnv (.tmp 57) rfl rfl (HSYY.out ▸ (HRDY.out _ hs.2).str)⟩) hHeld rfl ?_
    refine nm_ 58 ?_
    refine pu_ 4 59 (bm_ 12 0x1f) ?_
    refine pu_ 5 60 (bm_ 12 0x3f) ?_
    refine pu_ 6 61 (bm_ 12 0x7f) ?_
    refine pu_ 7 62 (bm_ 12 0xff) ?_
    refine tk_ 8 63 (bm_ 12 0x1ff) hHeld ?_
    refine pu_ 9 64 (bm_ 12 0x3ff) ?_
    refine pu_ 10 65 (bm_ 12 0x7ff) ?_
    refine la_ 11 none (bm_ 12 0xfff) fun K hK => ?_
    refine skip_ (by rfl) rfl (w1 := w6.drew.setCells b9 (m * 3) (itR ⟨Y, y.due, true⟩)) (run_stq (HQ9.out.below (w' := w6.drew) (Below.refl _ _).drew) m HMY.out.1 rfl rfl (by rw [show (itR ⟨Y, y.due, true⟩).toArray = #[.string sY, .int .i64 y.due, .bool true] by rw [HSYY.out]; rfl]; rfl)) ?_
    refine hK.out _ _ ?_
    obtain ⟨hq10, hg10⟩ := (HQ9.out.below (w' := w6.drew) (Below.refl _ _).drew).put m HMY.out.1 ⟨Y, y.due, true⟩
    have HQ10 := Lib.hid hq10
    have HBX : Hid (Bs w (w6.drew.setCells b9 (m * 3) (itR ⟨Y, y.due, true⟩)) [(g4, 40, [.int .i64 0, .slice none 0 0]), (g2, 40, [.int .i64 now, .slice (some ⟨b, 0, none⟩) n c])]) := Lib.hid ((HB6.out.below (Below.refl _ _).drew).grown hg10 (fun r hr => own_block (HQ9.out.below (w' := w6.drew) (Below.refl _ _).drew) r (by rw [← hr]; rfl)) (by intro b hb; simp only [List.mem_cons, List.not_mem_nil, or_false] at hb; rcases hb with rfl | rfl <;> (dsimp only; decide)))
    generalize (w6.drew.setCells b9 (m * 3) (itR ⟨Y, y.due, true⟩)) = w10 at HQ10 HBX ⊢
    clear hK K hHeld hq10 hg10 HQ9 HC9 m0' m1 hmL HB6
    refine done_ (by kernel_rfl) ?_
    go_wp2_with (first
      | ((with_reducible refine gate_dst (N := 66) rfl ?_); refine wp_ld HBX.out 1 rfl rfl (.tmp 5) rfl rfl Tryd.underlying40 (by kernel_rfl) ?_)
      | (go_at_call 66; refine (queue_r (HN.out.below HBX.out.B) H16.out k HK.out (some ⟨b9, 0, none⟩) L7 c7 (x.q.set m ⟨Y, y.due, true⟩) HQ10.out.ref).mono ?_; rintro e w7 ⟨v', rfl, hv, hb⟩; obtain ⟨b5, c5, rfl, hc5⟩ := hv.spell (now := now) (n := n) HNN.out.2 HNN.out.1; have HV := Lib.hid hv; have HB7 := Lib.hid (HBX.out.below hb); clear hv hb hc5 HBX)
      | ((with_reducible refine gate_store (t := 40) (p := 10) rfl ?_); refine wp_st HB7.out 0 rfl (q := 0) (seg := [Value.int .i64 now, .slice (some ⟨b5, 0, none⟩) n c5]) rfl rfl rfl rfl rfl (by kernel_rfl) (Nat.le_refl _) (o_cons rfl (o_cons rfl o_nil)) ?_; intro w8 hq hf; have HB8 : Hid (Bs w w8 [(g4, 40, [Value.int .i64 now, .slice (some ⟨b5, 0, none⟩) n c5]), (g2, 40, [.int .i64 now, .slice (some ⟨b, 0, none⟩) n c])]) := hq; have HV2 := Lib.hid (HV.out.st hf.out); clear hq hf HB7))
    (try simp only [Exit.inBlock, Exit.then])
    refine bodyPost_ret (results_ct rfl _ _ g4 _ _ _ _ rfl (HB8.out.get 0 rfl) Tryd.underlying40 rfl (show (Tryd.prog.info? 40).map (·.size) = some 2 by kernel_rfl)) rfl ?_
    exact ⟨_, rfl, by have hh := HV2.out; rw [← HXX.out] at hh; rw [← HXX.out]; exact hh, HB8.out.B⟩
end
section
open Go.RowKit Go.Deep Go.Proofs.YtpfpdbbgiimnmaaDoor.Er Go.Proofs.YtpfpdbbgiimnmaaDoor.Mod Go.Proofs.YtpfpdbbgiimnmaaDoorW.PrintWords Go.Proofs.YtpfpdbbgiimnmaaDoorW.PrintLast
/-- Blocks of bytes. -/
def TyD (w : World) (k : Nat) : Prop := ∃ cur fr, w.heap[k]? = some (.cells cur 5 fr)
theorem RdB.keepT {w w' : World} {v : Value} {l : List Int} (h : RdB (TyD w) w v l) (hk : ∀ (k : Nat) (cur : Array Value) (fr : Nat × Nat), w.heap[k]? = some (Obj.cells cur 5 fr) → w'.heap[k]? = w.heap[k]?) : RdB (TyD w') w' v l := by
  obtain ⟨A, c, h1, h2, h3, h4, h5⟩ := h.keep (w' := w') (fun k ⟨cur, fr, e⟩ => hk k cur fr e)
  refine ⟨A, c, h1, h2, h3, h4, fun hne => ?_⟩
  obtain ⟨a, e, ⟨cur, fr, hd⟩, hx⟩ := h5 hne
  exact ⟨a, e, ⟨cur, fr, (hk _ cur fr hd).trans hd⟩, hx⟩
theorem RdB.belowT {w w' : World} {v : Value} {l : List Int} (h : RdB (TyD w) w v l) (hb : Below w.heap.size w w') : RdB (TyD w') w' v l := h.keepT (fun k cur fr e => hb.block k (lt_of e))
theorem str_bytesT {b : List Int} (hb : ByOk b) (W : World) : ∃ A c w', (convert 9 22 (.string (strOfNums b))).run Tryd.prog W = .ok (.slice A b.length c) w' ∧ Below W.heap.size W w' ∧ RdB (TyD w') w' (.slice A b.length c) b := by
  obtain ⟨A, c, w', hr, hB, hrd⟩ := str_bytes hb W
  refine ⟨A, c, w', hr, hB, ?_⟩
  have hr2 := Lib.run_convert_string_bytes (P := Tryd.prog) W 9 22 5 (strOfNums b) Tryd.underlying9 Tryd.underlying22 Tryd.underlying5
  rw [hr] at hr2
  injection hr2 with e1 e2
  injection e1 with e3 _ _
  obtain ⟨A', c', h1, h2, h3, h4, h5⟩ := hrd
  refine ⟨A', c', h1, h2, h3, h4, fun hne => ?_⟩
  obtain ⟨a, e, _, hx⟩ := h5 hne
  refine ⟨a, e, ?_, hx⟩
  cases h1
  rw [e3] at e
  cases e
  exact ⟨_, _, by rw [e2]; exact Lib.bytesWorld_at_new W _ _⟩
/-- Lists of bytes in a row of one's own. -/
def OutQ (B : Nat) (w : World) (v : Value) (l : List (List Int)) : Prop := ∃ vs : List (Value × List Int), vs.map (·.2) = l ∧ w.ownsRow B 22 1 v l.length (vs.map (·.1)) ∧ ∀ p ∈ vs, RdB (TyD w) w p.1 p.2
theorem OutQ.below {B : Nat} {w w' : World} {v : Value} {l : List (List Int)} (h : OutQ B w v l) (hb : Below w.heap.size w w') : OutQ B w' v l := by
  obtain ⟨vs, h1, h2, h3⟩ := h
  exact ⟨vs, h1, own_below h2 hb, fun p hp => (h3 p hp).belowT hb⟩
theorem OutQ.empty {B : Nat} {w : World} (hB : B ≤ w.heap.size) : OutQ B (w.alloc (.cells #[] 22)) (.slice (some ⟨w.heap.size, 0, none⟩) 0 0) [] := ⟨[], rfl, own_empty hB, fun _ h => nomatch h⟩
theorem OutQ.own {B : Nat} {w : World} {v : Value} {l : List (List Int)} (h : OutQ B w v l) : ∀ r, v.ownBlock = some r → B ≤ r ∧ ∃ cur, w.heap[r]? = some (.cells cur 22 (0, 0)) := fun r hr => by
  obtain ⟨vs, h1, h2, h3⟩ := h
  exact own_at h2 hr
theorem OutQ.grown {B : Nat} {w w' : World} {v : Value} {l : List (List Int)} {row : Option Nat} {e : Nat} (h : OutQ B w v l) (hg : w.grownBy w' row) (hr : ∀ r, row = some r → ∃ cur, w.heap[r]? = some (.cells cur e (0, 0))) (he : e ≠ 22 ∧ e ≠ 5) : OutQ B w' v l := by
  obtain ⟨vs, h1, h2, h3⟩ := h
  refine ⟨vs, h1, own_keep h2 (fun b hb => ?_), fun p hp => (h3 p hp).keepT (fun k cur fr hc => hg.block k (lt_of hc) (fun e2 => ?_))⟩
  · obtain ⟨_, cur, hc⟩ := own_at h2 hb
    refine hg.block b (lt_of hc) (fun e2 => ?_)
    obtain ⟨cur', hc'⟩ := hr b e2.symm
    rw [hc] at hc'; cases hc'; exact he.1 rfl
  · obtain ⟨cur', hc'⟩ := hr k e2.symm
    rw [hc] at hc'; cases hc'; exact he.2 rfl
theorem OutQ.st {B : Nat} {W W1 : World} {v : Value} {l : List (List Int)} {g t : Nat} {cs : List Value} (h : OutQ B W v l) (hf : Bk W g t cs ∧ ∀ i, i ≠ g → W1.heap[i]? = W.heap[i]?) (he : t ≠ 22 ∧ t ≠ 5) : OutQ B W1 v l := by
  obtain ⟨vs, h1, h2, h3⟩ := h
  have hk := hf.1
  unfold Bk at hk
  refine ⟨vs, h1, own_keep h2 (fun b hb => hf.2 b (fun e => ?_)), fun p hp => (h3 p hp).keepT (fun k cur fr hc => hf.2 k (fun e => ?_))⟩
  · obtain ⟨_, cur, hc⟩ := own_at h2 hb
    subst e
    rw [hk] at hc; cases hc; exact he.1 rfl
  · subst e
    rw [hk] at hc; cases hc; exact he.2 rfl
theorem QOwn.grown {B : Nat} {w w' : World} {v : Value} {q : List It} {row : Option Nat} {e : Nat} (h : QOwn B w v q) (hg : w.grownBy w' row) (hr : ∀ r, row = some r → ∃ cur, w.heap[r]? = some (.cells cur e (0, 0))) (he : e ≠ 116) : QOwn B w' v q := own_keep h (fun b hb => by
    obtain ⟨_, cur, hc⟩ := own_at h hb
    refine hg.block b (lt_of hc) (fun e2 => ?_)
    obtain ⟨cur', hc'⟩ := hr b e2.symm
    rw [hc] at hc'; cases hc'; exact he rfl)
/-- append(out, x). -/
theorem wp_oapp {ops : Array Oper} {rest : List Oper} {o : Oper} {a : Act} {Q : Exit → Act → World → Prop} {w : World} {B g : Nat} {v bv : Value} {l : List (List Int)} {x : List Int} (hgd : o.guard = none) (s y : Operand) (ho : o.op = .call { callee := .builtin .append, args := #[s, y], argTypes := #[54, 54] }) (hs : a.eval s = v) (hy : a.eval y = .slice (some ⟨g, 0, none⟩) 1 1) (h : OutQ B w v l) (hc : w.cell? ⟨g, 0, none⟩ = some bv) (hx : RdB (TyD w) w bv x) (hl : l.length < 1000000000000) (hB : B ≤ w.heap.size)
    (hk : ∀ (A : Option Addr) (L c : Nat) (w' : World), Hid (OutQ B w' (.slice A L c) (l ++ [x])) → Hid (w.grownBy w' v.ownBlock) → wpList Tryd.prog ops Q rest (a.put o.dst (.slice A L c)) w') : wpList Tryd.prog ops Q (o :: rest) a w := by
  obtain ⟨i, hi, hz0, hz1, hz2⟩ := info_parts infoS
  obtain ⟨vs, h1, h2, h3⟩ := h
  have hone : bv.oneCell' = true := by obtain ⟨_, _, rfl, _⟩ := hx; rfl
  have hadd : (⟨g, 0, none⟩ : Addr).add 0 = ⟨g, 0, none⟩ := rfl
  obtain ⟨v', w', hr, ho', hg, _⟩ := run_append_own (P := Tryd.prog) w B 54 o.type 22 i _ 1 24 Tryd.underlying54 hi hz0 hz1 hz2 rfl (by decide) v l.length (vs.map (·.1)) h2 ⟨g, 0, none⟩ 1 1 [bv] rfl (fun j u hu => by
    match j, hu with
    | 0, hu => rw [hadd]; cases hu; exact hc
    | j + 1, hu => simp at hu) (fun u hu => by simp at hu; subst hu; exact hone) (by simp only [maxLen]; omega) (by omega) hB
  have hO : OutQ B w' v' (l ++ [x]) := by
    have hkp : ∀ (k : Nat) (cur : Array Value) (fr : Nat × Nat), w.heap[k]? = some (Obj.cells cur 5 fr) → w'.heap[k]? = w.heap[k]? := fun k cur fr e => hg.block k (lt_of e) (fun e2 => by
      obtain ⟨_, cur', hc'⟩ := own_at h2 e2.symm
      rw [e] at hc'; cases hc')
    refine ⟨vs ++ [(bv, x)], by rw [List.map_append, h1]; rfl, ?_, fun p hp => ?_⟩
    · rw [List.length_append, List.map_append]; exact ho'
    · rcases List.mem_append.1 hp with hp | hp
      · exact (h3 p hp).keepT hkp
      · obtain rfl : p = (bv, x) := by simpa using hp
        exact hx.keepT hkp
  have hform : ∃ A c, v' = .slice A (l ++ [x]).length c := by
    obtain ⟨vs', _, h2', _⟩ := hO
    rcases h2'.2 with ⟨rfl, e⟩ | ⟨b, cap, cur, rfl, _⟩
    · exact ⟨none, 0, by rw [e]⟩
    · exact ⟨_, _, rfl⟩
  obtain ⟨A', c', rfl⟩ := hform
  refine wpList_plain hgd fun K hK => ?_
  unfold Oper.wp
  rw [run_app ho hs hy hr]
  exact hK _ _ (hk _ _ _ w' (Lib.hid hO) (Lib.hid hg))
theorem OutQ.outV {B : Nat} {w : World} {v : Value} {l : List (List Int)} (h : OutQ B w v l) (hl : l.length ≤ 5000000000000) : OutV w v l := by
  obtain ⟨vs, h1, h2, h3⟩ := h
  have hlen : vs.length = l.length := by rw [← h1, List.length_map]
  rcases h2.2 with ⟨rfl, e⟩ | ⟨b, cap, cur, rfl, _, hc, k1, k2, k3, k4⟩
  · exact ⟨none, 0, by rw [e], by omega, hl, fun hne => absurd (List.length_eq_zero_iff.1 e) hne⟩
  · refine ⟨_, cap, rfl, k1, hl, fun _ => ⟨b, rfl, fun j x hj => ?_⟩⟩
    have hjl : j < l.length := (List.getElem?_eq_some_iff.1 hj).1
    have hp : vs[j]? = some (vs[j]'(by omega)) := List.getElem?_eq_getElem _
    have hx2 : (vs[j]'(by omega)).2 = x := by
      have : (vs.map (·.2))[j]? = some (vs[j]'(by omega)).2 := by rw [List.getElem?_map, hp]; rfl
      rw [h1, hj] at this; cases this; rfl
    refine ⟨(vs[j]'(by omega)).1, ?_, ?_⟩
    · have e : (cur.toList.take (l.length * 1))[j]? = some (vs[j]'(by omega)).1 := by rw [k4, List.getElem?_map, hp]; rfl
      rw [Nat.mul_one, List.getElem?_take, if_pos hjl] at e
      simpa [World.cell?, hc] using e
    · obtain ⟨A, c, q1, q2, q3, q4, q5⟩ := h3 _ (List.getElem_mem (by omega : j < vs.length))
      rw [hx2] at q1 q2 q3 q4 q5
      exact ⟨A, c, q1, q2, q3, q4, fun hne => by obtain ⟨a, e, _, q⟩ := q5 hne; exact ⟨a, e, trivial, q⟩⟩
theorem due_snoc (now : Int) {q : List It} {j : Nat} {y : It} (h : q[j]? = some y) (hd : y.due ≤ now) : dueNow now (q.take (j + 1)) = dueNow now (q.take j) ++ [y.b] ∧ later now (q.take (j + 1)) = later now (q.take j) := by
  rw [takeL_snoc h]; unfold dueNow later; simp [hd]
theorem later_snoc (now : Int) {q : List It} {j : Nat} {y : It} (h : q[j]? = some y) (hd : ¬ y.due ≤ now) : dueNow now (q.take (j + 1)) = dueNow now (q.take j) ∧ later now (q.take (j + 1)) = later now (q.take j) ++ [y] := by
  rw [takeL_snoc h]; unfold dueNow later; simp [hd]
theorem due_len (now : Int) (q : List It) (j : Nat) : (dueNow now (q.take j)).length ≤ j ∧ (later now (q.take j)).length ≤ j := by
  constructor
  · unfold dueNow; rw [List.length_map]; exact Nat.le_trans (List.length_filter_le _ _) (by rw [List.length_take]; omega)
  · exact Nat.le_trans (List.length_filter_le _ _) (by rw [List.length_take]; omega)
theorem QRef.cells {w : World} {A : Option Addr} {L c : Nat} {q : List It} (h : QRef w (.slice A L c) q) (hne : q ≠ []) : ∃ b, A = some ⟨b, 0, none⟩ ∧ b < w.heap.size ∧ ∀ j y, q[j]? = some y → w.cell? ⟨b, j * 3, none⟩ = some (.string (strOfNums y.b)) ∧ w.cell? ⟨b, j * 3 + 1, none⟩ = some (.int .i64 y.due) ∧ w.cell? ⟨b, j * 3 + 2, none⟩ = some (.bool y.sp) := by
  obtain ⟨A', c', e, h1, h2⟩ := h
  cases e
  obtain ⟨b, cur, rfl, hc, hx⟩ := h2 hne
  refine ⟨b, rfl, lt_of hc, fun j y hj => ?_⟩
  have key : ∀ i, i < 3 → w.cell? ⟨b, j * 3 + i, none⟩ = (itR y)[i]? := fun i hi => by rw [← hx j y i hj hi]; simp [World.cell?, hc]
  exact ⟨key 0 (by omega), key 1 (by omega), key 2 (by omega)⟩
set_option maxHeartbeats 8000000 in
set_option maxRecDepth 100000 in
theorem take_r {w : World} {v : Value} {s : Nt} (h : NRef w v s) (hn : s.n ≤ 16) (hq : ∀ k, k < s.n → (s.h k).q.length < 900000000000) (hby : ∀ k, k < s.n → ∀ y ∈ (s.h k).q, ByOk y.b) (i : Int) : Calls Tryd.prog 43 #[v, .int .i64 i] w fun e w' => ∃ v' vo, e = .returned (.tuple #[v', vo]) ∧ NRef w' v' (s.take i) ∧ OutQ w.heap.size w' vo (s.taken i) ∧ Below w.heap.size w w' := by
  by_cases ha : s.at i = 0
  rotate_left
  · skip
    have hS : s.take i = s := if_neg ha
    have hT : s.taken i = [] := if_neg ha
    have HIs := Lib.hid (at_dec ha)
    rw [hS, hT]
    clear ha hS hT hq hby
    obtain ⟨b, c, rfl, hc, _⟩ := h.parts
    have HN := Lib.hid h
    have H16 := Lib.hid hn
    obtain ⟨n, hnn⟩ : ∃ n, n = s.n := ⟨_, rfl⟩
    obtain ⟨now, hnow⟩ : ∃ z, z = s.now := ⟨_, rfl⟩
    rw [← hnn, ← hnow] at HN ⊢
    rw [← hnn] at hc
    have HB0 := Lib.hid (Bs.start w)
    clear h hn hnn hnow
    go_enter Tryd.func43, Tryd.ntmps43
    go_wp2_with (first
      | ((with_reducible refine gate_dst (N := 2) rfl ?_); refine wp_bx HB0.out (t := 40) (cs := [.int .i64 now, .slice (some ⟨b, 0, none⟩) n c]) rfl (.tmp 0) rfl rfl ?_; intro g2 w1 hb HB1; clear hb HB0)
      | ((with_reducible refine gate_dst (N := 4) rfl ?_); refine wp_al HB1.out (t := 40) rfl rfl al_T ?_; intro g4 w2 hb HB2; clear hb HB1)
      | ((with_reducible refine gate_dst (N := 10) rfl ?_); refine wp_ld HB2.out 1 rfl rfl (.tmp 2) rfl rfl Tryd.underlying40 (by kernel_rfl) ?_)
      | (go_at_call 46; refine (is_calls (HN.out.below HB2.out.B) H16.out i).mono ?_; rintro e w3 ⟨rfl, hb⟩; rw [HIs.out]; have HB3 := Lib.hid (HB2.out.below hb); clear hb HB2)
      | ((with_reducible refine gate_dst (N := 14) rfl ?_); refine wp_ld HB3.out 1 rfl rfl (.tmp 2) rfl rfl Tryd.underlying40 (by kernel_rfl) ?_)
      | ((with_reducible refine gate_store (t := 40) (p := 4) rfl ?_); refine wp_st HB3.out 0 rfl (q := 0) (seg := [.int .i64 now, .slice (some ⟨b, 0, none⟩) n c]) rfl rfl rfl rfl rfl (by kernel_rfl) (Nat.le_refl _) (o_cons rfl (o_cons rfl o_nil)) ?_; intro w4 hq hf; have HB4 : Hid (Bs w w4 [(g4, 40, [.int .i64 now, .slice (some ⟨b, 0, none⟩) n c]), (g2, 40, [.int .i64 now, .slice (some ⟨b, 0, none⟩) n c])]) := hq; clear hq hf HB3))
    (try simp only [Exit.inBlock, Exit.then])
    refine bodyPost_ret (results_ct rfl _ _ g4 _ _ _ _ rfl (HB4.out.get 0 rfl) Tryd.underlying40 rfl (show (Tryd.prog.info? 40).map (·.size) = some 2 by kernel_rfl)) rfl ?_
    exact ⟨_, _, rfl, HN.out.below HB4.out.B, ⟨[], rfl, ⟨by simp, .inl ⟨rfl, rfl⟩⟩, fun _ h => nomatch h⟩, HB4.out.B⟩
  obtain ⟨k, rfl, hk⟩ := at_of ha
  have hS : s.take (k : Int) = s.put k { s.h k with q := later s.now (s.h k).q } := (if_pos ha).trans (by rw [Int.toNat_natCast])
  have hT : s.taken (k : Int) = dueNow s.now (s.h k).q := (if_pos ha).trans (by rw [Int.toNat_natCast])
  have HIs := Lib.hid (at_dec1 hk)
  rw [hS, hT]
  have HQL := Lib.hid (hq k hk)
  have HBY := Lib.hid (hby k hk)
  clear ha hS hT hq hby
  obtain ⟨b, c, FA, fl, fc, QA, ql, qc, rfl, hc, hblt, hx, hrow⟩ := h.host hk
  have HN := Lib.hid h
  have H16 := Lib.hid hn
  have HK := Lib.hid hk
  have HX := Lib.hid hx
  have HR := Lib.hid (And.intro hblt hrow)
  obtain ⟨x, hxx⟩ : ∃ x, x = s.h k := ⟨_, rfl⟩
  have HXX := Lib.hid hxx
  rw [← hxx] at HX HR
  obtain ⟨n, hnn⟩ : ∃ n, n = s.n := ⟨_, rfl⟩
  obtain ⟨now, hnow⟩ : ∃ z, z = s.now := ⟨_, rfl⟩
  have HNN := Lib.hid (And.intro hnn hnow)
  rw [← hnn, ← hnow] at HN ⊢
  rw [← hnn] at hc
  have hkn : k < n := by rw [hnn]; exact hk
  obtain ⟨i0, i1⟩ : (0 : Int) ≤ (k : Int) ∧ (k : Int) < (n : Int) := by omega
  have e0 : decide ((0 : Int) ≤ (k : Int)) = true := decide_eq_true i0
  have e1 : decide ((k : Int) < (n : Int)) = true := decide_eq_true i1
  have HB0 := Lib.hid (Bs.start w)
  clear h hn hk hx hrow hblt hxx hnn hnow
  rw [← HXX.out] at HQL HBY ⊢
  obtain ⟨hqa, hqc⟩ := HX.out.2.cap
  have HQC := Lib.hid hqa
  clear hqa
  go_enter Tryd.func43, Tryd.ntmps43
  go_upto_region 3 with (first
    | ((with_reducible refine gate_dst (N := 2) rfl ?_); refine wp_bx HB0.out (t := 40) (cs := [.int .i64 now, .slice (some ⟨b, 0, none⟩) n c]) rfl (.tmp 0) rfl rfl ?_; intro g2 w1 hb HB1; clear hb HB0)
    | ((with_reducible refine gate_dst (N := 4) rfl ?_); refine wp_al HB1.out (t := 40) rfl rfl al_T ?_; intro g4 w2 hb HB2; clear hb HB1)
    | ((with_reducible refine gate_dst (N := 10) rfl ?_); refine wp_ld HB2.out 1 rfl rfl (.tmp 2) rfl rfl Tryd.underlying40 (by kernel_rfl) ?_)
    | (go_at_call 46; refine (is_calls (HN.out.below HB2.out.B) H16.out k).mono ?_; rintro e w3 ⟨rfl, hb⟩; rw [HIs.out]; have HB3 := Lib.hid (HB2.out.below hb); clear hb HB2))
  have a1 : w3.cell? ⟨g2, 1, none⟩ = some (.slice (some ⟨b, 0, none⟩) n c) := (HB3.out.get 1 rfl).cell 1
  have r0 : w3.cell? ⟨b, k * 7, none⟩ = some (.bool x.there) := (HB3.out.B.cell (p := ⟨b, _, none⟩) HR.out.1).trans (HR.out.2 0 (by omega))
  have r1 : w3.cell? ⟨b, k * 7 + 1, none⟩ = some (.int .i64 x.level) := (HB3.out.B.cell (p := ⟨b, _, none⟩) HR.out.1).trans (HR.out.2 1 (by omega))
  have r2 : w3.cell? ⟨b, k * 7 + 2, none⟩ = some (.slice FA fl fc) := (HB3.out.B.cell (p := ⟨b, _, none⟩) HR.out.1).trans (HR.out.2 2 (by omega))
  have r3 : w3.cell? ⟨b, k * 7 + 3, none⟩ = some (.int .i64 x.graft) := (HB3.out.B.cell (p := ⟨b, _, none⟩) HR.out.1).trans (HR.out.2 3 (by omega))
  have r4 : w3.cell? ⟨b, k * 7 + 4, none⟩ = some (.int .i64 x.cap) := (HB3.out.B.cell (p := ⟨b, _, none⟩) HR.out.1).trans (HR.out.2 4 (by omega))
  have r5 : w3.cell? ⟨b, k * 7 + 5, none⟩ = some (.int .i64 x.got) := (HB3.out.B.cell (p := ⟨b, _, none⟩) HR.out.1).trans (HR.out.2 5 (by omega))
  have r6 : w3.cell? ⟨b, k * 7 + 6, none⟩ = some (.slice QA ql qc) := (HB3.out.B.cell (p := ⟨b, _, none⟩) HR.out.1).trans (HR.out.2 6 (by omega))
  go_upto_region 4 with (first
    | ((with_reducible refine gate_dst (N := 6) rfl ?_); refine wp_al HB3.out (t := 89) rfl rfl al_H ?_; intro g6 w4 hb HB4; clear hb HB3)
    | ((with_reducible refine gate_store (t := 89) (p := 6) rfl ?_); refine wp_st HB4.out 0 rfl (q := 0) (seg := [.bool x.there, .int .i64 x.level, .slice FA fl fc, .int .i64 x.graft, .int .i64 x.cap, .int .i64 x.got, .slice QA ql qc]) rfl rfl rfl rfl rfl (by kernel_rfl) (Nat.le_refl _) (o_cons rfl (o_cons rfl (o_cons rfl (o_cons rfl (o_cons rfl (o_cons rfl (o_cons rfl o_nil))))))) ?_; intro w5 hq hf; have HB5 : Hid (Bs w w5 [(g6, 89, [.bool x.there, .int .i64 x.level, .slice FA fl fc, .int .i64 x.graft, .int .i64 x.cap, .int .i64 x.got, .slice QA ql qc]), (g4, 40, [.int .i64 0, .slice none 0 0]), (g2, 40, [.int .i64 now, .slice (some ⟨b, 0, none⟩) n c])]) := hq; clear hq hf HB4))
  clear a1 r0 r1 r2 r3 r4 r5 r6
  go_wp2
  have HA0 : Hid (Bs w ((w5.alloc (.cells #[] 22)).alloc (.cells #[] 116)) [(g6, 89, [.bool x.there, .int .i64 x.level, .slice FA fl fc, .int .i64 x.graft, .int .i64 x.cap, .int .i64 x.got, .slice QA ql qc]), (g4, 40, [.int .i64 0, .slice none 0 0]), (g2, 40, [.int .i64 now, .slice (some ⟨b, 0, none⟩) n c])] ∧ OutQ w.heap.size ((w5.alloc (.cells #[] 22)).alloc (.cells #[] 116)) (.slice (some ⟨w5.heap.size, 0, none⟩) 0 0) (dueNow now (x.q.take 0)) ∧ QOwn w.heap.size ((w5.alloc (.cells #[] 22)).alloc (.cells #[] 116)) (.slice (some ⟨(w5.alloc (.cells #[] 22)).heap.size, 0, none⟩) 0 0) (later now (x.q.take 0))) := Lib.hid ⟨(HB5.out.below (below_alloc (Below.refl _ _) _)).below (below_alloc (Below.refl _ _) _), (OutQ.empty HB5.out.B.size).below (below_alloc (Below.refl _ _) _), QOwn.empty (Nat.le_trans HB5.out.B.size (by simp))⟩
  clear HB5
  go_loopg [7, 8, 9] (ql + 1) (fun kq v7 v8 v9 wr => ∃ j : Nat, v9 = .int .i64 j ∧ Hid (j ≤ ql ∧ kq = ql + 1 - j) ∧ Hid (Bs w wr [(g6, 89, [.bool x.there, .int .i64 x.level, .slice FA fl fc, .int .i64 x.graft, .int .i64 x.cap, .int .i64 x.got, .slice QA ql qc]), (g4, 40, [.int .i64 0, .slice none 0 0]), (g2, 40, [.int .i64 now, .slice (some ⟨b, 0, none⟩) n c])] ∧ OutQ w.heap.size wr v7 (dueNow now (x.q.take j)) ∧ QOwn w.heap.size wr v8 (later now (x.q.take j))))
  case atStart => exact ⟨0, rfl, Lib.hid ⟨by omega, by omega⟩, by simpa using HA0⟩
  case round =>
    obtain ⟨j, rfl, HJ, HA⟩ := hrel
    clear HA0
    have HBr := Lib.hid HA.out.1
    by_cases hj : j < ql
    · skip
      have hjq : j < x.q.length := by rw [← HQC.out]; exact hj
      obtain ⟨y, hy⟩ : ∃ y, x.q[j]? = some y := ⟨_, List.getElem?_eq_getElem hjq⟩
      obtain ⟨qb, rfl, hqb, hqx⟩ := HX.out.2.cells (by intro e; rw [e] at hjq; simp at hjq)
      obtain ⟨hc0, hc1, hc2⟩ := hqx j y hy
      have HY := Lib.hid (And.intro hy (And.intro hjq (HBY.out y (List.mem_of_getElem? hy))))
      obtain ⟨sy, hsy⟩ : ∃ z, z = strOfNums y.b := ⟨_, rfl⟩
      have HSY := Lib.hid hsy
      rw [← hsy] at hc0
      have z0 : wr.cell? ⟨qb, j * 3, none⟩ = some (.string sy) := (HBr.out.B.cell (p := ⟨qb, _, none⟩) hqb).trans hc0
      have z1 : wr.cell? ⟨qb, j * 3 + 1, none⟩ = some (.int .i64 y.due) := (HBr.out.B.cell (p := ⟨qb, _, none⟩) hqb).trans hc1
      have z2 : wr.cell? ⟨qb, j * 3 + 2, none⟩ = some (.bool y.sp) := (HBr.out.B.cell (p := ⟨qb, _, none⟩) hqb).trans hc2
      have HDL := Lib.hid (due_len now x.q j)
      have hjb : ql < 900000000000 := by rw [HQC.out]; exact HQL.out
      have j0 : (0 : Int) ≤ (j : Int) := Int.natCast_nonneg _
      clear hjq hy hqb hqx hc0 hc1 hc2 hsy
      have y6 : wr.cell? ⟨g6, 6, none⟩ = some (.slice (some ⟨qb, 0, none⟩) ql qc) := (HBr.out.get 0 rfl).cell 6
      have a0 : wr.cell? ⟨g2, 0, none⟩ = some (.int .i64 now) := (HBr.out.get 2 rfl).cell 0
      go_upto_region 9 with (fail)
      by_cases hd : y.due ≤ now
      · skip
        have dd : decide (y.due ≤ now) = true := decide_eq_true hd
        have HD := Lib.hid hd
        clear hd
        go_quiet (fail)
        clear dd
        have HBq : Hid (Bs w (wr.drewN nq) [(g6, 89, [.bool x.there, .int .i64 x.level, .slice FA fl fc, .int .i64 x.graft, .int .i64 x.cap, .int .i64 x.got, .slice (some ⟨qb, 0, none⟩) ql qc]), (g4, 40, [.int .i64 0, .slice none 0 0]), (g2, 40, [.int .i64 now, .slice (some ⟨b, 0, none⟩) n c])]) := Lib.hid (HBr.out.below (pw_below_drewN (Below.refl _ _) _))
        have HAq : Hid (OutQ w.heap.size (wr.drewN nq) u7 (dueNow now (x.q.take j)) ∧ QOwn w.heap.size (wr.drewN nq) u8 (later now (x.q.take j))) := Lib.hid ⟨HA.out.2.1.below (pw_below_drewN (Below.refl _ _) _), HA.out.2.2.below (pw_below_drewN (Below.refl _ _) _)⟩
        have z0' : (wr.drewN nq).cell? ⟨qb, j * 3, none⟩ = some (.string sy) := z0
        have z1' : (wr.drewN nq).cell? ⟨qb, j * 3 + 1, none⟩ = some (.int .i64 y.due) := z1
        have z2' : (wr.drewN nq).cell? ⟨qb, j * 3 + 2, none⟩ = some (.bool y.sp) := z2
        have y6' : (wr.drewN nq).cell? ⟨g6, 6, none⟩ = some (.slice (some ⟨qb, 0, none⟩) ql qc) := y6
        clear z0 z1 z2 y6 a0 HBr HA
        generalize wr.drewN nq = wq at HBq HAq z0' z1' z2' y6' ⊢
        obtain ⟨A5, c5, w5, hcv, hb5, hrd5⟩ := str_bytesT HY.out.2.2 wq
        rw [← HSY.out] at hcv
        have HRD5 := Lib.hid hrd5
        obtain ⟨yl, hyl⟩ : ∃ z, z = y.b.length := ⟨_, rfl⟩
        rw [← hyl] at hcv HRD5
        have HB5 := Lib.hid (HBq.out.below hb5)
        have HA5 := Lib.hid (And.intro (HAq.out.1.below hb5) (HAq.out.2.below hb5))
        clear hb5 hrd5 hyl HBq HAq
        go_wp2_with (first
          | (at_builtin; refine wp_oapp (B := w.heap.size) (bv := .slice A5 yl c5) (x := y.b) rfl (.tmp 38) (.tmp 46) rfl rfl rfl (HA5.out.1.below (below_alloc (Below.refl _ _) _)) (blk_cell (blk_new _ _) 0) (HRD5.out.belowT (below_alloc (Below.refl _ _) _)) (by have := HDL.out; have := HQL.out; have := HY.out.2.1; omega) (Nat.le_trans HB5.out.B.size (by simp)) ?_; intro A6 L6 c6 w6 HO6 hg6))
        have HN6 : Hid (Bs w w6 [(g6, 89, [.bool x.there, .int .i64 x.level, .slice FA fl fc, .int .i64 x.graft, .int .i64 x.cap, .int .i64 x.got, .slice (some ⟨qb, 0, none⟩) ql qc]), (g4, 40, [.int .i64 0, .slice none 0 0]), (g2, 40, [.int .i64 now, .slice (some ⟨b, 0, none⟩) n c])] ∧ OutQ w.heap.size w6 (.slice A6 L6 c6) (dueNow now (x.q.take (j + 1))) ∧ QOwn w.heap.size w6 u8 (later now (x.q.take (j + 1)))) := Lib.hid (by
          have e := due_snoc now HY.out.1 HD.out
          rw [e.1, e.2]
          exact ⟨(HB5.out.below (below_alloc (Below.refl _ _) _)).grown hg6.out ((HA5.out.1.below (below_alloc (Below.refl _ _) _)).own) (by intro b hb; simp only [List.mem_cons, List.not_mem_nil, or_false] at hb; rcases hb with rfl | rfl | rfl <;> (dsimp only; decide)), HO6.out, (HA5.out.2.below (below_alloc (Below.refl _ _) _)).grown hg6.out (fun r hr => ((HA5.out.1.below (below_alloc (Below.refl _ _) _)).own r hr).2) (by decide)⟩)
        clear HB5 HA5 HRD5 HO6 hg6 hcv z0' z1' z2' y6'
        
        go_roundg (ql - j)
        case measure => have := HJ.out; omega
        case rel => exact ⟨j + 1, by go_num, Lib.hid ⟨by omega, by omega⟩, HN6⟩
      · skip
        have dd : decide (y.due ≤ now) = false := decide_eq_false hd
        have HD := Lib.hid hd
        clear hd
        go_quiet (fail)
        clear dd
        have HBq : Hid (Bs w (wr.drewN nq) [(g6, 89, [.bool x.there, .int .i64 x.level, .slice FA fl fc, .int .i64 x.graft, .int .i64 x.cap, .int .i64 x.got, .slice (some ⟨qb, 0, none⟩) ql qc]), (g4, 40, [.int .i64 0, .slice none 0 0]), (g2, 40, [.int .i64 now, .slice (some ⟨b, 0, none⟩) n c])]) := Lib.hid (HBr.out.below (pw_below_drewN (Below.refl _ _) _))
        have HAq : Hid (OutQ w.heap.size (wr.drewN nq) u7 (dueNow now (x.q.take j)) ∧ QOwn w.heap.size (wr.drewN nq) u8 (later now (x.q.take j))) := Lib.hid ⟨HA.out.2.1.below (pw_below_drewN (Below.refl _ _) _), HA.out.2.2.below (pw_below_drewN (Below.refl _ _) _)⟩
        have z0' : (wr.drewN nq).cell? ⟨qb, j * 3, none⟩ = some (.string sy) := z0
        have z1' : (wr.drewN nq).cell? ⟨qb, j * 3 + 1, none⟩ = some (.int .i64 y.due) := z1
        have z2' : (wr.drewN nq).cell? ⟨qb, j * 3 + 2, none⟩ = some (.bool y.sp) := z2
        have y6' : (wr.drewN nq).cell? ⟨g6, 6, none⟩ = some (.slice (some ⟨qb, 0, none⟩) ql qc) := y6
        clear z0 z1 z2 y6 a0 HBr HA
        generalize wr.drewN nq = wq at HBq HAq z0' z1' z2' y6' ⊢
        go_wp2_with (first
          | (at_builtin; refine wp_qapp (B := w.heap.size) (q2 := [y]) rfl (.tmp 48) (.tmp 54) rfl rfl rfl (HAq.out.2.below (below_alloc (Below.refl _ _) _)) (by rw [HSY.out]; exact QRd.lit (x := y)) (by have := HDL.out; have := HQL.out; have := HY.out.2.1; simp; omega) (Nat.le_trans HBq.out.B.size (by simp)) ?_; intro A6 L6 c6 w6 HO6 hg6))
        have HN6 : Hid (Bs w w6 [(g6, 89, [.bool x.there, .int .i64 x.level, .slice FA fl fc, .int .i64 x.graft, .int .i64 x.cap, .int .i64 x.got, .slice (some ⟨qb, 0, none⟩) ql qc]), (g4, 40, [.int .i64 0, .slice none 0 0]), (g2, 40, [.int .i64 now, .slice (some ⟨b, 0, none⟩) n c])] ∧ OutQ w.heap.size w6 u7 (dueNow now (x.q.take (j + 1))) ∧ QOwn w.heap.size w6 (.slice A6 L6 c6) (later now (x.q.take (j + 1)))) := Lib.hid (by
          have e := later_snoc now HY.out.1 (by have := HD.out; omega)
          rw [e.1, e.2]
          exact ⟨(HBq.out.below (below_alloc (Below.refl _ _) _)).grown hg6.out (own_block (HAq.out.2.below (below_alloc (Below.refl _ _) _))) (by intro b hb; simp only [List.mem_cons, List.not_mem_nil, or_false] at hb; rcases hb with rfl | rfl | rfl <;> (dsimp only; decide)), (HAq.out.1.below (below_alloc (Below.refl _ _) _)).grown hg6.out (fun r hr => (own_block (HAq.out.2.below (below_alloc (Below.refl _ _) _)) r hr).2) (by decide), HO6.out⟩)
        clear HBq HAq HO6 hg6 z0' z1' z2' y6'
        
        go_roundg (ql - j)
        case measure => have := HJ.out; omega
        case rel => exact ⟨j + 1, by go_num, Lib.hid ⟨by omega, by omega⟩, HN6⟩
    · skip
      have HE : Hid (OutQ w.heap.size wr u7 (dueNow now x.q) ∧ QOwn w.heap.size wr u8 (later now x.q)) := Lib.hid (by
        have e : j = x.q.length := by have := HJ.out; have := HQC.out; omega
        have := HA.out.2
        rw [e, List.take_length] at this
        exact this)
      obtain ⟨A8, c8, e8, _⟩ := HE.out.2.form
      subst e8
      obtain ⟨L8, hL8⟩ : ∃ z, z = (later now x.q).length := ⟨_, rfl⟩
      rw [← hL8] at HE ⊢
      clear HA hL8
      have y6 : wr.cell? ⟨g6, 6, none⟩ = some (.slice QA ql qc) := (HBr.out.get 0 rfl).cell 6
      have f6 : wr.frozen? ⟨g6, 6, none⟩ = false := (HBr.out.get 0 rfl).frozen 6
      go_upto_region 13 with (fail)
      clear hj
      have HE2 : Hid (OutQ w.heap.size (wr.setCell ⟨g6, 6, none⟩ (.slice A8 L8 c8)) u7 (dueNow now x.q) ∧ QRef (wr.setCell ⟨g6, 6, none⟩ (.slice A8 L8 c8)) (.slice A8 L8 c8) (later now x.q)) := Lib.hid ⟨HE.out.1.st ⟨HBr.out.get 0 rfl, fun i hi => Below.heap_setCell wr ⟨g6, 6, none⟩ _ i hi⟩ (by decide), HE.out.2.ref.setH (HBr.out.get 0 rfl)⟩
      have HB61 : Hid (Bs w (wr.setCell ⟨g6, 6, none⟩ (.slice A8 L8 c8)) [(g6, 89, [.bool x.there, .int .i64 x.level, .slice FA fl fc, .int .i64 x.graft, .int .i64 x.cap, .int .i64 x.got, .slice A8 L8 c8]), (g4, 40, [.int .i64 0, .slice none 0 0]), (g2, 40, [.int .i64 now, .slice (some ⟨b, 0, none⟩) n c])]) := Lib.hid (HBr.out.set 0 rfl 6 (.slice A8 L8 c8))
      generalize wr.setCell ⟨g6, 6, none⟩ (.slice A8 L8 c8) = w61 at HE2 HB61 ⊢
      clear HBr
      clear HE y6 f6
      have y0 : w61.cell? ⟨g6, 0, none⟩ = some (.bool x.there) := (HB61.out.get 0 rfl).cell 0
      have y1 : w61.cell? ⟨g6, 1, none⟩ = some (.int .i64 x.level) := (HB61.out.get 0 rfl).cell 1
      have y2 : w61.cell? ⟨g6, 2, none⟩ = some (.slice FA fl fc) := (HB61.out.get 0 rfl).cell 2
      have y3 : w61.cell? ⟨g6, 3, none⟩ = some (.int .i64 x.graft) := (HB61.out.get 0 rfl).cell 3
      have y4 : w61.cell? ⟨g6, 4, none⟩ = some (.int .i64 x.cap) := (HB61.out.get 0 rfl).cell 4
      have y5 : w61.cell? ⟨g6, 5, none⟩ = some (.int .i64 x.got) := (HB61.out.get 0 rfl).cell 5
      have y6 : w61.cell? ⟨g6, 6, none⟩ = some (.slice A8 L8 c8) := (HB61.out.get 0 rfl).cell 6
      go_wp2_with (first
        | ((with_reducible refine gate_dst (N := 58) rfl ?_); refine wp_ld HB61.out 2 rfl rfl (.tmp 2) rfl rfl Tryd.underlying40 (by kernel_rfl) ?_)
        | (go_at_call 54; refine (with_calls (HN.out.below HB61.out.B) H16.out k HK.out ({ x with q := later now x.q }) (.slice FA fl fc) (.slice A8 L8 c8) (⟨(HX.out.below HB61.out.B).1, HE2.out.2⟩)).mono ?_; rintro e w62 ⟨v', rfl, hv, hb⟩; obtain ⟨b5, c5, rfl, hc5, _⟩ := hv.parts; have HV := Lib.hid hv; have HO9 := Lib.hid (HE2.out.1.below hb); have HB62 := Lib.hid (HB61.out.below hb); clear hv hb hc5 HB61)
        | ((with_reducible refine gate_store (t := 40) (p := 4) rfl ?_); refine wp_st HB62.out 1 rfl (q := 0) (seg := [.int .i64 _, .slice (some ⟨b5, 0, none⟩) _ c5]) rfl rfl rfl rfl rfl (by kernel_rfl) (Nat.le_refl _) (o_cons rfl (o_cons rfl o_nil)) ?_; intro w63 hq hf; have HB63 : Hid (Bs w w63 [(g6, 89, [.bool x.there, .int .i64 x.level, .slice FA fl fc, .int .i64 x.graft, .int .i64 x.cap, .int .i64 x.got, .slice A8 L8 c8]), (g4, 40, [.int .i64 _, .slice (some ⟨b5, 0, none⟩) _ c5]), (g2, 40, [.int .i64 now, .slice (some ⟨b, 0, none⟩) n c])]) := hq; have HO10 := Lib.hid (HO9.out.st hf.out (by decide)); have HV2 := Lib.hid (HV.out.st hf.out); clear hq hf HB62))
      (try simp only [Exit.inBlock, Exit.then])
      refine bodyPost_ret (results_ct rfl _ _ g4 _ _ _ _ rfl (HB63.out.get 1 rfl) Tryd.underlying40 rfl (show (Tryd.prog.info? 40).map (·.size) = some 2 by kernel_rfl)) rfl ?_
      exact ⟨_, _, rfl, HV2.out, HO10.out, HB63.out.B⟩
end
section
open Go.RowKit Go.Deep Go.Proofs.YtpfpdbbgiimnmaaDoor.Er Go.Proofs.YtpfpdbbgiimnmaaDoor.Mod Go.Proofs.YtpfpdbbgiimnmaaDoorW.PrintWords Go.Proofs.YtpfpdbbgiimnmaaDoorW.PrintLast
set_option maxHeartbeats 8000000 in
set_option maxRecDepth 100000 in
theorem queueq_r {w : World} {v : Value} {s : Nt} (h : NRef w v s) (hn : s.n ≤ 16) (hq : ∀ k, k < s.n → (s.h k).q.length < 900000000000) (hby : ∀ k, k < s.n → ∀ y ∈ (s.h k).q, ByOk y.b) (i : Int) : Calls Tryd.prog 47 #[v, .int .i64 i] w fun e w' => ∃ vo, e = .returned vo ∧ OutV w' vo (s.queue i) ∧ Below w.heap.size w w' := by
  by_cases ha : s.at i = 0
  rotate_left
  · skip
    have hT : s.queue i = [] := if_neg ha
    have HIs := Lib.hid (at_dec ha)
    rw [hT]
    clear ha hT hq hby
    obtain ⟨b, c, rfl, hc, _⟩ := h.parts
    have HN := Lib.hid h
    have H16 := Lib.hid hn
    obtain ⟨n, hnn⟩ : ∃ n, n = s.n := ⟨_, rfl⟩
    obtain ⟨now, hnow⟩ : ∃ z, z = s.now := ⟨_, rfl⟩
    rw [← hnn, ← hnow] at HN ⊢
    rw [← hnn] at hc
    have HB0 := Lib.hid (Bs.start w)
    clear h hn hnn hnow
    go_enter Tryd.func47, Tryd.ntmps47
    go_upto_region 2 with (first
      | ((with_reducible refine gate_dst (N := 2) rfl ?_); refine wp_bx HB0.out (t := 40) (cs := [.int .i64 now, .slice (some ⟨b, 0, none⟩) n c]) rfl (.tmp 0) rfl rfl ?_; intro g2 w1 hb HB1; clear hb HB0))
    have HB2 : Hid (Bs w (w1.alloc (.cells #[] 22)) [(g2, 40, [.int .i64 now, .slice (some ⟨b, 0, none⟩) n c])]) := Lib.hid (HB1.out.below (below_alloc (Below.refl _ _) _))
    have HO0 : Hid (OutQ w.heap.size (w1.alloc (.cells #[] 22)) (.slice (some ⟨w1.heap.size, 0, none⟩) 0 0) []) := Lib.hid (OutQ.empty HB1.out.B.size)
    obtain ⟨gz, hgz⟩ : ∃ gz, gz = w1.heap.size := ⟨_, rfl⟩
    rw [← hgz] at HO0 ⊢
    generalize (w1.alloc (.cells #[] 22)) = w2 at HB2 HO0 ⊢
    clear hgz HB1
    go_wp2_with (first
      | ((with_reducible refine gate_dst (N := 8) rfl ?_); refine wp_ld HB2.out 0 rfl rfl (.tmp 2) rfl rfl Tryd.underlying40 (by kernel_rfl) ?_)
      | (go_at_call 46; refine (is_calls (HN.out.below HB2.out.B) H16.out i).mono ?_; rintro e w3 ⟨rfl, hb⟩; rw [HIs.out]; have HB3 := Lib.hid (HB2.out.below hb); have HO1 := Lib.hid (HO0.out.below hb); clear hb HO0 HB2))
    go_ret
    exact ⟨_, rfl, HO1.out.outV (by simp), HB3.out.B⟩
  obtain ⟨k, rfl, hk⟩ := at_of ha
  have hT : s.queue (k : Int) = (s.h k).q.map (·.b) := (if_pos ha).trans (by rw [Int.toNat_natCast])
  have HIs := Lib.hid (at_dec1 hk)
  rw [hT]
  have HQL := Lib.hid (hq k hk)
  have HBY := Lib.hid (hby k hk)
  clear ha hT hq hby
  obtain ⟨b, c, FA, fl, fc, QA, ql, qc, rfl, hc, hblt, hx, hrow⟩ := h.host hk
  have HN := Lib.hid h
  have H16 := Lib.hid hn
  have HK := Lib.hid hk
  have HX := Lib.hid hx
  have HR := Lib.hid (And.intro hblt hrow)
  obtain ⟨x, hxx⟩ : ∃ x, x = s.h k := ⟨_, rfl⟩
  have HXX := Lib.hid hxx
  rw [← hxx] at HX HR
  obtain ⟨n, hnn⟩ : ∃ n, n = s.n := ⟨_, rfl⟩
  obtain ⟨now, hnow⟩ : ∃ z, z = s.now := ⟨_, rfl⟩
  have HNN := Lib.hid (And.intro hnn hnow)
  rw [← hnn, ← hnow] at HN ⊢
  rw [← hnn] at hc
  have hkn : k < n := by rw [hnn]; exact hk
  obtain ⟨i0, i1⟩ : (0 : Int) ≤ (k : Int) ∧ (k : Int) < (n : Int) := by omega
  have e0 : decide ((0 : Int) ≤ (k : Int)) = true := decide_eq_true i0
  have e1 : decide ((k : Int) < (n : Int)) = true := decide_eq_true i1
  have HB0 := Lib.hid (Bs.start w)
  clear h hn hk hx hrow hblt hxx hnn hnow
  rw [← HXX.out] at HQL HBY ⊢
  obtain ⟨hqa, hqc⟩ := HX.out.2.cap
  have HQC := Lib.hid hqa
  clear hqa
  go_enter Tryd.func47, Tryd.ntmps47
  go_upto_region 2 with (first
    | ((with_reducible refine gate_dst (N := 2) rfl ?_); refine wp_bx HB0.out (t := 40) (cs := [.int .i64 now, .slice (some ⟨b, 0, none⟩) n c]) rfl (.tmp 0) rfl rfl ?_; intro g2 w1 hb HB1; clear hb HB0))
  have HB2 : Hid (Bs w (w1.alloc (.cells #[] 22)) [(g2, 40, [.int .i64 now, .slice (some ⟨b, 0, none⟩) n c])]) := Lib.hid (HB1.out.below (below_alloc (Below.refl _ _) _))
  have HO0 : Hid (OutQ w.heap.size (w1.alloc (.cells #[] 22)) (.slice (some ⟨w1.heap.size, 0, none⟩) 0 0) []) := Lib.hid (OutQ.empty HB1.out.B.size)
  obtain ⟨gz, hgz⟩ : ∃ gz, gz = w1.heap.size := ⟨_, rfl⟩
  rw [← hgz] at HO0 ⊢
  generalize (w1.alloc (.cells #[] 22)) = w2 at HB2 HO0 ⊢
  clear hgz HB1
  go_wp2_with (first
    | ((with_reducible refine gate_dst (N := 8) rfl ?_); refine wp_ld HB2.out 0 rfl rfl (.tmp 2) rfl rfl Tryd.underlying40 (by kernel_rfl) ?_)
    | (go_at_call 46; refine (is_calls (HN.out.below HB2.out.B) H16.out k).mono ?_; rintro e w3 ⟨rfl, hb⟩; rw [HIs.out]; have HB3 := Lib.hid (HB2.out.below hb); have HO1 := Lib.hid (HO0.out.below hb); clear hb HO0 HB2))
  have HA0 : Hid (Bs w w3 [(g2, 40, [.int .i64 now, .slice (some ⟨b, 0, none⟩) n c])] ∧ OutQ w.heap.size w3 (.slice (some ⟨gz, 0, none⟩) 0 0) ((x.q.take 0).map (·.b))) := Lib.hid ⟨HB3.out, HO1.out⟩
  clear HO1 HB3
  go_loopg [5, 6] (ql + 1) (fun kq v5 v6 wr => ∃ j : Nat, v6 = .int .i64 j ∧ Hid (j ≤ ql ∧ kq = ql + 1 - j) ∧ Hid (Bs w wr [(g2, 40, [.int .i64 now, .slice (some ⟨b, 0, none⟩) n c])] ∧ OutQ w.heap.size wr v5 ((x.q.take j).map (·.b))))
  case atStart => exact ⟨0, rfl, Lib.hid ⟨by omega, by omega⟩, HA0⟩
  case round =>
    obtain ⟨j, rfl, HJ, HA⟩ := hrel
    clear HA0
    have HBr := Lib.hid HA.out.1
    have a1 : wr.cell? ⟨g2, 1, none⟩ = some (.slice (some ⟨b, 0, none⟩) n c) := (HBr.out.get 0 rfl).cell 1
    have r6 : wr.cell? ⟨b, k * 7 + 6, none⟩ = some (.slice QA ql qc) := (HBr.out.B.cell (p := ⟨b, _, none⟩) HR.out.1).trans (HR.out.2 6 (by omega))
    by_cases hj : j < ql
    · skip
      have hjq : j < x.q.length := by rw [← HQC.out]; exact hj
      obtain ⟨y, hy⟩ : ∃ y, x.q[j]? = some y := ⟨_, List.getElem?_eq_getElem hjq⟩
      obtain ⟨qb, rfl, hqb, hqx⟩ := HX.out.2.cells (by intro e; rw [e] at hjq; simp at hjq)
      obtain ⟨hc0, hc1, hc2⟩ := hqx j y hy
      have HY := Lib.hid (And.intro hy (And.intro hjq (HBY.out y (List.mem_of_getElem? hy))))
      obtain ⟨sy, hsy⟩ : ∃ z, z = strOfNums y.b := ⟨_, rfl⟩
      have HSY := Lib.hid hsy
      rw [← hsy] at hc0
      have z0 : wr.cell? ⟨qb, j * 3, none⟩ = some (.string sy) := (HBr.out.B.cell (p := ⟨qb, _, none⟩) hqb).trans hc0
      have hjb : ql < 900000000000 := by rw [HQC.out]; exact HQL.out
      have j0 : (0 : Int) ≤ (j : Int) := Int.natCast_nonneg _
      clear hjq hy hqb hqx hc0 hc1 hc2 hsy
      go_upto_region 7 with (fail)
      obtain ⟨A5, c5, w5, hcv, hb5, hrd5⟩ := str_bytesT HY.out.2.2 wr
      rw [← HSY.out] at hcv
      have HRD5 := Lib.hid hrd5
      obtain ⟨yl, hyl⟩ : ∃ z, z = y.b.length := ⟨_, rfl⟩
      rw [← hyl] at hcv HRD5
      have HB5 := Lib.hid (HBr.out.below hb5)
      have HA5 := Lib.hid (HA.out.2.below hb5)
      clear hb5 hrd5 hyl HBr HA
      go_wp2_with (first
        | (at_builtin; refine wp_oapp (B := w.heap.size) (bv := .slice A5 yl c5) (x := y.b) rfl (.tmp 24) (.tmp 36) rfl rfl rfl (HA5.out.below (below_alloc (Below.refl _ _) _)) (blk_cell (blk_new _ _) 0) (HRD5.out.belowT (below_alloc (Below.refl _ _) _)) (by have := HQL.out; have := HY.out.2.1; rw [List.length_map, List.length_take]; omega) (Nat.le_trans HB5.out.B.size (by simp)) ?_; intro A6 L6 c6 w6 HO6 hg6))
      have HN6 : Hid (Bs w w6 [(g2, 40, [.int .i64 now, .slice (some ⟨b, 0, none⟩) n c])] ∧ OutQ w.heap.size w6 (.slice A6 L6 c6) ((x.q.take (j + 1)).map (·.b))) := Lib.hid (by
        rw [takeL_snoc HY.out.1, List.map_append]
        exact ⟨(HB5.out.below (below_alloc (Below.refl _ _) _)).grown hg6.out ((HA5.out.below (below_alloc (Below.refl _ _) _)).own) (by intro b hb; simp only [List.mem_cons, List.not_mem_nil, or_false] at hb; rcases hb with rfl; (dsimp only; decide)), HO6.out⟩)
      clear HB5 HA5 HRD5 HO6 hg6 hcv z0 a1 r6
      go_roundg (ql - j)
      case measure => have := HJ.out; omega
      case rel => exact ⟨j + 1, by go_num, Lib.hid ⟨by omega, by omega⟩, HN6⟩
    · skip
      have HE : Hid (OutQ w.heap.size wr u5 (x.q.map (·.b))) := Lib.hid (by
        have e : j = x.q.length := by have := HJ.out; have := HQC.out; omega
        have := HA.out.2
        rw [e, List.take_length] at this
        exact this)
      clear HA
      go_wp2
      go_ret
      exact ⟨_, rfl, HE.out.outV (by rw [List.length_map]; have := HQL.out; omega), HBr.out.B⟩
end
section
open Go.RowKit Go.Deep Go.Proofs.YtpfpdbbgiimnmaaDoor.Er Go.Proofs.YtpfpdbbgiimnmaaDoor.Mod Go.Proofs.YtpfpdbbgiimnmaaDoorW.PrintWords Go.Proofs.YtpfpdbbgiimnmaaDoorW.PrintLast
theorem infoHR : (Tryd.prog.info? 89).map (fun i => (i.zero, i.size, i.bytes)) = some (some hoZ, 7, 88) := infoRH
def hosC (fv : Nat → Value) (j : Nat) : List Value := (List.range j).flatMap fun i => hoR ho0 (fv i) (.slice none 0 0)
theorem hosC_len (fv : Nat → Value) (j : Nat) : (hosC fv j).length = j * 7 := by
  unfold hosC
  induction j with
  | zero => rfl
  | succ j ih => rw [List.range_succ, List.flatMap_append, List.length_append, ih]; simp [hoR]; omega
theorem hosC_congr {fv fv' : Nat → Value} {j : Nat} (h : ∀ i, i < j → fv i = fv' i) : hosC fv j = hosC fv' j := by
  unfold hosC
  induction j with
  | zero => rfl
  | succ j ih =>
    rw [List.range_succ, List.flatMap_append, List.flatMap_append, ih (fun i hi => h i (by omega))]
    simp [h j (by omega)]
theorem hosC_snoc (fv : Nat → Value) (j : Nat) : hosC fv (j + 1) = hosC fv j ++ hoR ho0 (fv j) (.slice none 0 0) := by
  unfold hosC; rw [List.range_succ, List.flatMap_append]; simp
def LOwn (B : Nat) (w : World) (v : Value) (j : Nat) : Prop := ∃ fv : Nat → Value, w.ownsRow B 89 7 v j (hosC fv j) ∧ ∀ i, i < j → FRef w (fv i) (fun _ => 0)
theorem FRef.below {w w' : World} {v : Value} {f : Nat → Int} (h : FRef w v f) (hb : Below w.heap.size w w') : FRef w' v f := h.keep (.of_below hb)
theorem LOwn.below {B : Nat} {w w' : World} {v : Value} {j : Nat} (h : LOwn B w v j) (hb : Below w.heap.size w w') : LOwn B w' v j := by
  obtain ⟨fv, h1, h2⟩ := h
  exact ⟨fv, own_below h1 hb, fun i hi => (h2 i hi).below hb⟩
theorem LOwn.zero (B : Nat) (w : World) : LOwn B w (.slice none 0 0) 0 := ⟨fun _ => .slice none 0 0, ⟨rfl, .inl ⟨rfl, rfl⟩⟩, fun i hi => absurd hi (by omega)⟩
theorem LOwn.form {B : Nat} {w : World} {v : Value} {j : Nat} (h : LOwn B w v j) : ∃ A c, v = .slice A j c := by
  obtain ⟨fv, h1, h2⟩ := h
  rcases h1.2 with ⟨rfl, rfl⟩ | ⟨b, cap, cur, rfl, _⟩
  · exact ⟨_, _, rfl⟩
  · exact ⟨_, _, rfl⟩
theorem LOwn.st {B : Nat} {W W1 : World} {v : Value} {j : Nat} {g : Nat} {cs : List Value} (h : LOwn B W v j) (hf : Bk W g 40 cs ∧ ∀ i, i ≠ g → W1.heap[i]? = W.heap[i]?) : LOwn B W1 v j := by
  obtain ⟨fv, h1, h2⟩ := h
  have hk := hf.1
  unfold Bk at hk
  refine ⟨fv, own_keep h1 (fun b hb => hf.2 b (fun e => ?_)), fun i hi => (h2 i hi).keep (fun b cur t hc ht => hf.2 b (fun e => ?_))⟩
  · obtain ⟨_, cur, hc⟩ := own_at h1 hb
    subst e
    rw [hk] at hc; cases hc
  · subst e
    rw [hk] at hc; cases hc
    rcases ht with h | h | h <;> exact absurd h (by decide)
/-- append(t.L, Host{..}). -/
theorem LOwn.app {B : Nat} {w : World} {v fv : Value} {j g : Nat} (h : LOwn B w v j) (hj : j ≤ 1000) (hf : FRef w fv (fun _ => 0)) (hc : ∀ q u, (hoR ho0 fv (.slice none 0 0))[q]? = some u → w.cell? ((⟨g, 0, none⟩ : Addr).add q) = some u) (h1 : fv.oneCell' = true) (hB : B ≤ w.heap.size) (ty : TypeId) : ∃ v' w', (Builtin.append_ #[38, 38] ty #[v, .slice (some ⟨g, 0, none⟩) 1 1]).run Tryd.prog w = .ok v' w' ∧ LOwn B w' v' (j + 1) ∧ w.grownBy w' v.ownBlock ∧ ∀ r, v.ownBlock = some r → B ≤ r ∧ ∃ cur, w.heap[r]? = some (.cells cur 89 (0, 0)) := by
  obtain ⟨i, hi, hz0, hz1, hz2⟩ := info_parts infoHR
  obtain ⟨fs, ho, hfs⟩ := h
  obtain ⟨v', w', hr, h2, hg, _⟩ := run_append_own (P := Tryd.prog) w B 38 ty 89 i hoZ 7 88 Tryd.underlying38 hi hz0 hz1 hz2 rfl (by decide) v j (hosC fs j) ho ⟨g, 0, none⟩ 1 1 (hoR ho0 fv (.slice none 0 0)) rfl hc (hoR_one h1 rfl) (by simp only [maxLen]; omega) (by omega) hB
  have hkp : ∀ f u, FRef w u f → FRef w' u f := fun f u hu => by
    obtain ⟨b, c, cur, e, q1, q2, q3⟩ := hu
    refine ⟨b, c, cur, e, q1, (hg.block b (lt_of q2) (fun e2 => ?_)).trans q2, q3⟩
    obtain ⟨_, cur', hc'⟩ := own_at ho e2.symm
    rw [q2] at hc'; cases hc'
  refine ⟨v', w', hr, ⟨fun k => if k = j then fv else fs k, ?_, fun k hk => ?_⟩, hg, fun r hr => own_at ho hr⟩
  · rw [hosC_snoc, if_pos rfl, hosC_congr (fv' := fs) (fun k hk => if_neg (by omega))]
    exact h2
  · dsimp only
    by_cases e : k = j
    · rw [if_pos e]; exact hkp _ _ hf
    · rw [if_neg e]; exact hkp _ _ (hfs k (by omega))
theorem LOwn.lref {B : Nat} {w : World} {v : Value} {n : Nat} (h : LOwn B w v n) (hn : 1 ≤ n) : LRef w v (nt0 n) := by
  obtain ⟨fs, ho, hfs⟩ := h
  rcases ho.2 with ⟨_, e⟩ | ⟨b, cap, cur, rfl, hb, hc, k1, k2, k3, k4⟩
  · omega
  · refine ⟨b, cap, cur, rfl, k1, hc, fun k hk => ⟨fs k, .slice none 0 0, ⟨hfs k hk, QRef.nil _⟩, fun j hj => ?_⟩⟩
    have hkn : k < n := hk
    have e1 : (hosC fs n)[k * 7 + j]? = (hoR ho0 (fs k) (.slice none 0 0))[j]? := list_at (f := fun i => hoR ho0 (fs i) (.slice none 0 0)) (fun _ => rfl) n k j hkn hj
    rw [← k4, List.getElem?_take, if_pos (by omega)] at e1
    rw [← show (nt0 n).h k = ho0 from rfl] at e1
    rw [← e1]; simp
theorem FRef.made (w : World) : FRef (w.alloc (.cells (madeCells #[.int .i64 0] 8) 3)) (.slice (some ⟨w.heap.size, 0, none⟩) 8 8) (fun _ => 0) := ⟨w.heap.size, 8, _, rfl, Nat.le_refl _, blk_new w _, fun j hj => by unfold madeCells; simp [Nat.mod_one, hj]⟩
theorem make8 (W : World) : (Instr.makeSlice 86 (.int .i64 8) (.int .i64 8)).run Tryd.prog W = .ok (.slice (some ⟨W.heap.size, 0, none⟩) 8 8) (W.alloc (.cells (madeCells #[.int .i64 0] 8) 3)) := print_make_int (P := Tryd.prog) 86 3 (.int .i64 0) 8 Tryd.underlying86 infoN rfl (by decide) 8 (by decide) (by decide) W
theorem run_mk {o : Oper} {a : Act} {W : World} {x y : Operand} (ho : o.op = .makeSlice 86 x y) (hx : a.eval x = .int .i64 8) (hy : a.eval y = .int .i64 8) : (execOp a.eval o).run Tryd.prog W = .ok (.value (.slice (some ⟨W.heap.size, 0, none⟩) 8 8)) (W.alloc (.cells (madeCells #[.int .i64 0] 8) 3)) := by
  unfold execOp
  simp only [ho, hx, hy, Sem.run_bind, make8, Result.andThen_ok, Sem.run_pure]
set_option maxHeartbeats 8000000 in
set_option maxRecDepth 100000 in
theorem new_r_bad (w : World) (n : Int) (hn : n < 1 ∨ 16 < n) : Calls Tryd.prog 13 #[.int .i64 n] w fun e w' => e = .returned (.tuple #[.agg #[.int .i64 0, .slice none 0 0], .int .i64 1]) ∧ Below w.heap.size w w' := by
  have hn2 : n < 1 ∨ (¬ n < 1 ∧ 16 < n) := by omega
  have HB0 := Lib.hid (Bs.start w)
  clear hn
  rcases hn2 with h1 | ⟨h1, h2⟩
  · skip
    have d1 : decide (n < (1 : Int)) = true := decide_eq_true h1
    clear h1
    go_enter Tryd.func13, Tryd.ntmps13
    go_wp2_with (first
      | ((with_reducible refine gate_dst (N := 2) rfl ?_); refine wp_al HB0.out (t := 40) rfl rfl al_T ?_; intro g2 w1 hb HB1; clear hb HB0)
      | ((with_reducible refine gate_store (t := 40) (p := 2) rfl ?_); refine wp_st HB1.out 0 rfl (q := 0) (seg := [.int .i64 0, .slice none 0 0]) rfl rfl rfl rfl rfl (by kernel_rfl) (Nat.le_refl _) (o_cons rfl (o_cons rfl o_nil)) ?_; intro w2 hq hf; have HB2 : Hid (Bs w w2 [(g2, 40, [.int .i64 0, .slice none 0 0])]) := hq; clear hq hf HB1))
    (try simp only [Exit.inBlock, Exit.then])
    refine bodyPost_ret (results_ct rfl _ _ g2 _ _ _ _ rfl (HB2.out.get 0 rfl) Tryd.underlying40 rfl (show (Tryd.prog.info? 40).map (·.size) = some 2 by kernel_rfl)) rfl ?_
    exact ⟨rfl, HB2.out.B⟩
  · skip
    have d1 : decide (n < (1 : Int)) = false := decide_eq_false h1
    have d2 : decide ((16 : Int) < n) = true := decide_eq_true h2
    clear h1 h2
    go_enter Tryd.func13, Tryd.ntmps13
    go_wp2_with (first
      | ((with_reducible refine gate_dst (N := 2) rfl ?_); refine wp_al HB0.out (t := 40) rfl rfl al_T ?_; intro g2 w1 hb HB1; clear hb HB0)
      | ((with_reducible refine gate_store (t := 40) (p := 2) rfl ?_); refine wp_st HB1.out 0 rfl (q := 0) (seg := [.int .i64 0, .slice none 0 0]) rfl rfl rfl rfl rfl (by kernel_rfl) (Nat.le_refl _) (o_cons rfl (o_cons rfl o_nil)) ?_; intro w2 hq hf; have HB2 : Hid (Bs w w2 [(g2, 40, [.int .i64 0, .slice none 0 0])]) := hq; clear hq hf HB1))
    (try simp only [Exit.inBlock, Exit.then])
    refine bodyPost_ret (results_ct rfl _ _ g2 _ _ _ _ rfl (HB2.out.get 0 rfl) Tryd.underlying40 rfl (show (Tryd.prog.info? 40).map (·.size) = some 2 by kernel_rfl)) rfl ?_
    exact ⟨rfl, HB2.out.B⟩
set_option maxHeartbeats 8000000 in
set_option maxRecDepth 100000 in
theorem new_r (w : World) (m : Nat) (hm : 1 ≤ m ∧ m ≤ 16) : Calls Tryd.prog 13 #[.int .i64 (m : Int)] w fun e w' => ∃ v', e = .returned (.tuple #[v', .int .i64 0]) ∧ NRef w' v' (nt0 m) ∧ Below w.heap.size w w' := by
  have d1 : decide ((m : Int) < (1 : Int)) = false := decide_eq_false (by omega)
  have d2 : decide ((16 : Int) < (m : Int)) = false := decide_eq_false (by omega)
  have hm16 := hm.2
  have HM := Lib.hid hm
  have HB0 := Lib.hid (Bs.start w)
  clear hm
  go_enter Tryd.func13, Tryd.ntmps13
  go_wp2_with (first
    | ((with_reducible refine gate_dst (N := 2) rfl ?_); refine wp_al HB0.out (t := 40) rfl rfl al_T ?_; intro g2 w1 hb HB1; clear hb HB0)
    | ((with_reducible refine gate_dst (N := 4) rfl ?_); refine wp_al HB1.out (t := 40) rfl rfl al_T ?_; intro g4 w2 hb HB2; clear hb HB1)
    | ((with_reducible refine gate_store (t := 40) (p := 4) rfl ?_); refine wp_st HB2.out 0 rfl (q := 0) (seg := [.int .i64 0, .slice none 0 0]) rfl rfl rfl rfl rfl (by kernel_rfl) (Nat.le_refl _) (o_cons rfl (o_cons rfl o_nil)) ?_; intro w3 hq hf; have HB3 : Hid (Bs w w3 [(g4, 40, [.int .i64 0, .slice none 0 0]), (g2, 40, [.int .i64 0, .slice none 0 0])]) := hq; clear hq hf HB2))
  clear d1 d2
  go_loopg [5] (m + 1) (fun kq v5 wr => ∃ (j : Nat) (A : Option Addr) (c : Nat), v5 = .int .i64 j ∧ Hid (j ≤ m ∧ kq = m + 1 - j) ∧ Hid (Bs w wr [(g4, 40, [.int .i64 0, .slice A j c]), (g2, 40, [.int .i64 0, .slice none 0 0])]) ∧ Hid (LOwn w.heap.size wr (.slice A j c) j))
  case atStart => exact ⟨0, none, 0, rfl, Lib.hid ⟨by omega, by omega⟩, HB3, Lib.hid (LOwn.zero _ _)⟩
  case round =>
    obtain ⟨j, A, c, rfl, HJ, HBr, HL⟩ := hrel
    clear HB3
    by_cases hj : j < m
    · skip
      have dj : decide ((j : Int) < (m : Int)) = true := decide_eq_true (by omega)
      have HJM := Lib.hid hj
      go_upto_region 7 with (fail)
      clear dj
      refine start_ (n := 8) (S := fun w' => w'.cell? ⟨g4, 1, none⟩ = some (.slice A j c) ∧ Bs w w' [(g4, 40, [.int .i64 0, .slice A j c]), (g2, 40, [.int .i64 0, .slice none 0 0])]) (ds := [7]) #[false, false, false, false, false, false, false, false] (by kernel_rfl) rfl rfl ⟨(HBr.out.get 0 rfl).cell 1, HBr.out.below (Below.refl _ _).drew⟩ (fun hHeld => ?_)
      refine pu_ 0 19 (bm_ 8 0x1) ?_
      refine tk_ 1 20 (bm_ 8 0x3) hHeld ?_
      refine on_ 2 (some 21) (bm_ 8 0x7) fun K hK => ?_
      refine value_ (by rfl) rfl (run_mk rfl rfl rfl) ?_
      refine hK.out _ _ ⟨((hHeld.2.below (below_alloc (Below.refl _ _) _)).get 0 rfl).cell 1, hHeld.2.below (below_alloc (Below.refl _ _) _)⟩ (fun hHeldA => ?_)
      clear hK K
      refine nm_ 21 ?_
      refine pu_ 3 22 (bm_ 8 0xf) ?_
      refine on_ 4 (some 23) (bm_ 8 0x1f) fun K hK => ?_
      refine value_ (by rfl) rfl (w1 := ((wr.drew.alloc (.cells (madeCells #[.int .i64 0] 8) 3)).alloc (.cells #[.bool false, .int .i64 (-1), .slice (some ⟨wr.heap.size, 0, none⟩) 8 8, .int .i64 0, .int .i64 (-1), .int .i64 0, .slice none 0 0] 89))) (v := .slice (some ⟨(wr.drew.alloc (.cells (madeCells #[.int .i64 0] 8) 3)).heap.size, 0, none⟩) 1 1) (by go_simp; try rfl) ?_
      refine hK.out _ _ ⟨((hHeldA.2.below (below_alloc (Below.refl _ _) _)).get 0 rfl).cell 1, hHeldA.2.below (below_alloc (Below.refl _ _) _)⟩ (fun hHeldC => ?_)
      clear hK K
      refine nm_ 23 ?_
      refine on_ 5 (some 24) (bm_ 8 0x3f) fun K hK => ?_
      obtain ⟨v9, w9, hr9, ho9, hg9, ht9⟩ := ((HL.out.below (w' := wr.drew) (Below.refl _ _).drew).below (below_alloc (Below.refl _ _) (.cells (madeCells #[.int .i64 0] 8) 3))).below (below_alloc (Below.refl _ _) (.cells #[.bool false, .int .i64 (-1), .slice (some ⟨wr.heap.size, 0, none⟩) 8 8, .int .i64 0, .int .i64 (-1), .int .i64 0, .slice none 0 0] 89)) |>.app (fv := .slice (some ⟨wr.heap.size, 0, none⟩) 8 8) (g := (wr.drew.alloc (.cells (madeCells #[.int .i64 0] 8) 3)).heap.size) (by have := HJM.out; have := HM.out; omega) ((FRef.made wr.drew).below (below_alloc (Below.refl _ _) _)) (cells_new (wr.drew.alloc (.cells (madeCells #[.int .i64 0] 8) 3)) (hoR ho0 (.slice (some ⟨wr.heap.size, 0, none⟩) 8 8) (.slice none 0 0)) 89 _ rfl) rfl hHeldC.2.B.size 38
      obtain ⟨A9, c9, rfl⟩ := ho9.form
      have hB9 := hHeldC.2.grown hg9 ht9 (by intro b hb; simp only [List.mem_cons, List.not_mem_nil, or_false] at hb; rcases hb with rfl | rfl <;> (dsimp only; decide))
      have HO9 := Lib.hid ho9
      refine value_ (by rfl) rfl (run_app rfl (by rfl) (by rfl) hr9) ?_
      refine hK.out _ _ ⟨(hB9.get 0 rfl).cell 1, hB9⟩ (fun hHeldB => ?_)
      clear hK K hHeld hHeldA hHeldC hr9 hg9 ho9 hB9 ht9
      refine nm_ 24 ?_
      refine pu_ 6 25 (bm_ 8 0x7f) ?_
      refine la_ 7 none (bm_ 8 0xff) fun K hK => ?_
      have k0 : w9.cell? ⟨g4, 1, none⟩ = some (.slice A j c) := hHeldB.1
      have k1 : w9.frozen? ⟨g4, 1, none⟩ = false := (hHeldB.2.get 0 rfl).frozen 1
      refine skip_ (by rfl) rfl (w1 := w9.setCell ⟨g4, 1, none⟩ (.slice A9 (j + 1) c9)) (by go_simp) ?_
      refine hK.out _ _ ?_
      have HBN : Hid (Bs w (w9.setCell ⟨g4, 1, none⟩ (.slice A9 (j + 1) c9)) [(g4, 40, [.int .i64 0, .slice A9 (j + 1) c9]), (g2, 40, [.int .i64 0, .slice none 0 0])]) := Lib.hid (hHeldB.2.set 0 rfl 1 (.slice A9 (j + 1) c9))
      have HLN := Lib.hid (HO9.out.st (W1 := w9.setCell ⟨g4, 1, none⟩ (.slice A9 (j + 1) c9)) ⟨hHeldB.2.get 0 rfl, fun i hi => Below.heap_setCell w9 ⟨g4, 1, none⟩ _ i hi⟩)
      generalize w9.setCell ⟨g4, 1, none⟩ (.slice A9 (j + 1) c9) = w10 at HBN HLN ⊢
      clear hK K hHeldB k0 k1 HO9
      refine done_ (by kernel_rfl) ?_
      go_wp2
      go_roundg (m - j)
      case measure => have := HJ.out; omega
      case rel => exact ⟨j + 1, A9, c9, by go_num, Lib.hid ⟨by omega, by omega⟩, HBN, HLN⟩
    · skip
      have hjm : j = m := by have := HJ.out; omega
      have dj : decide ((j : Int) < (m : Int)) = false := decide_eq_false (by omega)
      have HNE : Hid (NRef wr (.agg #[.int .i64 0, .slice A j c]) (nt0 m)) := Lib.hid ⟨_, rfl, by have := HL.out; rw [hjm] at this ⊢; exact this.lref HM.out.1⟩
      clear hjm HL
      go_upto_region 8 with (fail)
      clear dj hj
      go_wp2_with (first
        | ((with_reducible refine gate_dst (N := 26) rfl ?_); refine wp_ld HBr.out 0 rfl rfl (.tmp 4) rfl rfl Tryd.underlying40 (by kernel_rfl) ?_)
        | ((with_reducible refine gate_store (t := 40) (p := 2) rfl ?_); refine wp_st HBr.out 1 rfl (q := 0) (seg := [.int .i64 0, .slice A j c]) rfl rfl rfl rfl rfl (by kernel_rfl) (Nat.le_refl _) (o_cons rfl (o_cons rfl o_nil)) ?_; intro w61 hq hf; have HB61 : Hid (Bs w w61 [(g4, 40, [.int .i64 0, .slice A j c]), (g2, 40, [.int .i64 0, .slice A j c])]) := hq; have HNG := Lib.hid (HNE.out.st hf.out); clear hq hf HBr))
      (try simp only [Exit.inBlock, Exit.then])
      refine bodyPost_ret (results_ct rfl _ _ g2 _ _ _ _ rfl (HB61.out.get 1 rfl) Tryd.underlying40 rfl (show (Tryd.prog.info? 40).map (·.size) = some 2 by kernel_rfl)) rfl ?_
      exact ⟨_, rfl, HNG.out, HB61.out.B⟩
end
end Go.Proofs.YtpfpdbbgiimnmaaDoor.Net
