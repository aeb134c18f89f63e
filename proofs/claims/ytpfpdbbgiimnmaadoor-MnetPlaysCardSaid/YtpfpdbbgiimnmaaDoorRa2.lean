/- geyserref22.Tick, Want by their contracts. Conditions: a net of at most 16 hosts; its numbers small. geyserref22.Want by its contract. Conditions: a net of at most 16 hosts; its numbers small. Queues of the document's net: rows of one's own, copies, what is read. Conditions: none. geyserref22.data, gets by their contracts. Conditions: a host, a datagram; its numbers small. geyserref22.Send by its contract. Conditions: a net of at most 16 hosts, datagrams; numbers small. -/
import Derived.Test.YtpfpdbbgiimnmaaDoorRa1
import Derived.Test.YtpfpdbbgiimnmaaDoorPg
namespace Go.Proofs.YtpfpdbbgiimnmaaDoor.Net
set_option linter.unusedSimpArgs false
set_option linter.unusedVariables false
section
open Go.RowKit Go.Deep Go.Proofs.YtpfpdbbgiimnmaaDoor.Er Go.Proofs.YtpfpdbbgiimnmaaDoor.Mod Go.Proofs.YtpfpdbbgiimnmaaDoorW.PrintWords Go.Proofs.YtpfpdbbgiimnmaaDoorW.PrintLast
theorem Bs.tail {w0 w : World} {b : Nat × Nat × List Value} {bs : List (Nat × Nat × List Value)} (h : Bs w0 w (b :: bs)) : Bs w0 w bs := ⟨h.B, fun x hx => h.bk x (List.mem_cons_of_mem _ hx), (List.pairwise_cons.1 h.ap).2⟩
theorem NRef.set {W : World} {v : Value} {s : Nt} {g j : Nat} {u : Value} {cs : List Value} (h : NRef W v s) (hk : Bk W g 40 cs) : NRef (W.setCell ⟨g, j, none⟩ u) v s := h.st ⟨hk, fun i hi => Below.heap_setCell W ⟨g, j, none⟩ u i hi⟩
/-- A row grows that is none of the boxes. -/
theorem Bs.grown {w0 w w' : World} {bs : List (Nat × Nat × List Value)} {row : Option Nat} {e : Nat} (h : Bs w0 w bs) (hg : w.grownBy w' row) (hr : ∀ r, row = some r → w0.heap.size ≤ r ∧ ∃ cur, w.heap[r]? = some (.cells cur e (0, 0))) (he : ∀ b ∈ bs, b.2.1 ≠ e) : Bs w0 w' bs := by
  refine ⟨below_grown h.B hg h.B.size (fun k hk => (hr k hk).1), fun b hb => ⟨?_, (h.bk b hb).2⟩, h.ap⟩
  have hk := (h.bk b hb).1
  refine (hg.block b.1 hk.lt (fun e2 => ?_)).trans hk
  obtain ⟨_, cur, hc⟩ := hr b.1 e2.symm
  unfold Bk at hk
  rw [hk] at hc
  cases hc
  exact he b hb rfl
theorem NRef.grown {w w' : World} {v : Value} {s : Nt} {row : Option Nat} (h : NRef w v s) {w0 : World} (hB : Below w0.heap.size w0 w') (h0 : NRef w0 v s) : NRef w' v s := h0.below hB
theorem NRef.host' {w : World} {z : Int} {A : Option Addr} {m c0 : Nat} {s : Nt} (h : NRef w (.agg #[.int .i64 z, .slice A m c0]) s) {k : Nat} (hk : k < s.n) : ∃ b FA fl fc QA ql qc, A = some ⟨b, 0, none⟩ ∧ z = s.now ∧ m = s.n ∧ m ≤ c0 ∧ b < w.heap.size ∧ HRef w (s.h k) (.slice FA fl fc) (.slice QA ql qc) ∧ ∀ j, j < 7 → w.cell? ⟨b, k * 7 + j, none⟩ = (hoR (s.h k) (.slice FA fl fc) (.slice QA ql qc))[j]? := by
  obtain ⟨b, c, FA, fl, fc, QA, ql, qc, e, hc, hb, hx, hr⟩ := h.host hk
  simp only [Value.agg.injEq, Array.mk.injEq, List.cons.injEq, Value.int.injEq, Value.slice.injEq, and_true, true_and] at e
  obtain ⟨e1, e2, e3, e4⟩ := e
  exact ⟨b, FA, fl, fc, QA, ql, qc, e2, e1, e3, by omega, hb, hx, hr⟩
def Nt.gotTo (s : Nt) (k : Nat) : Nt := ⟨s.now, s.n, fun i => if i < k then { s.h i with got := 0 } else s.h i⟩
theorem gotTo_zero (s : Nt) : Nt.gotTo s 0 = s := by unfold Nt.gotTo; simp
theorem gotTo_put (s : Nt) (k : Nat) : (Nt.gotTo s k).put k { (Nt.gotTo s k).h k with got := 0 } = Nt.gotTo s (k + 1) := by
  unfold Nt.gotTo Nt.put
  congr 1
  funext i
  dsimp only
  by_cases e : i = k
  · subst e; simp
  · by_cases e2 : i < k
    · simp [e, e2, show i < k + 1 by omega]
    · simp [e, e2, show ¬ i < k + 1 by omega]
theorem NRef.later {w : World} {z : Int} {lv : Value} {s s' : Nt} (h : NRef w (.agg #[.int .i64 z, lv]) s) (hn : s'.n = s.n) (hh : s'.h = s.h) : NRef w (.agg #[.int .i64 s'.now, lv]) s' := by
  obtain ⟨lv', e, hl⟩ := h
  simp only [Value.agg.injEq, Array.mk.injEq, List.cons.injEq, Value.int.injEq, and_true, true_and] at e
  obtain ⟨_, rfl⟩ := e
  refine ⟨lv, rfl, ?_⟩
  obtain ⟨b, c, cur, e, h1, h2, h3⟩ := hl
  exact ⟨b, c, cur, by rw [e, hn], by rw [hn]; exact h1, h2, by rw [hn, hh]; exact h3⟩
theorem NRef.spell {w : World} {v : Value} {s : Nt} (h : NRef w v s) {now : Int} {n : Nat} (h1 : now = s.now) (h2 : n = s.n) : ∃ b c, v = .agg #[.int .i64 now, .slice (some ⟨b, 0, none⟩) n c] ∧ n ≤ c := by
  obtain ⟨b, c, e, hc, _⟩ := h.parts
  exact ⟨b, c, by rw [e, h1, h2], by rw [h2]; exact hc⟩
set_option maxHeartbeats 8000000 in
set_option maxRecDepth 100000 in
theorem tick_r {w : World} {v : Value} {s : Nt} (h : NRef w v s) (hn : s.n ≤ 16) (hnow : 0 ≤ s.now ∧ s.now < 5000000000000) : Calls Tryd.prog 42 #[v] w fun e w' => ∃ v', e = .returned v' ∧ NRef w' v' s.tick ∧ Below w.heap.size w w' := by
  obtain ⟨b, c, rfl, hc, _⟩ := h.parts
  obtain ⟨n, hnn⟩ : ∃ n, n = s.n := ⟨_, rfl⟩
  obtain ⟨now, hno⟩ : ∃ z, z = s.now := ⟨_, rfl⟩
  rw [← hnn] at hc
  rw [← hno] at hnow
  have HN : Hid (NRef w (.agg #[.int .i64 now, .slice (some ⟨b, 0, none⟩) n c]) (Nt.gotTo s 0)) := Lib.hid (by rw [gotTo_zero, hnn, hno]; exact h)
  have H16 : Hid (∀ k, (Nt.gotTo s k).n ≤ 16) := Lib.hid (fun _ => hn)
  have HNN := Lib.hid (And.intro hno hnn)
  have HNOW := Lib.hid hnow
  have hn16 : n ≤ 16 := by omega
  rw [← hnn, ← hno]
  have HB0 := Lib.hid (Bs.start w)
  clear h hnn hno hnow hn
  go_enter Tryd.func42, Tryd.ntmps42
  go_upto_region 2 with (first
    | ((with_reducible refine gate_dst (N := 1) rfl ?_); refine wp_bx HB0.out (t := 40) (cs := [.int .i64 now, .slice (some ⟨b, 0, none⟩) n c]) rfl (.tmp 0) rfl rfl ?_; intro g1 w1 hb HB1; clear hb HB0)
    | ((with_reducible refine gate_dst (N := 2) rfl ?_); refine wp_al HB1.out (t := 40) rfl rfl al_T ?_; intro g2 w2 hb HB2; clear hb HB1))
  go_loopg [3, 4] (n + 1) (fun kq v3 v4 wr => ∃ (k b c : Nat), v3 = .int .i64 k ∧ Hid (k ≤ n ∧ kq = n + 1 - k ∧ n ≤ c) ∧ Hid (Bs w wr [(g2, 40, [.int .i64 0, .slice none 0 0]), (g1, 40, [.int .i64 now, .slice (some ⟨b, 0, none⟩) n c])]) ∧ Hid (NRef wr (.agg #[.int .i64 now, .slice (some ⟨b, 0, none⟩) n c]) (Nt.gotTo s k)))
  case atStart => exact ⟨0, b, c, rfl, Lib.hid ⟨by omega, by omega, hc⟩, HB2, Lib.hid (HN.out.below HB2.out.B)⟩
  case round =>
    obtain ⟨k, b, c, rfl, HK, HBr, HNr⟩ := hrel
    clear HN HB2 hc
    by_cases hk : k < n
    · skip
      have HBs := Lib.hid (Bs.start wr)
      have hg1 : Bk wr g1 40 [.int .i64 now, .slice (some ⟨b, 0, none⟩) n c] := HBr.out.get 1 rfl
      have HG1 := Lib.hid hg1
      clear hg1
      obtain ⟨b', FA, fl, fc, QA, ql, qc, e1, e2, e3, hc, hblt, hx, hrow⟩ := HNr.out.host' (k := k) (by show k < s.n; rw [← HNN.out.2]; exact hk)
      cases e1
      have HX := Lib.hid hx
      have HR := Lib.hid (And.intro hblt hrow)
      have HKK := Lib.hid hk
      obtain ⟨x, hxx⟩ : ∃ x, x = (Nt.gotTo s k).h k := ⟨_, rfl⟩
      have HXX := Lib.hid hxx
      rw [← hxx] at HX HR
      obtain ⟨i0, i1⟩ : (0 : Int) ≤ (k : Int) ∧ (k : Int) < (n : Int) := by omega
      have d0 : decide ((0 : Int) ≤ (k : Int)) = true := decide_eq_true i0
      have d1 : decide ((k : Int) < (n : Int)) = true := decide_eq_true i1
      clear e2 e3 hx hrow hblt hxx
      have a1 : wr.cell? ⟨g1, 1, none⟩ = some (.slice (some ⟨b, 0, none⟩) n c) := (HBr.out.get 1 rfl).cell 1
      have r0 : wr.cell? ⟨b, k * 7, none⟩ = some (.bool x.there) := HR.out.2 0 (by omega)
      have r1 : wr.cell? ⟨b, k * 7 + 1, none⟩ = some (.int .i64 x.level) := HR.out.2 1 (by omega)
      have r2 : wr.cell? ⟨b, k * 7 + 2, none⟩ = some (.slice FA fl fc) := HR.out.2 2 (by omega)
      have r3 : wr.cell? ⟨b, k * 7 + 3, none⟩ = some (.int .i64 x.graft) := HR.out.2 3 (by omega)
      have r4 : wr.cell? ⟨b, k * 7 + 4, none⟩ = some (.int .i64 x.cap) := HR.out.2 4 (by omega)
      have r5 : wr.cell? ⟨b, k * 7 + 5, none⟩ = some (.int .i64 x.got) := HR.out.2 5 (by omega)
      have r6 : wr.cell? ⟨b, k * 7 + 6, none⟩ = some (.slice QA ql qc) := HR.out.2 6 (by omega)
      go_upto_region 5 with (first
        | ((with_reducible refine gate_dst (N := 4) rfl ?_); refine wp_al HBs.out (t := 89) rfl rfl al_H ?_; intro g4 w21 hb HB21; clear hb HBs)
        | ((with_reducible refine gate_store (t := 89) (p := 4) rfl ?_); refine wp_st HB21.out 0 rfl (q := 0) (seg := [.bool x.there, .int .i64 x.level, .slice FA fl fc, .int .i64 x.graft, .int .i64 x.cap, .int .i64 x.got, .slice QA ql qc]) rfl rfl rfl rfl rfl (by kernel_rfl) (Nat.le_refl _) (o_cons rfl (o_cons rfl (o_cons rfl (o_cons rfl (o_cons rfl (o_cons rfl (o_cons rfl o_nil))))))) ?_; intro w22 hq hf; have HB22 : Hid (Bs wr w22 [(g4, 89, [.bool x.there, .int .i64 x.level, .slice FA fl fc, .int .i64 x.graft, .int .i64 x.cap, .int .i64 x.got, .slice QA ql qc])]) := hq; clear hq hf HB21))
      clear a1 r0 r1 r2 r3 r4 r5 r6
      have y5 : w22.cell? ⟨g4, 5, none⟩ = some (.int .i64 x.got) := (HB22.out.get 0 rfl).cell 5
      have f5 : w22.frozen? ⟨g4, 5, none⟩ = false := (HB22.out.get 0 rfl).frozen 5
      go_upto_region 6 with (fail)
      have HB23 : Hid (Bs wr (w22.setCell ⟨g4, 5, none⟩ (.int .i64 0)) [(g4, 89, [.bool x.there, .int .i64 x.level, .slice FA fl fc, .int .i64 x.graft, .int .i64 x.cap, .int .i64 0, .slice QA ql qc])]) := Lib.hid (HB22.out.set 0 rfl 5 (.int .i64 0))
      generalize w22.setCell ⟨g4, 5, none⟩ (.int .i64 0) = w23 at HB23 ⊢
      clear HB22
      clear y5 f5
      have y0 : w23.cell? ⟨g4, 0, none⟩ = some (.bool x.there) := (HB23.out.get 0 rfl).cell 0
      have y1 : w23.cell? ⟨g4, 1, none⟩ = some (.int .i64 x.level) := (HB23.out.get 0 rfl).cell 1
      have y2 : w23.cell? ⟨g4, 2, none⟩ = some (.slice FA fl fc) := (HB23.out.get 0 rfl).cell 2
      have y3 : w23.cell? ⟨g4, 3, none⟩ = some (.int .i64 x.graft) := (HB23.out.get 0 rfl).cell 3
      have y4 : w23.cell? ⟨g4, 4, none⟩ = some (.int .i64 x.cap) := (HB23.out.get 0 rfl).cell 4
      have y5 : w23.cell? ⟨g4, 5, none⟩ = some (.int .i64 0) := (HB23.out.get 0 rfl).cell 5
      have y6 : w23.cell? ⟨g4, 6, none⟩ = some (.slice QA ql qc) := (HB23.out.get 0 rfl).cell 6
      have HN9 : Hid (NRef w23 (.agg #[.int .i64 now, .slice (some ⟨b, 0, none⟩) n c]) (Nt.gotTo s k) ∧ HRef w23 x (.slice FA fl fc) (.slice QA ql qc)) := Lib.hid ⟨HNr.out.below HB23.out.B, HX.out.below HB23.out.B⟩
      go_wp2_with (first
        | ((with_reducible refine gate_dst (N := 18) rfl ?_); refine wp_ldk (HG1.out.below HB23.out.B) rfl (.tmp 1) rfl rfl Tryd.underlying40 (by kernel_rfl) ?_)
        | (go_at_call 54; refine (with_calls HN9.out.1 (H16.out k) k (by show k < s.n; rw [← HNN.out.2]; exact HKK.out) { x with got := 0 } (.slice FA fl fc) (.slice QA ql qc) ⟨HN9.out.2.1, HN9.out.2.2⟩).mono ?_; rintro e w24 ⟨v', rfl, hv, hb⟩; rw [HXX.out, gotTo_put] at hv; obtain ⟨b5, c5, rfl, hc5⟩ := hv.spell (now := now) (n := n) HNN.out.1 HNN.out.2; have HV := Lib.hid hv; have HC5 := Lib.hid hc5; have HB24 := Lib.hid (HBr.out.below (HB23.out.below hb).B); clear hv hb hc5 HB23)
        | ((with_reducible refine gate_store (t := 40) (p := 1) rfl ?_); refine wp_st HB24.out 1 rfl (q := 0) (seg := [.int .i64 now, .slice (some ⟨b5, 0, none⟩) n c5]) rfl rfl rfl rfl rfl (by kernel_rfl) (Nat.le_refl _) (o_cons rfl (o_cons rfl o_nil)) ?_; intro w25 hq hf; have HB25 : Hid (Bs w w25 [(g2, 40, [.int .i64 0, .slice none 0 0]), (g1, 40, [.int .i64 now, .slice (some ⟨b5, 0, none⟩) n c5])]) := hq; have HV2 := Lib.hid (HV.out.st hf.out); clear hq hf HB24))
      go_roundg (n - k)
      case measure => have := HK.out; omega
      case rel => exact ⟨k + 1, b5, c5, by go_num, Lib.hid ⟨by omega, by omega, HC5.out⟩, HB25, HV2⟩
    · skip
      have hkn : k = n := by have := HK.out; omega
      subst hkn
      have d1 : decide ((k : Int) < (k : Int)) = false := decide_eq_false (by omega)
      have hw : wrap64 (now + 1) = now + 1 := by have := HNOW.out; unfold wrap64; omega
      have HNE : Hid (NRef wr (.agg #[.int .i64 (now + 1), .slice (some ⟨b, 0, none⟩) k c]) s.tick) := Lib.hid (by
        have hq := NRef.later (s' := s.tick) HNr.out (by rfl) (by rw [HNN.out.2]; rfl)
        rw [show s.tick.now = now + 1 by rw [HNN.out.1]; rfl] at hq
        exact hq)
      have a0 : wr.cell? ⟨g1, 0, none⟩ = some (.int .i64 now) := (HBr.out.get 1 rfl).cell 0
      have a1 : wr.cell? ⟨g1, 1, none⟩ = some (.slice (some ⟨b, 0, none⟩) k c) := (HBr.out.get 1 rfl).cell 1
      have f0 : wr.frozen? ⟨g1, 0, none⟩ = false := (HBr.out.get 1 rfl).frozen 0
      go_upto_region 8 with (fail)
      have HNF : Hid (NRef (wr.setCell ⟨g1, 0, none⟩ (.int .i64 (now + 1))) (.agg #[.int .i64 (now + 1), .slice (some ⟨b, 0, none⟩) k c]) s.tick) := Lib.hid (HNE.out.set (HBr.out.get 1 rfl))
      have HB3 : Hid (Bs w (wr.setCell ⟨g1, 0, none⟩ (.int .i64 (now + 1))) [(g2, 40, [.int .i64 0, .slice none 0 0]), (g1, 40, [.int .i64 (now + 1), .slice (some ⟨b, 0, none⟩) k c])]) := Lib.hid (HBr.out.set 1 rfl 0 (.int .i64 (now + 1)))
      generalize wr.setCell ⟨g1, 0, none⟩ (.int .i64 (now + 1)) = w3 at HNF HB3 ⊢
      clear HBr
      clear hw a0 a1 f0
      go_wp2_with (first
        | ((with_reducible refine gate_dst (N := 26) rfl ?_); refine wp_ld HB3.out 1 rfl rfl (.tmp 1) rfl rfl Tryd.underlying40 (by kernel_rfl) ?_)
        | ((with_reducible refine gate_store (t := 40) (p := 2) rfl ?_); refine wp_st HB3.out 0 rfl (q := 0) (seg := [.int .i64 (now + 1), .slice (some ⟨b, 0, none⟩) k c]) rfl rfl rfl rfl rfl (by kernel_rfl) (Nat.le_refl _) (o_cons rfl (o_cons rfl o_nil)) ?_; intro w4 hq hf; have HB4 : Hid (Bs w w4 [(g2, 40, [.int .i64 (now + 1), .slice (some ⟨b, 0, none⟩) k c]), (g1, 40, [.int .i64 (now + 1), .slice (some ⟨b, 0, none⟩) k c])]) := hq; have HNG := Lib.hid (HNF.out.st hf.out); clear hq hf HB3))
      (try simp only [Exit.inBlock, Exit.then])
      refine bodyPost_ret (results_c1 rfl _ _ g2 _ _ _ _ rfl (HB4.out.get 0 rfl) Tryd.underlying40 rfl (show (Tryd.prog.info? 40).map (·.size) = some 2 by kernel_rfl)) rfl ?_
      exact ⟨_, rfl, HNG.out, HB4.out.B⟩
end
section
open Go.RowKit Go.Deep Go.Proofs.YtpfpdbbgiimnmaaDoor.Er Go.Proofs.YtpfpdbbgiimnmaaDoor.Mod Go.Proofs.YtpfpdbbgiimnmaaDoorW.PrintWords Go.Proofs.YtpfpdbbgiimnmaaDoorW.PrintLast
theorem infoN : (Tryd.prog.info? 3).map (fun i => (i.zero, i.size, i.bytes)) = some (some (.int .i64 0), 1, 8) := by kernel_rfl
theorem own_empty {w : World} {e B sz : Nat} (hB : B ≤ w.heap.size) : (w.alloc (.cells #[] e)).ownsRow B e sz (.slice (some ⟨w.heap.size, 0, none⟩) 0 0) 0 [] := ⟨by simp, .inr ⟨w.heap.size, 0, #[], rfl, hB, blk_new w _, Nat.le_refl _, Nat.zero_le _, by simp, by simp⟩⟩
theorem FRef.at {w : World} {A : Option Addr} {l c : Nat} {f : Nat → Int} (h : FRef w (.slice A l c) f) : ∃ fb, A = some ⟨fb, 0, none⟩ ∧ l = 8 ∧ 8 ≤ c ∧ fb < w.heap.size ∧ ∀ j, j < 8 → w.cell? ⟨fb, j, none⟩ = some (.int .i64 (f j)) := by
  obtain ⟨b, c', cur, e, h1, h2, h3⟩ := h
  simp only [Value.slice.injEq] at e
  obtain ⟨e1, e2, e3⟩ := e
  exact ⟨b, e1, e2, by omega, lt_of h2, fun j hj => by rw [← h3 j hj]; simp [World.cell?, h2]⟩
theorem FRef.of_own {w : World} {B : Nat} {v : Value} {f : Nat → Int} (h : w.ownsRow B 3 1 v 8 ((List.range 8).map fun i => Value.int .i64 (f i))) : ∃ b c, v = .slice (some ⟨b, 0, none⟩) 8 c ∧ FRef w v f := by
  obtain ⟨hl, hv⟩ := h
  rcases hv with ⟨_, e⟩ | ⟨b, cap, cur, rfl, hb, hc, h1, h2, h3, h4⟩
  · omega
  · refine ⟨b, cap, rfl, b, cap, cur, rfl, h1, hc, fun j hj => ?_⟩
    have e : (cur.toList.take (8 * 1))[j]? = some (.int .i64 (f j)) := by rw [h4, List.getElem?_map, List.getElem?_range hj]; rfl
    rw [List.getElem?_take, if_pos (by omega)] at e
    simpa using e
theorem FRef.setH {W : World} {v : Value} {f : Nat → Int} {g j : Nat} {u : Value} {cs : List Value} (h : FRef W v f) (hk : Bk W g 89 cs) : FRef (W.setCell ⟨g, j, none⟩ u) v f := by
  obtain ⟨b, c, cur, e, h1, h2, h3⟩ := h
  refine ⟨b, c, cur, e, h1, (Below.heap_setCell W ⟨g, j, none⟩ u b (fun e => ?_)).trans h2, h3⟩
  dsimp only at e
  subst e
  unfold Bk at hk
  rw [h2] at hk
  cases hk
def froC (x : Ho) (t k : Int) (j : Nat) : List Value := (List.range j).map fun i => Value.int .i64 (x.froTo t k i)
theorem froC_snoc (x : Ho) (t k : Int) (j : Nat) : froC x t k (j + 1) = froC x t k j ++ [Value.int .i64 (x.froTo t k j)] := by unfold froC; rw [List.range_succ, List.map_append]; rfl
set_option maxHeartbeats 8000000 in
set_option maxRecDepth 100000 in
theorem want_r {w : World} {v : Value} {s : Nt} (h : NRef w v s) (hn : s.n ≤ 16) (hnw : 0 ≤ s.now ∧ s.now < 5000000000000) (hgr : ∀ k, k < s.n → 0 ≤ (s.h k).graft ∧ (s.h k).graft ≤ 64) (i m : Int) : Calls Tryd.prog 38 #[v, .int .i64 i, .int .i64 m] w fun e w' => ∃ v', e = .returned (.tuple #[v', .int .i64 (s.wantE i m)]) ∧ NRef w' v' (s.want i m) ∧ Below w.heap.size w w' := by
  by_cases ha : s.at i = 0
  rotate_left
  · skip
    have hE : s.wantE i m = 1 := (if_neg ha).trans (at_no ha).1
    have hS : s.want i m = s := if_neg (by rw [hE]; decide)
    have HIs := Lib.hid (at_dec ha)
    rw [hE, hS]
    clear ha hE hS hnw hgr
    obtain ⟨b, c, rfl, hc, _⟩ := h.parts
    have HN := Lib.hid h
    have H16 := Lib.hid hn
    obtain ⟨n, hnn⟩ : ∃ n, n = s.n := ⟨_, rfl⟩
    obtain ⟨now, hnow⟩ : ∃ z, z = s.now := ⟨_, rfl⟩
    rw [← hnn, ← hnow] at HN ⊢
    rw [← hnn] at hc
    have HB0 := Lib.hid (Bs.start w)
    clear h hn hnn hnow
    go_enter Tryd.func38, Tryd.ntmps38
    go_wp2_with (first
      | ((with_reducible refine gate_dst (N := 3) rfl ?_); refine wp_bx HB0.out (t := 40) (cs := [.int .i64 now, .slice (some ⟨b, 0, none⟩) n c]) rfl (.tmp 0) rfl rfl ?_; intro g2 w1 hb HB1; clear hb HB0)
      | ((with_reducible refine gate_dst (N := 6) rfl ?_); refine wp_al HB1.out (t := 40) rfl rfl al_T ?_; intro g4 w2 hb HB2; clear hb HB1)
      | ((with_reducible refine gate_dst (N := 11) rfl ?_); refine wp_ld HB2.out 1 rfl rfl (.tmp 3) rfl rfl Tryd.underlying40 (by kernel_rfl) ?_)
      | (go_at_call 46; refine (is_calls (HN.out.below HB2.out.B) H16.out i).mono ?_; rintro e w3 ⟨rfl, hb⟩; rw [HIs.out]; have HB3 := Lib.hid (HB2.out.below hb); clear hb HB2)
      | ((with_reducible refine gate_dst (N := 15) rfl ?_); refine wp_ld HB3.out 1 rfl rfl (.tmp 3) rfl rfl Tryd.underlying40 (by kernel_rfl) ?_)
      | ((with_reducible refine gate_store (t := 40) (p := 6) rfl ?_); refine wp_st HB3.out 0 rfl (q := 0) (seg := [.int .i64 now, .slice (some ⟨b, 0, none⟩) n c]) rfl rfl rfl rfl rfl (by kernel_rfl) (Nat.le_refl _) (o_cons rfl (o_cons rfl o_nil)) ?_; intro w4 hq hf; have HB4 : Hid (Bs w w4 [(g4, 40, [.int .i64 now, .slice (some ⟨b, 0, none⟩) n c]), (g2, 40, [.int .i64 now, .slice (some ⟨b, 0, none⟩) n c])]) := hq; clear hq hf HB3))
    (try simp only [Exit.inBlock, Exit.then])
    refine bodyPost_ret (results_ct rfl _ _ g4 _ _ _ _ rfl (HB4.out.get 0 rfl) Tryd.underlying40 rfl (show (Tryd.prog.info? 40).map (·.size) = some 2 by kernel_rfl)) rfl ?_
    exact ⟨_, rfl, HN.out.below HB4.out.B, HB4.out.B⟩
  obtain ⟨k, rfl, hk⟩ := at_of ha
  have HIs := Lib.hid (at_dec1 hk)
  by_cases ht : (s.h k).there = true
  rotate_left
  · skip
    have ht2 : (s.h k).there = false := by cases hh : (s.h k).there with
      | false => rfl
      | true => exact absurd hh ht
    have hE : s.wantE (k : Int) m = 7 := (if_pos ha).trans (if_neg (by rw [Int.toNat_natCast]; exact ht))
    have hS : s.want (k : Int) m = s := if_neg (by rw [hE]; decide)
    rw [hE, hS]
    clear ha hE hS hnw hgr
    obtain ⟨b, c, FA, fl, fc, QA, ql, qc, rfl, hc, hblt, hx, hrow⟩ := h.host hk
    have HN := Lib.hid h
    have H16 := Lib.hid hn
    have HK := Lib.hid hk
    have HX := Lib.hid hx
    have HR := Lib.hid (And.intro hblt hrow)
    obtain ⟨x, hxx⟩ : ∃ x, x = s.h k := ⟨_, rfl⟩
    have HXX := Lib.hid hxx
    rw [← hxx] at HX HR
    obtain ⟨n, hnn⟩ : ∃ n, n = s.n := ⟨_, rfl⟩
    obtain ⟨now, hnow⟩ : ∃ z, z = s.now := ⟨_, rfl⟩
    have HNN := Lib.hid (And.intro hnn hnow)
    rw [← hnn, ← hnow] at HN ⊢
    rw [← hnn] at hc
    have hkn : k < n := by rw [hnn]; exact hk
    obtain ⟨i0, i1⟩ : (0 : Int) ≤ (k : Int) ∧ (k : Int) < (n : Int) := by omega
    have e0 : decide ((0 : Int) ≤ (k : Int)) = true := decide_eq_true i0
    have e1 : decide ((k : Int) < (n : Int)) = true := decide_eq_true i1
    have HB0 := Lib.hid (Bs.start w)
    clear h hn hk hx hrow hblt hxx hnn hnow
    have hth : x.there = false := by rw [HXX.out]; exact ht2
    clear ht ht2
    go_enter Tryd.func38, Tryd.ntmps38
    go_upto_region 3 with (first
      | ((with_reducible refine gate_dst (N := 3) rfl ?_); refine wp_bx HB0.out (t := 40) (cs := [.int .i64 now, .slice (some ⟨b, 0, none⟩) n c]) rfl (.tmp 0) rfl rfl ?_; intro g2 w1 hb HB1; clear hb HB0)
      | ((with_reducible refine gate_dst (N := 6) rfl ?_); refine wp_al HB1.out (t := 40) rfl rfl al_T ?_; intro g4 w2 hb HB2; clear hb HB1)
      | ((with_reducible refine gate_dst (N := 11) rfl ?_); refine wp_ld HB2.out 1 rfl rfl (.tmp 3) rfl rfl Tryd.underlying40 (by kernel_rfl) ?_)
      | (go_at_call 46; refine (is_calls (HN.out.below HB2.out.B) H16.out k).mono ?_; rintro e w3 ⟨rfl, hb⟩; rw [HIs.out]; have HB3 := Lib.hid (HB2.out.below hb); clear hb HB2))
    have a1 : w3.cell? ⟨g2, 1, none⟩ = some (.slice (some ⟨b, 0, none⟩) n c) := (HB3.out.get 1 rfl).cell 1
    have r0 : w3.cell? ⟨b, k * 7, none⟩ = some (.bool false) := (by rw [← hth]; exact (HB3.out.B.cell (p := ⟨b, _, none⟩) HR.out.1).trans (HR.out.2 0 (by omega)))
    have r1 : w3.cell? ⟨b, k * 7 + 1, none⟩ = some (.int .i64 x.level) := (HB3.out.B.cell (p := ⟨b, _, none⟩) HR.out.1).trans (HR.out.2 1 (by omega))
    have r2 : w3.cell? ⟨b, k * 7 + 2, none⟩ = some (.slice FA fl fc) := (HB3.out.B.cell (p := ⟨b, _, none⟩) HR.out.1).trans (HR.out.2 2 (by omega))
    have r3 : w3.cell? ⟨b, k * 7 + 3, none⟩ = some (.int .i64 x.graft) := (HB3.out.B.cell (p := ⟨b, _, none⟩) HR.out.1).trans (HR.out.2 3 (by omega))
    have r4 : w3.cell? ⟨b, k * 7 + 4, none⟩ = some (.int .i64 x.cap) := (HB3.out.B.cell (p := ⟨b, _, none⟩) HR.out.1).trans (HR.out.2 4 (by omega))
    have r5 : w3.cell? ⟨b, k * 7 + 5, none⟩ = some (.int .i64 x.got) := (HB3.out.B.cell (p := ⟨b, _, none⟩) HR.out.1).trans (HR.out.2 5 (by omega))
    have r6 : w3.cell? ⟨b, k * 7 + 6, none⟩ = some (.slice QA ql qc) := (HB3.out.B.cell (p := ⟨b, _, none⟩) HR.out.1).trans (HR.out.2 6 (by omega))
    clear hth
    go_upto_region 4 with (first
      | ((with_reducible refine gate_dst (N := 8) rfl ?_); refine wp_al HB3.out (t := 89) rfl rfl al_H ?_; intro g8 w4 hb HB4; clear hb HB3)
      | ((with_reducible refine gate_store (t := 89) (p := 8) rfl ?_); refine wp_st HB4.out 0 rfl (q := 0) (seg := [.bool false, .int .i64 x.level, .slice FA fl fc, .int .i64 x.graft, .int .i64 x.cap, .int .i64 x.got, .slice QA ql qc]) rfl rfl rfl rfl rfl (by kernel_rfl) (Nat.le_refl _) (o_cons rfl (o_cons rfl (o_cons rfl (o_cons rfl (o_cons rfl (o_cons rfl (o_cons rfl o_nil))))))) ?_; intro w5 hq hf; have HB5 : Hid (Bs w w5 [(g8, 89, [.bool false, .int .i64 x.level, .slice FA fl fc, .int .i64 x.graft, .int .i64 x.cap, .int .i64 x.got, .slice QA ql qc]), (g4, 40, [.int .i64 0, .slice none 0 0]), (g2, 40, [.int .i64 now, .slice (some ⟨b, 0, none⟩) n c])]) := hq; clear hq hf HB4))
    clear a1 r0 r1 r2 r3 r4 r5 r6
    have y0 : w5.cell? ⟨g8, 0, none⟩ = some (.bool false) := (HB5.out.get 0 rfl).cell 0
    go_wp2_with (first
      | ((with_reducible refine gate_dst (N := 24) rfl ?_); refine wp_ld HB5.out 2 rfl rfl (.tmp 3) rfl rfl Tryd.underlying40 (by kernel_rfl) ?_)
      | ((with_reducible refine gate_store (t := 40) (p := 6) rfl ?_); refine wp_st HB5.out 1 rfl (q := 0) (seg := [.int .i64 now, .slice (some ⟨b, 0, none⟩) n c]) rfl rfl rfl rfl rfl (by kernel_rfl) (Nat.le_refl _) (o_cons rfl (o_cons rfl o_nil)) ?_; intro w6 hq hf; have HB6 : Hid (Bs w w6 [(g8, 89, [.bool false, .int .i64 x.level, .slice FA fl fc, .int .i64 x.graft, .int .i64 x.cap, .int .i64 x.got, .slice QA ql qc]), (g4, 40, [.int .i64 now, .slice (some ⟨b, 0, none⟩) n c]), (g2, 40, [.int .i64 now, .slice (some ⟨b, 0, none⟩) n c])]) := hq; clear hq hf HB5))
    (try simp only [Exit.inBlock, Exit.then])
    refine bodyPost_ret (results_ct rfl _ _ g4 _ _ _ _ rfl (HB6.out.get 1 rfl) Tryd.underlying40 rfl (show (Tryd.prog.info? 40).map (·.size) = some 2 by kernel_rfl)) rfl ?_
    exact ⟨_, rfl, HN.out.below HB6.out.B, HB6.out.B⟩
  have hE0 : s.wantE (k : Int) m = if m < -1 ∨ 8 ≤ m then 1 else 0 := (if_pos ha).trans (if_pos (by rw [Int.toNat_natCast]; exact ht))
  by_cases hm : m < -1 ∨ 8 ≤ m
  · have hE : s.wantE (k : Int) m = 1 := hE0.trans (if_pos hm)
    have hS : s.want (k : Int) m = s := if_neg (by rw [hE]; decide)
    rw [hE, hS]
    have hm2 : m < -1 ∨ (¬ m < -1 ∧ 7 < m) := by omega
    have ht2 := ht
    clear ha hE hS hm hE0 hnw hgr
    rcases hm2 with h1 | ⟨h1, h2⟩
    · skip
      have d1 : decide (m < (-1 : Int)) = true := decide_eq_true h1
      clear h1
      obtain ⟨b, c, FA, fl, fc, QA, ql, qc, rfl, hc, hblt, hx, hrow⟩ := h.host hk
      have HN := Lib.hid h
      have H16 := Lib.hid hn
      have HK := Lib.hid hk
      have HX := Lib.hid hx
      have HR := Lib.hid (And.intro hblt hrow)
      obtain ⟨x, hxx⟩ : ∃ x, x = s.h k := ⟨_, rfl⟩
      have HXX := Lib.hid hxx
      rw [← hxx] at HX HR
      obtain ⟨n, hnn⟩ : ∃ n, n = s.n := ⟨_, rfl⟩
      obtain ⟨now, hnow⟩ : ∃ z, z = s.now := ⟨_, rfl⟩
      have HNN := Lib.hid (And.intro hnn hnow)
      rw [← hnn, ← hnow] at HN ⊢
      rw [← hnn] at hc
      have hkn : k < n := by rw [hnn]; exact hk
      obtain ⟨i0, i1⟩ : (0 : Int) ≤ (k : Int) ∧ (k : Int) < (n : Int) := by omega
      have e0 : decide ((0 : Int) ≤ (k : Int)) = true := decide_eq_true i0
      have e1 : decide ((k : Int) < (n : Int)) = true := decide_eq_true i1
      have HB0 := Lib.hid (Bs.start w)
      clear h hn hk hx hrow hblt hxx hnn hnow
      have hth : x.there = true := by rw [HXX.out]; exact ht2
      clear ht ht2
      go_enter Tryd.func38, Tryd.ntmps38
      go_upto_region 3 with (first
        | ((with_reducible refine gate_dst (N := 3) rfl ?_); refine wp_bx HB0.out (t := 40) (cs := [.int .i64 now, .slice (some ⟨b, 0, none⟩) n c]) rfl (.tmp 0) rfl rfl ?_; intro g2 w1 hb HB1; clear hb HB0)
        | ((with_reducible refine gate_dst (N := 6) rfl ?_); refine wp_al HB1.out (t := 40) rfl rfl al_T ?_; intro g4 w2 hb HB2; clear hb HB1)
        | ((with_reducible refine gate_dst (N := 11) rfl ?_); refine wp_ld HB2.out 1 rfl rfl (.tmp 3) rfl rfl Tryd.underlying40 (by kernel_rfl) ?_)
        | (go_at_call 46; refine (is_calls (HN.out.below HB2.out.B) H16.out k).mono ?_; rintro e w3 ⟨rfl, hb⟩; rw [HIs.out]; have HB3 := Lib.hid (HB2.out.below hb); clear hb HB2))
      have a1 : w3.cell? ⟨g2, 1, none⟩ = some (.slice (some ⟨b, 0, none⟩) n c) := (HB3.out.get 1 rfl).cell 1
      have r0 : w3.cell? ⟨b, k * 7, none⟩ = some (.bool true) := (by rw [← hth]; exact (HB3.out.B.cell (p := ⟨b, _, none⟩) HR.out.1).trans (HR.out.2 0 (by omega)))
      have r1 : w3.cell? ⟨b, k * 7 + 1, none⟩ = some (.int .i64 x.level) := (HB3.out.B.cell (p := ⟨b, _, none⟩) HR.out.1).trans (HR.out.2 1 (by omega))
      have r2 : w3.cell? ⟨b, k * 7 + 2, none⟩ = some (.slice FA fl fc) := (HB3.out.B.cell (p := ⟨b, _, none⟩) HR.out.1).trans (HR.out.2 2 (by omega))
      have r3 : w3.cell? ⟨b, k * 7 + 3, none⟩ = some (.int .i64 x.graft) := (HB3.out.B.cell (p := ⟨b, _, none⟩) HR.out.1).trans (HR.out.2 3 (by omega))
      have r4 : w3.cell? ⟨b, k * 7 + 4, none⟩ = some (.int .i64 x.cap) := (HB3.out.B.cell (p := ⟨b, _, none⟩) HR.out.1).trans (HR.out.2 4 (by omega))
      have r5 : w3.cell? ⟨b, k * 7 + 5, none⟩ = some (.int .i64 x.got) := (HB3.out.B.cell (p := ⟨b, _, none⟩) HR.out.1).trans (HR.out.2 5 (by omega))
      have r6 : w3.cell? ⟨b, k * 7 + 6, none⟩ = some (.slice QA ql qc) := (HB3.out.B.cell (p := ⟨b, _, none⟩) HR.out.1).trans (HR.out.2 6 (by omega))
      clear hth
      go_upto_region 4 with (first
        | ((with_reducible refine gate_dst (N := 8) rfl ?_); refine wp_al HB3.out (t := 89) rfl rfl al_H ?_; intro g8 w4 hb HB4; clear hb HB3)
        | ((with_reducible refine gate_store (t := 89) (p := 8) rfl ?_); refine wp_st HB4.out 0 rfl (q := 0) (seg := [.bool true, .int .i64 x.level, .slice FA fl fc, .int .i64 x.graft, .int .i64 x.cap, .int .i64 x.got, .slice QA ql qc]) rfl rfl rfl rfl rfl (by kernel_rfl) (Nat.le_refl _) (o_cons rfl (o_cons rfl (o_cons rfl (o_cons rfl (o_cons rfl (o_cons rfl (o_cons rfl o_nil))))))) ?_; intro w5 hq hf; have HB5 : Hid (Bs w w5 [(g8, 89, [.bool true, .int .i64 x.level, .slice FA fl fc, .int .i64 x.graft, .int .i64 x.cap, .int .i64 x.got, .slice QA ql qc]), (g4, 40, [.int .i64 0, .slice none 0 0]), (g2, 40, [.int .i64 now, .slice (some ⟨b, 0, none⟩) n c])]) := hq; clear hq hf HB4))
      clear a1 r0 r1 r2 r3 r4 r5 r6
      have y0 : w5.cell? ⟨g8, 0, none⟩ = some (.bool true) := (HB5.out.get 0 rfl).cell 0
      go_wp2_with (first
        | ((with_reducible refine gate_dst (N := 31) rfl ?_); refine wp_ld HB5.out 2 rfl rfl (.tmp 3) rfl rfl Tryd.underlying40 (by kernel_rfl) ?_)
        | ((with_reducible refine gate_store (t := 40) (p := 6) rfl ?_); refine wp_st HB5.out 1 rfl (q := 0) (seg := [.int .i64 now, .slice (some ⟨b, 0, none⟩) n c]) rfl rfl rfl rfl rfl (by kernel_rfl) (Nat.le_refl _) (o_cons rfl (o_cons rfl o_nil)) ?_; intro w6 hq hf; have HB6 : Hid (Bs w w6 [(g8, 89, [.bool true, .int .i64 x.level, .slice FA fl fc, .int .i64 x.graft, .int .i64 x.cap, .int .i64 x.got, .slice QA ql qc]), (g4, 40, [.int .i64 now, .slice (some ⟨b, 0, none⟩) n c]), (g2, 40, [.int .i64 now, .slice (some ⟨b, 0, none⟩) n c])]) := hq; clear hq hf HB5))
      (try simp only [Exit.inBlock, Exit.then])
      refine bodyPost_ret (results_ct rfl _ _ g4 _ _ _ _ rfl (HB6.out.get 1 rfl) Tryd.underlying40 rfl (show (Tryd.prog.info? 40).map (·.size) = some 2 by kernel_rfl)) rfl ?_
      exact ⟨_, rfl, HN.out.below HB6.out.B, HB6.out.B⟩
    · skip
      have d1 : decide (m < (-1 : Int)) = false := decide_eq_false h1
      have d2 : decide ((7 : Int) < m) = true := decide_eq_true h2
      clear h1 h2
      obtain ⟨b, c, FA, fl, fc, QA, ql, qc, rfl, hc, hblt, hx, hrow⟩ := h.host hk
      have HN := Lib.hid h
      have H16 := Lib.hid hn
      have HK := Lib.hid hk
      have HX := Lib.hid hx
      have HR := Lib.hid (And.intro hblt hrow)
      obtain ⟨x, hxx⟩ : ∃ x, x = s.h k := ⟨_, rfl⟩
      have HXX := Lib.hid hxx
      rw [← hxx] at HX HR
      obtain ⟨n, hnn⟩ : ∃ n, n = s.n := ⟨_, rfl⟩
      obtain ⟨now, hnow⟩ : ∃ z, z = s.now := ⟨_, rfl⟩
      have HNN := Lib.hid (And.intro hnn hnow)
      rw [← hnn, ← hnow] at HN ⊢
      rw [← hnn] at hc
      have hkn : k < n := by rw [hnn]; exact hk
      obtain ⟨i0, i1⟩ : (0 : Int) ≤ (k : Int) ∧ (k : Int) < (n : Int) := by omega
      have e0 : decide ((0 : Int) ≤ (k : Int)) = true := decide_eq_true i0
      have e1 : decide ((k : Int) < (n : Int)) = true := decide_eq_true i1
      have HB0 := Lib.hid (Bs.start w)
      clear h hn hk hx hrow hblt hxx hnn hnow
      have hth : x.there = true := by rw [HXX.out]; exact ht2
      clear ht ht2
      go_enter Tryd.func38, Tryd.ntmps38
      go_upto_region 3 with (first
        | ((with_reducible refine gate_dst (N := 3) rfl ?_); refine wp_bx HB0.out (t := 40) (cs := [.int .i64 now, .slice (some ⟨b, 0, none⟩) n c]) rfl (.tmp 0) rfl rfl ?_; intro g2 w1 hb HB1; clear hb HB0)
        | ((with_reducible refine gate_dst (N := 6) rfl ?_); refine wp_al HB1.out (t := 40) rfl rfl al_T ?_; intro g4 w2 hb HB2; clear hb HB1)
        | ((with_reducible refine gate_dst (N := 11) rfl ?_); refine wp_ld HB2.out 1 rfl rfl (.tmp 3) rfl rfl Tryd.underlying40 (by kernel_rfl) ?_)
        | (go_at_call 46; refine (is_calls (HN.out.below HB2.out.B) H16.out k).mono ?_; rintro e w3 ⟨rfl, hb⟩; rw [HIs.out]; have HB3 := Lib.hid (HB2.out.below hb); clear hb HB2))
      have a1 : w3.cell? ⟨g2, 1, none⟩ = some (.slice (some ⟨b, 0, none⟩) n c) := (HB3.out.get 1 rfl).cell 1
      have r0 : w3.cell? ⟨b, k * 7, none⟩ = some (.bool true) := (by rw [← hth]; exact (HB3.out.B.cell (p := ⟨b, _, none⟩) HR.out.1).trans (HR.out.2 0 (by omega)))
      have r1 : w3.cell? ⟨b, k * 7 + 1, none⟩ = some (.int .i64 x.level) := (HB3.out.B.cell (p := ⟨b, _, none⟩) HR.out.1).trans (HR.out.2 1 (by omega))
      have r2 : w3.cell? ⟨b, k * 7 + 2, none⟩ = some (.slice FA fl fc) := (HB3.out.B.cell (p := ⟨b, _, none⟩) HR.out.1).trans (HR.out.2 2 (by omega))
      have r3 : w3.cell? ⟨b, k * 7 + 3, none⟩ = some (.int .i64 x.graft) := (HB3.out.B.cell (p := ⟨b, _, none⟩) HR.out.1).trans (HR.out.2 3 (by omega))
      have r4 : w3.cell? ⟨b, k * 7 + 4, none⟩ = some (.int .i64 x.cap) := (HB3.out.B.cell (p := ⟨b, _, none⟩) HR.out.1).trans (HR.out.2 4 (by omega))
      have r5 : w3.cell? ⟨b, k * 7 + 5, none⟩ = some (.int .i64 x.got) := (HB3.out.B.cell (p := ⟨b, _, none⟩) HR.out.1).trans (HR.out.2 5 (by omega))
      have r6 : w3.cell? ⟨b, k * 7 + 6, none⟩ = some (.slice QA ql qc) := (HB3.out.B.cell (p := ⟨b, _, none⟩) HR.out.1).trans (HR.out.2 6 (by omega))
      clear hth
      go_upto_region 4 with (first
        | ((with_reducible refine gate_dst (N := 8) rfl ?_); refine wp_al HB3.out (t := 89) rfl rfl al_H ?_; intro g8 w4 hb HB4; clear hb HB3)
        | ((with_reducible refine gate_store (t := 89) (p := 8) rfl ?_); refine wp_st HB4.out 0 rfl (q := 0) (seg := [.bool true, .int .i64 x.level, .slice FA fl fc, .int .i64 x.graft, .int .i64 x.cap, .int .i64 x.got, .slice QA ql qc]) rfl rfl rfl rfl rfl (by kernel_rfl) (Nat.le_refl _) (o_cons rfl (o_cons rfl (o_cons rfl (o_cons rfl (o_cons rfl (o_cons rfl (o_cons rfl o_nil))))))) ?_; intro w5 hq hf; have HB5 : Hid (Bs w w5 [(g8, 89, [.bool true, .int .i64 x.level, .slice FA fl fc, .int .i64 x.graft, .int .i64 x.cap, .int .i64 x.got, .slice QA ql qc]), (g4, 40, [.int .i64 0, .slice none 0 0]), (g2, 40, [.int .i64 now, .slice (some ⟨b, 0, none⟩) n c])]) := hq; clear hq hf HB4))
      clear a1 r0 r1 r2 r3 r4 r5 r6
      have y0 : w5.cell? ⟨g8, 0, none⟩ = some (.bool true) := (HB5.out.get 0 rfl).cell 0
      go_wp2_with (first
        | ((with_reducible refine gate_dst (N := 31) rfl ?_); refine wp_ld HB5.out 2 rfl rfl (.tmp 3) rfl rfl Tryd.underlying40 (by kernel_rfl) ?_)
        | ((with_reducible refine gate_store (t := 40) (p := 6) rfl ?_); refine wp_st HB5.out 1 rfl (q := 0) (seg := [.int .i64 now, .slice (some ⟨b, 0, none⟩) n c]) rfl rfl rfl rfl rfl (by kernel_rfl) (Nat.le_refl _) (o_cons rfl (o_cons rfl o_nil)) ?_; intro w6 hq hf; have HB6 : Hid (Bs w w6 [(g8, 89, [.bool true, .int .i64 x.level, .slice FA fl fc, .int .i64 x.graft, .int .i64 x.cap, .int .i64 x.got, .slice QA ql qc]), (g4, 40, [.int .i64 now, .slice (some ⟨b, 0, none⟩) n c]), (g2, 40, [.int .i64 now, .slice (some ⟨b, 0, none⟩) n c])]) := hq; clear hq hf HB5))
      (try simp only [Exit.inBlock, Exit.then])
      refine bodyPost_ret (results_ct rfl _ _ g4 _ _ _ _ rfl (HB6.out.get 1 rfl) Tryd.underlying40 rfl (show (Tryd.prog.info? 40).map (·.size) = some 2 by kernel_rfl)) rfl ?_
      exact ⟨_, rfl, HN.out.below HB6.out.B, HB6.out.B⟩
  have hE : s.wantE (k : Int) m = 0 := hE0.trans (if_neg hm)
  have hS : s.want (k : Int) m = s.put k { s.h k with fro := (s.h k).froTo (s.now + (s.h k).graft) (m + 1), level := m } := (if_pos hE).trans (by rw [Int.toNat_natCast])
  rw [hE, hS]
  have d1 : decide (m < (-1 : Int)) = false := decide_eq_false (by omega)
  have d2 : decide ((7 : Int) < m) = false := decide_eq_false (by omega)
  have ht2 := ht
  have hgk := hgr k hk
  have HBND : Hid (wrap64 (s.now + (s.h k).graft) = s.now + (s.h k).graft) := Lib.hid (by unfold wrap64; omega)
  clear ha hE hS hm hE0 hnw hgr hgk
  obtain ⟨b, c, FA, fl, fc, QA, ql, qc, rfl, hc, hblt, hx, hrow⟩ := h.host hk
  have HN := Lib.hid h
  have H16 := Lib.hid hn
  have HK := Lib.hid hk
  have HX := Lib.hid hx
  have HR := Lib.hid (And.intro hblt hrow)
  obtain ⟨x, hxx⟩ : ∃ x, x = s.h k := ⟨_, rfl⟩
  have HXX := Lib.hid hxx
  rw [← hxx] at HX HR
  obtain ⟨n, hnn⟩ : ∃ n, n = s.n := ⟨_, rfl⟩
  obtain ⟨now, hnow⟩ : ∃ z, z = s.now := ⟨_, rfl⟩
  have HNN := Lib.hid (And.intro hnn hnow)
  rw [← hnn, ← hnow] at HN ⊢
  rw [← hnn] at hc
  have hkn : k < n := by rw [hnn]; exact hk
  obtain ⟨i0, i1⟩ : (0 : Int) ≤ (k : Int) ∧ (k : Int) < (n : Int) := by omega
  have e0 : decide ((0 : Int) ≤ (k : Int)) = true := decide_eq_true i0
  have e1 : decide ((k : Int) < (n : Int)) = true := decide_eq_true i1
  have HB0 := Lib.hid (Bs.start w)
  clear h hn hk hx hrow hblt hxx hnn hnow
  rw [← HXX.out, ← HNN.out.2] at HBND
  obtain ⟨fb, rfl, rfl, hfc, hfb, hfr⟩ := HX.out.1.at
  have HF := Lib.hid (And.intro hfc (And.intro hfb hfr))
  clear hfc hfb hfr
  have hth0 : x.there = true := by rw [HXX.out]; exact ht2
  have HY := Lib.hid (show ({ x with there := true, fro := x.froTo (now + x.graft) (m + 1), level := m } : Ho) = { x with fro := x.froTo (now + x.graft) (m + 1), level := m } by rw [← hth0])
  clear hth0
  have hth : x.there = true := by rw [HXX.out]; exact ht2
  clear ht ht2
  go_enter Tryd.func38, Tryd.ntmps38
  go_upto_region 3 with (first
    | ((with_reducible refine gate_dst (N := 3) rfl ?_); refine wp_bx HB0.out (t := 40) (cs := [.int .i64 now, .slice (some ⟨b, 0, none⟩) n c]) rfl (.tmp 0) rfl rfl ?_; intro g2 w1 hb HB1; clear hb HB0)
    | ((with_reducible refine gate_dst (N := 6) rfl ?_); refine wp_al HB1.out (t := 40) rfl rfl al_T ?_; intro g4 w2 hb HB2; clear hb HB1)
    | ((with_reducible refine gate_dst (N := 11) rfl ?_); refine wp_ld HB2.out 1 rfl rfl (.tmp 3) rfl rfl Tryd.underlying40 (by kernel_rfl) ?_)
    | (go_at_call 46; refine (is_calls (HN.out.below HB2.out.B) H16.out k).mono ?_; rintro e w3 ⟨rfl, hb⟩; rw [HIs.out]; have HB3 := Lib.hid (HB2.out.below hb); clear hb HB2))
  have a1 : w3.cell? ⟨g2, 1, none⟩ = some (.slice (some ⟨b, 0, none⟩) n c) := (HB3.out.get 1 rfl).cell 1
  have r0 : w3.cell? ⟨b, k * 7, none⟩ = some (.bool true) := (by rw [← hth]; exact (HB3.out.B.cell (p := ⟨b, _, none⟩) HR.out.1).trans (HR.out.2 0 (by omega)))
  have r1 : w3.cell? ⟨b, k * 7 + 1, none⟩ = some (.int .i64 x.level) := (HB3.out.B.cell (p := ⟨b, _, none⟩) HR.out.1).trans (HR.out.2 1 (by omega))
  have r2 : w3.cell? ⟨b, k * 7 + 2, none⟩ = some (.slice (some ⟨fb, 0, none⟩) 8 fc) := (HB3.out.B.cell (p := ⟨b, _, none⟩) HR.out.1).trans (HR.out.2 2 (by omega))
  have r3 : w3.cell? ⟨b, k * 7 + 3, none⟩ = some (.int .i64 x.graft) := (HB3.out.B.cell (p := ⟨b, _, none⟩) HR.out.1).trans (HR.out.2 3 (by omega))
  have r4 : w3.cell? ⟨b, k * 7 + 4, none⟩ = some (.int .i64 x.cap) := (HB3.out.B.cell (p := ⟨b, _, none⟩) HR.out.1).trans (HR.out.2 4 (by omega))
  have r5 : w3.cell? ⟨b, k * 7 + 5, none⟩ = some (.int .i64 x.got) := (HB3.out.B.cell (p := ⟨b, _, none⟩) HR.out.1).trans (HR.out.2 5 (by omega))
  have r6 : w3.cell? ⟨b, k * 7 + 6, none⟩ = some (.slice QA ql qc) := (HB3.out.B.cell (p := ⟨b, _, none⟩) HR.out.1).trans (HR.out.2 6 (by omega))
  clear hth
  go_upto_region 4 with (first
    | ((with_reducible refine gate_dst (N := 8) rfl ?_); refine wp_al HB3.out (t := 89) rfl rfl al_H ?_; intro g8 w4 hb HB4; clear hb HB3)
    | ((with_reducible refine gate_store (t := 89) (p := 8) rfl ?_); refine wp_st HB4.out 0 rfl (q := 0) (seg := [.bool true, .int .i64 x.level, .slice (some ⟨fb, 0, none⟩) 8 fc, .int .i64 x.graft, .int .i64 x.cap, .int .i64 x.got, .slice QA ql qc]) rfl rfl rfl rfl rfl (by kernel_rfl) (Nat.le_refl _) (o_cons rfl (o_cons rfl (o_cons rfl (o_cons rfl (o_cons rfl (o_cons rfl (o_cons rfl o_nil))))))) ?_; intro w5 hq hf; have HB5 : Hid (Bs w w5 [(g8, 89, [.bool true, .int .i64 x.level, .slice (some ⟨fb, 0, none⟩) 8 fc, .int .i64 x.graft, .int .i64 x.cap, .int .i64 x.got, .slice QA ql qc]), (g4, 40, [.int .i64 0, .slice none 0 0]), (g2, 40, [.int .i64 now, .slice (some ⟨b, 0, none⟩) n c])]) := hq; clear hq hf HB4))
  clear a1 r0 r1 r2 r3 r4 r5 r6
  have y0 : w5.cell? ⟨g8, 0, none⟩ = some (.bool true) := (HB5.out.get 0 rfl).cell 0
  go_upto_region 8 with (fail)
  clear y0
  go_upto_region 9 with (fail)
  obtain ⟨iI, hiI, hI0, hI1, hI2⟩ := info_parts infoN
  have HO0 : Hid (Bs w (w5.alloc (.cells #[] 3)) [(g8, 89, [.bool true, .int .i64 x.level, .slice (some ⟨fb, 0, none⟩) 8 fc, .int .i64 x.graft, .int .i64 x.cap, .int .i64 x.got, .slice QA ql qc]), (g4, 40, [.int .i64 0, .slice none 0 0]), (g2, 40, [.int .i64 now, .slice (some ⟨b, 0, none⟩) n c])] ∧ (w5.alloc (.cells #[] 3)).ownsRow w.heap.size 3 1 (.slice (some ⟨w5.heap.size, 0, none⟩) 0 0) 0 (froC x (now + x.graft) (m + 1) 0)) := Lib.hid ⟨HB5.out.below (below_alloc (Below.refl _ _) _), own_empty HB5.out.B.size⟩
  clear HB5
  go_wp2
  go_loopg [9, 10] 9 (fun kq v9 v10 wr => ∃ j : Nat, v10 = .int .i64 j ∧ Hid (j ≤ 8 ∧ kq = 9 - j) ∧ Hid (Bs w wr [(g8, 89, [.bool true, .int .i64 x.level, .slice (some ⟨fb, 0, none⟩) 8 fc, .int .i64 x.graft, .int .i64 x.cap, .int .i64 x.got, .slice QA ql qc]), (g4, 40, [.int .i64 0, .slice none 0 0]), (g2, 40, [.int .i64 now, .slice (some ⟨b, 0, none⟩) n c])] ∧ wr.ownsRow w.heap.size 3 1 v9 j (froC x (now + x.graft) (m + 1) j)))
  case atStart => exact ⟨0, rfl, Lib.hid ⟨by omega, by omega⟩, HO0⟩
  case round =>
    obtain ⟨j, rfl, HKJ, HO⟩ := hrel
    clear HO0 d1 d2
    have HBr := Lib.hid HO.out.1
    by_cases hj : j < 8
    · have j0 : decide ((j : Int) < (8 : Int)) = true := decide_eq_true (by omega)
      have HJ := Lib.hid hj
      have hc3 : (x.level < (j : Int) ∧ (j : Int) ≤ m) ∨ ¬ x.level < (j : Int) ∨ (x.level < (j : Int) ∧ ¬ (j : Int) ≤ m) := by omega
      rcases hc3 with ⟨h1, h2⟩ | h1 | ⟨h1, h2⟩
      · skip
        have f1 : decide (x.level < (j : Int)) = true := decide_eq_true h1
        have f2 : decide ((j : Int) ≤ m) = true := decide_eq_true h2
        have HFV : Hid (x.froTo (now + x.graft) (m + 1) j = now + x.graft) := Lib.hid (if_pos ⟨h1, by omega⟩)
        clear h1 h2
        have y1 : wr.cell? ⟨g8, 1, none⟩ = some (.int .i64 x.level) := (HBr.out.get 0 rfl).cell 1
        go_upto_region 13 with (fail)
        clear y1 f1 f2
        have y3 : wr.cell? ⟨g8, 3, none⟩ = some (.int .i64 x.graft) := (HBr.out.get 0 rfl).cell 3
        have a0 : wr.cell? ⟨g2, 0, none⟩ = some (.int .i64 now) := (HBr.out.get 2 rfl).cell 0
        have hw := HBND.out
        go_wp2_with (first
          | (at_builtin; refine wpList_append_own _ rfl (.tmp 46) (.tmp 52) 86 rfl w.heap.size 3 iI (.int .i64 0) 1 8 Tryd.underlying86 hiI hI0 hI1 hI2 rfl (by decide) _ _ _ rfl (own_below HO.out.2 ?c1) ⟨_, 0, none⟩ 1 1 [.int .i64 (now + x.graft)] rfl rfl (cells_new _ _ _ _ (by simp)) ?c2 ?c3 ?c4 ?c5 ?_))
        case c1 => exact (Below.refl _ _).alloc (Nat.le_refl _) _
        case c2 => intro u hu; simp only [List.mem_cons, List.not_mem_nil, or_false] at hu; subst hu; rfl
        case c3 => have := HJ.out; simp only [maxLen]; omega
        case c4 => have := HJ.out; omega
        case c5 => have := HBr.out.B.size; simp; omega
        intro v' w5 hown hgr hnil
        have HA5 : Hid (Bs w w5 [(g8, 89, [.bool true, .int .i64 x.level, .slice (some ⟨fb, 0, none⟩) 8 fc, .int .i64 x.graft, .int .i64 x.cap, .int .i64 x.got, .slice QA ql qc]), (g4, 40, [.int .i64 0, .slice none 0 0]), (g2, 40, [.int .i64 now, .slice (some ⟨b, 0, none⟩) n c])] ∧ w5.ownsRow w.heap.size 3 1 v' (j + 1) (froC x (now + x.graft) (m + 1) (j + 1))) := Lib.hid ⟨(HBr.out.below ((Below.refl _ _).alloc (Nat.le_refl _) _)).grown hgr (fun rr hr => own_at (own_below HO.out.2 ((Below.refl _ _).alloc (Nat.le_refl _) _)) hr) (by intro b hb; simp only [List.mem_cons, List.not_mem_nil, or_false] at hb; rcases hb with rfl | rfl | rfl <;> (dsimp only; decide)), by rw [froC_snoc, HFV.out]; exact hown⟩
        clear hw y3 a0 HO hown hgr hnil HBr
        go_wp2
        go_roundg (8 - j)
        case measure => have := HKJ.out; have := HJ.out; omega
        case rel => exact ⟨j + 1, by go_num, Lib.hid ⟨by have := HJ.out; omega, by omega⟩, HA5⟩
      · skip
        have f1 : decide (x.level < (j : Int)) = false := decide_eq_false h1
        have HFV : Hid (x.froTo (now + x.graft) (m + 1) j = x.fro j) := Lib.hid (if_neg (by omega))
        clear h1
        have y1 : wr.cell? ⟨g8, 1, none⟩ = some (.int .i64 x.level) := (HBr.out.get 0 rfl).cell 1
        go_upto_region 14 with (fail)
        clear y1 f1
        have y2 : wr.cell? ⟨g8, 2, none⟩ = some (.slice (some ⟨fb, 0, none⟩) 8 fc) := (HBr.out.get 0 rfl).cell 2
        have q0 : wr.cell? ⟨fb, j, none⟩ = some (.int .i64 (x.fro j)) := (HBr.out.B.cell (p := ⟨fb, _, none⟩) HF.out.2.1).trans (HF.out.2.2 j HJ.out)
        have k0 : decide ((0 : Int) ≤ (j : Int)) = true := decide_eq_true (by omega)
        go_wp2_with (first
          | (at_builtin; refine wpList_append_own _ rfl (.tmp 54) (.tmp 60) 86 rfl w.heap.size 3 iI (.int .i64 0) 1 8 Tryd.underlying86 hiI hI0 hI1 hI2 rfl (by decide) _ _ _ rfl (own_below HO.out.2 ?c1) ⟨_, 0, none⟩ 1 1 [.int .i64 (x.fro j)] rfl rfl (cells_new _ _ _ _ (by simp)) ?c2 ?c3 ?c4 ?c5 ?_))
        case c1 => exact (Below.refl _ _).alloc (Nat.le_refl _) _
        case c2 => intro u hu; simp only [List.mem_cons, List.not_mem_nil, or_false] at hu; subst hu; rfl
        case c3 => have := HJ.out; simp only [maxLen]; omega
        case c4 => have := HJ.out; omega
        case c5 => have := HBr.out.B.size; simp; omega
        intro v' w5 hown hgr hnil
        have HA5 : Hid (Bs w w5 [(g8, 89, [.bool true, .int .i64 x.level, .slice (some ⟨fb, 0, none⟩) 8 fc, .int .i64 x.graft, .int .i64 x.cap, .int .i64 x.got, .slice QA ql qc]), (g4, 40, [.int .i64 0, .slice none 0 0]), (g2, 40, [.int .i64 now, .slice (some ⟨b, 0, none⟩) n c])] ∧ w5.ownsRow w.heap.size 3 1 v' (j + 1) (froC x (now + x.graft) (m + 1) (j + 1))) := Lib.hid ⟨(HBr.out.below ((Below.refl _ _).alloc (Nat.le_refl _) _)).grown hgr (fun rr hr => own_at (own_below HO.out.2 ((Below.refl _ _).alloc (Nat.le_refl _) _)) hr) (by intro b hb; simp only [List.mem_cons, List.not_mem_nil, or_false] at hb; rcases hb with rfl | rfl | rfl <;> (dsimp only; decide)), by rw [froC_snoc, HFV.out]; exact hown⟩
        clear q0 y2 HO hown hgr hnil HBr
        go_wp2
        go_roundg (8 - j)
        case measure => have := HKJ.out; have := HJ.out; omega
        case rel => exact ⟨j + 1, by go_num, Lib.hid ⟨by have := HJ.out; omega, by omega⟩, HA5⟩
      · skip
        have f1 : decide (x.level < (j : Int)) = true := decide_eq_true h1
        have f2 : decide ((j : Int) ≤ m) = false := decide_eq_false h2
        have HFV : Hid (x.froTo (now + x.graft) (m + 1) j = x.fro j) := Lib.hid (if_neg (by omega))
        clear h1 h2
        have y1 : wr.cell? ⟨g8, 1, none⟩ = some (.int .i64 x.level) := (HBr.out.get 0 rfl).cell 1
        go_upto_region 14 with (fail)
        clear y1 f1 f2
        have y2 : wr.cell? ⟨g8, 2, none⟩ = some (.slice (some ⟨fb, 0, none⟩) 8 fc) := (HBr.out.get 0 rfl).cell 2
        have q0 : wr.cell? ⟨fb, j, none⟩ = some (.int .i64 (x.fro j)) := (HBr.out.B.cell (p := ⟨fb, _, none⟩) HF.out.2.1).trans (HF.out.2.2 j HJ.out)
        have k0 : decide ((0 : Int) ≤ (j : Int)) = true := decide_eq_true (by omega)
        go_wp2_with (first
          | (at_builtin; refine wpList_append_own _ rfl (.tmp 54) (.tmp 60) 86 rfl w.heap.size 3 iI (.int .i64 0) 1 8 Tryd.underlying86 hiI hI0 hI1 hI2 rfl (by decide) _ _ _ rfl (own_below HO.out.2 ?c1) ⟨_, 0, none⟩ 1 1 [.int .i64 (x.fro j)] rfl rfl (cells_new _ _ _ _ (by simp)) ?c2 ?c3 ?c4 ?c5 ?_))
        case c1 => exact (Below.refl _ _).alloc (Nat.le_refl _) _
        case c2 => intro u hu; simp only [List.mem_cons, List.not_mem_nil, or_false] at hu; subst hu; rfl
        case c3 => have := HJ.out; simp only [maxLen]; omega
        case c4 => have := HJ.out; omega
        case c5 => have := HBr.out.B.size; simp; omega
        intro v' w5 hown hgr hnil
        have HA5 : Hid (Bs w w5 [(g8, 89, [.bool true, .int .i64 x.level, .slice (some ⟨fb, 0, none⟩) 8 fc, .int .i64 x.graft, .int .i64 x.cap, .int .i64 x.got, .slice QA ql qc]), (g4, 40, [.int .i64 0, .slice none 0 0]), (g2, 40, [.int .i64 now, .slice (some ⟨b, 0, none⟩) n c])] ∧ w5.ownsRow w.heap.size 3 1 v' (j + 1) (froC x (now + x.graft) (m + 1) (j + 1))) := Lib.hid ⟨(HBr.out.below ((Below.refl _ _).alloc (Nat.le_refl _) _)).grown hgr (fun rr hr => own_at (own_below HO.out.2 ((Below.refl _ _).alloc (Nat.le_refl _) _)) hr) (by intro b hb; simp only [List.mem_cons, List.not_mem_nil, or_false] at hb; rcases hb with rfl | rfl | rfl <;> (dsimp only; decide)), by rw [froC_snoc, HFV.out]; exact hown⟩
        clear q0 y2 HO hown hgr hnil HBr
        go_wp2
        go_roundg (8 - j)
        case measure => have := HKJ.out; have := HJ.out; omega
        case rel => exact ⟨j + 1, by go_num, Lib.hid ⟨by have := HJ.out; omega, by omega⟩, HA5⟩
    · skip
      have j8 : j = 8 := by have := HKJ.out; omega
      subst j8
      clear hj
      obtain ⟨b9, c9, e9, hf9⟩ := FRef.of_own HO.out.2
      subst e9
      have HF9 := Lib.hid hf9
      clear hf9 HO
      have y2 : wr.cell? ⟨g8, 2, none⟩ = some (.slice (some ⟨fb, 0, none⟩) 8 fc) := (HBr.out.get 0 rfl).cell 2
      have f2 : wr.frozen? ⟨g8, 2, none⟩ = false := (HBr.out.get 0 rfl).frozen 2
      go_upto_region 16 with (fail)
      have HF10 := Lib.hid (HF9.out.setH (j := 2) (u := .slice (some ⟨b9, 0, none⟩) 8 c9) (HBr.out.get 0 rfl))
      have HB21 : Hid (Bs w (wr.setCell ⟨g8, 2, none⟩ (.slice (some ⟨b9, 0, none⟩) 8 c9)) [(g8, 89, [.bool true, .int .i64 x.level, .slice (some ⟨b9, 0, none⟩) 8 c9, .int .i64 x.graft, .int .i64 x.cap, .int .i64 x.got, .slice QA ql qc]), (g4, 40, [.int .i64 0, .slice none 0 0]), (g2, 40, [.int .i64 now, .slice (some ⟨b, 0, none⟩) n c])]) := Lib.hid (HBr.out.set 0 rfl 2 (.slice (some ⟨b9, 0, none⟩) 8 c9))
      generalize wr.setCell ⟨g8, 2, none⟩ (.slice (some ⟨b9, 0, none⟩) 8 c9) = w21 at HF10 HB21 ⊢
      clear HBr
      clear y2 f2
      have y1 : w21.cell? ⟨g8, 1, none⟩ = some (.int .i64 x.level) := (HB21.out.get 0 rfl).cell 1
      have f1 : w21.frozen? ⟨g8, 1, none⟩ = false := (HB21.out.get 0 rfl).frozen 1
      go_upto_region 17 with (fail)
      have HF11 := Lib.hid (HF10.out.setH (j := 1) (u := .int .i64 m) (HB21.out.get 0 rfl))
      have HB22 : Hid (Bs w (w21.setCell ⟨g8, 1, none⟩ (.int .i64 m)) [(g8, 89, [.bool true, .int .i64 m, .slice (some ⟨b9, 0, none⟩) 8 c9, .int .i64 x.graft, .int .i64 x.cap, .int .i64 x.got, .slice QA ql qc]), (g4, 40, [.int .i64 0, .slice none 0 0]), (g2, 40, [.int .i64 now, .slice (some ⟨b, 0, none⟩) n c])]) := Lib.hid (HB21.out.set 0 rfl 1 (.int .i64 m))
      generalize w21.setCell ⟨g8, 1, none⟩ (.int .i64 m) = w22 at HF11 HB22 ⊢
      clear HB21
      clear y1 f1
      have y0 : w22.cell? ⟨g8, 0, none⟩ = some (.bool true) := (HB22.out.get 0 rfl).cell 0
      have y1 : w22.cell? ⟨g8, 1, none⟩ = some (.int .i64 m) := (HB22.out.get 0 rfl).cell 1
      have y2 : w22.cell? ⟨g8, 2, none⟩ = some (.slice (some ⟨b9, 0, none⟩) 8 c9) := (HB22.out.get 0 rfl).cell 2
      have y3 : w22.cell? ⟨g8, 3, none⟩ = some (.int .i64 x.graft) := (HB22.out.get 0 rfl).cell 3
      have y4 : w22.cell? ⟨g8, 4, none⟩ = some (.int .i64 x.cap) := (HB22.out.get 0 rfl).cell 4
      have y5 : w22.cell? ⟨g8, 5, none⟩ = some (.int .i64 x.got) := (HB22.out.get 0 rfl).cell 5
      have y6 : w22.cell? ⟨g8, 6, none⟩ = some (.slice QA ql qc) := (HB22.out.get 0 rfl).cell 6
      go_wp2_with (first
        | ((with_reducible refine gate_dst (N := 66) rfl ?_); refine wp_ld HB22.out 2 rfl rfl (.tmp 3) rfl rfl Tryd.underlying40 (by kernel_rfl) ?_)
        | (go_at_call 54; refine (with_calls (HN.out.below HB22.out.B) H16.out k HK.out ({ x with there := true, fro := x.froTo (now + x.graft) (m + 1), level := m }) (.slice (some ⟨b9, 0, none⟩) 8 c9) (.slice QA ql qc) (⟨HF11.out, (HX.out.below HB22.out.B).2⟩)).mono ?_; rintro e w23 ⟨v', rfl, hv, hb⟩; obtain ⟨b5, c5, rfl, hc5, _⟩ := hv.parts; have HV := Lib.hid hv; have HB23 := Lib.hid (HB22.out.below hb); clear hv hb hc5 HB22)
        | ((with_reducible refine gate_store (t := 40) (p := 6) rfl ?_); refine wp_st HB23.out 1 rfl (q := 0) (seg := [.int .i64 _, .slice (some ⟨b5, 0, none⟩) _ c5]) rfl rfl rfl rfl rfl (by kernel_rfl) (Nat.le_refl _) (o_cons rfl (o_cons rfl o_nil)) ?_; intro w24 hq hf; have HB24 : Hid (Bs w w24 [(g8, 89, [.bool true, .int .i64 m, .slice (some ⟨b9, 0, none⟩) 8 c9, .int .i64 x.graft, .int .i64 x.cap, .int .i64 x.got, .slice QA ql qc]), (g4, 40, [.int .i64 _, .slice (some ⟨b5, 0, none⟩) _ c5]), (g2, 40, [.int .i64 now, .slice (some ⟨b, 0, none⟩) n c])]) := hq; have HV2 := Lib.hid (HV.out.st hf.out); clear hq hf HB23))
      (try simp only [Exit.inBlock, Exit.then])
      refine bodyPost_ret (results_ct rfl _ _ g4 _ _ _ _ rfl (HB24.out.get 1 rfl) Tryd.underlying40 rfl (show (Tryd.prog.info? 40).map (·.size) = some 2 by kernel_rfl)) rfl ?_
      exact ⟨_, rfl, by rw [← HXX.out, ← HY.out]; exact HV2.out, HB24.out.B⟩
end
section
open Go.RowKit Go.Deep Go.Proofs.YtpfpdbbgiimnmaaDoor.Er Go.Proofs.YtpfpdbbgiimnmaaDoor.Mod Go.Proofs.YtpfpdbbgiimnmaaDoorW.PrintWords Go.Proofs.YtpfpdbbgiimnmaaDoorW.PrintLast
theorem infoIR : (Tryd.prog.info? 116).map (fun i => (i.zero, i.size, i.bytes)) = some (some (.agg #[.string ⟨#[]⟩, .int .i64 0, .bool false]), 3, 32) := by kernel_rfl
def itsC (q : List It) : List Value := q.flatMap itR
theorem itsC_len (q : List It) : (itsC q).length = q.length * 3 := by
  induction q with
  | nil => rfl
  | cons x q ih => show (itR x ++ itsC q).length = _; rw [List.length_append, ih]; simp [itR]; omega
theorem itsC_app (q q' : List It) : itsC (q ++ q') = itsC q ++ itsC q' := by simp [itsC]
theorem itsC_at : ∀ (q : List It) (i : Nat) (x : It) (j : Nat), q[i]? = some x → j < 3 → (itsC q)[i * 3 + j]? = (itR x)[j]?
  | [], i, x, j, h, _ => by simp at h
  | y :: q, 0, x, j, h, hj => by
    obtain rfl : y = x := by simpa using h
    show (itR y ++ itsC q)[0 * 3 + j]? = _
    rw [Nat.zero_mul, Nat.zero_add, List.getElem?_append_left (by simpa [itR] using hj)]
  | y :: q, i + 1, x, j, h, hj => by
    show (itR y ++ itsC q)[(i + 1) * 3 + j]? = _
    rw [List.getElem?_append_right (by simp [itR]; omega), show (i + 1) * 3 + j - (itR y).length = i * 3 + j by simp [itR]; omega]
    exact itsC_at q i x j (by simpa using h) hj
theorem itsC_one (q : List It) : ∀ u ∈ itsC q, u.oneCell' = true := by
  intro u hu
  obtain ⟨x, _, hu⟩ := List.mem_flatMap.1 hu
  simp only [itR, List.mem_cons, List.not_mem_nil, or_false] at hu
  rcases hu with rfl | rfl | rfl <;> rfl
theorem itsC_take (q : List It) (i : Nat) : (itsC q).take (i * 3) = itsC (q.take i) := by
  by_cases h : i ≤ q.length
  · conv => lhs; rw [← List.take_append_drop i q, itsC_app]
    have : (itsC (q.take i)).length = i * 3 := by rw [itsC_len, List.length_take]; omega
    rw [← this, List.take_left]
  · rw [List.take_of_length_le (by rw [itsC_len]; omega), List.take_of_length_le (by omega)]
theorem itsC_drop (q : List It) (i : Nat) : (itsC q).drop (i * 3) = itsC (q.drop i) := by
  by_cases h : i ≤ q.length
  · conv => lhs; rw [← List.take_append_drop i q, itsC_app]
    have : (itsC (q.take i)).length = i * 3 := by rw [itsC_len, List.length_take]; omega
    rw [← this, List.drop_left]
  · rw [List.drop_eq_nil_of_le (by rw [itsC_len]; omega), List.drop_eq_nil_of_le (by omega)]; rfl
/-- A row of items as it may be read. -/
def QRd (w : World) (v : Value) (q : List It) : Prop := ∃ A c, v = .slice A q.length c ∧ q.length ≤ c ∧ (q ≠ [] → ∃ b o, A = some ⟨b, o, none⟩ ∧ b < w.heap.size ∧ ∀ j u, (itsC q)[j]? = some u → w.cell? ⟨b, o + j, none⟩ = some u)
theorem QRef.rd {w : World} {v : Value} {q : List It} (h : QRef w v q) : QRd w v q := by
  obtain ⟨A, c, e, h1, h2⟩ := h
  refine ⟨A, c, e, h1, fun hne => ?_⟩
  obtain ⟨b, cur, e2, h3, h4⟩ := h2 hne
  refine ⟨b, 0, e2, lt_of h3, fun j u hj => ?_⟩
  have hjl : j < q.length * 3 := by rw [← itsC_len]; exact (List.getElem?_eq_some_iff.1 hj).1
  have hx : q[j / 3]? = some (q[j / 3]'(by omega)) := List.getElem?_eq_getElem _
  have e1 := itsC_at q (j / 3) _ (j % 3) hx (by omega)
  have e3 := h4 (j / 3) _ (j % 3) hx (by omega)
  rw [show j / 3 * 3 + j % 3 = j by omega] at e1 e3
  rw [Nat.zero_add]
  have : cur[j]? = some u := by rw [e3, ← e1, hj]
  simpa [World.cell?, h3] using this
theorem QRd.below {w w' : World} {v : Value} {q : List It} (h : QRd w v q) (hb : Below w.heap.size w w') : QRd w' v q := by
  obtain ⟨A, c, e, h1, h2⟩ := h
  refine ⟨A, c, e, h1, fun hne => ?_⟩
  obtain ⟨b, o, e2, h3, h4⟩ := h2 hne
  exact ⟨b, o, e2, Nat.lt_of_lt_of_le h3 hb.size, fun j u hj => (hb.cell (p := ⟨b, _, none⟩) h3).trans (h4 j u hj)⟩
theorem QRd.take {w : World} {A : Option Addr} {L c : Nat} {q : List It} (h : QRd w (.slice A L c) q) (i : Nat) (hi : i ≤ q.length) : QRd w (.slice A i c) (q.take i) := by
  obtain ⟨A', c', e, h1, h2⟩ := h
  cases e
  have hl : (q.take i).length = i := by rw [List.length_take]; omega
  refine ⟨A, c, by rw [hl], by rw [hl]; omega, fun hne => ?_⟩
  obtain ⟨b, o, e2, h3, h4⟩ := h2 (by rintro rfl; exact hne List.take_nil)
  refine ⟨b, o, e2, h3, fun j u hj => h4 j u ?_⟩
  rw [← itsC_take] at hj
  rw [List.getElem?_take] at hj
  split at hj
  · exact hj
  · cases hj
theorem QRd.drop {w : World} {b o L c : Nat} {q : List It} (h : QRd w (.slice (some ⟨b, o, none⟩) L c) q) (i : Nat) (hi : i ≤ q.length) : QRd w (.slice (some ⟨b, o + i * 3, none⟩) (L - i) (c - i)) (q.drop i) := by
  obtain ⟨A', c', e, h1, h2⟩ := h
  cases e
  refine ⟨_, _, by rw [List.length_drop], by rw [List.length_drop]; omega, fun hne => ?_⟩
  obtain ⟨b', o', e2, h3, h4⟩ := h2 (by rintro rfl; exact hne List.drop_nil)
  cases e2
  refine ⟨b, o + i * 3, rfl, h3, fun j u hj => ?_⟩
  rw [← itsC_drop, List.getElem?_drop] at hj
  rw [Nat.add_assoc]
  exact h4 _ u hj
/-- A row of items of one's own. -/
def QOwn (B : Nat) (w : World) (v : Value) (q : List It) : Prop := w.ownsRow B 116 3 v q.length (itsC q)
theorem QOwn.ref {B : Nat} {w : World} {v : Value} {q : List It} (h : QOwn B w v q) : QRef w v q := by
  obtain ⟨hl, hv⟩ := h
  rcases hv with ⟨rfl, e⟩ | ⟨b, cap, cur, rfl, hb, hc, h1, h2, h3, h4⟩
  · exact ⟨none, 0, by rw [e], by omega, fun hne => absurd (List.length_eq_zero_iff.1 e) hne⟩
  · refine ⟨_, cap, rfl, h1, fun _ => ⟨b, cur, rfl, hc, fun i x j hx hj => ?_⟩⟩
    have hi : i < q.length := (List.getElem?_eq_some_iff.1 hx).1
    have e := itsC_at q i x j hx hj
    rw [← h4, List.getElem?_take, if_pos (by omega)] at e
    rw [← e]; simp
theorem QOwn.below {B : Nat} {w w' : World} {v : Value} {q : List It} (h : QOwn B w v q) (hb : Below w.heap.size w w') : QOwn B w' v q := own_below h hb
theorem QOwn.form {B : Nat} {w : World} {v : Value} {q : List It} (h : QOwn B w v q) : ∃ A c, v = .slice A q.length c ∧ q.length ≤ c := h.ref.form
theorem QOwn.empty {B : Nat} {w : World} (hB : B ≤ w.heap.size) : QOwn B (w.alloc (.cells #[] 116)) (.slice (some ⟨w.heap.size, 0, none⟩) 0 0) [] := own_empty hB
/-- append(q, q2...). -/
theorem QOwn.app {B : Nat} {w : World} {v u : Value} {q q2 : List It} (h : QOwn B w v q) (k : QRd w u q2) (hl : q.length + q2.length ≤ 1000000000000) (hB : B ≤ w.heap.size) (ty : TypeId) : ∃ v' w', (Builtin.append_ #[87, 87] ty #[v, u]).run Tryd.prog w = .ok v' w' ∧ QOwn B w' v' (q ++ q2) ∧ w.grownBy w' v.ownBlock := by
  obtain ⟨i, hi, hz0, hz1, hz2⟩ := info_parts infoIR
  obtain ⟨A2, c2, rfl, h1, h2⟩ := k
  by_cases hne : q2 = []
  · subst hne
    obtain ⟨A, c, rfl, hc⟩ := h.form
    refine ⟨.slice A q.length c, w, ?_, by rw [List.append_nil]; exact h, ⟨rfl, rfl, rfl, Nat.le_refl _, fun _ _ _ => rfl⟩⟩
    refine run_append_nothing (P := Tryd.prog) w _ _ ty 116 i Tryd.underlying87 hi A _ c hc _ ?_
    cases A2 with
    | none => exact Src.ofNil (P := Tryd.prog) w Tryd.underlying87 c2
    | some a => exact Src.ofSlice (P := Tryd.prog) w Tryd.underlying87 a 0 c2 [] (by simp) (by simp) (by simp)
  · obtain ⟨b, o, rfl, h3, h4⟩ := h2 hne
    obtain ⟨v', w', hr, ho, hg, _⟩ := run_append_own (P := Tryd.prog) w B 87 ty 116 i _ 3 32 Tryd.underlying87 hi hz0 hz1 hz2 rfl (by decide) v q.length (itsC q) h ⟨b, o, none⟩ q2.length c2 (itsC q2) (itsC_len q2) (fun j u hu => by
      have hadd : (⟨b, o, none⟩ : Addr).add j = ⟨b, o + j, none⟩ := by unfold Addr.add; split <;> simp_all
      rw [hadd]; exact h4 j u hu) (itsC_one q2) (by simp only [maxLen]; omega) (by omega) hB
    refine ⟨v', w', hr, ?_, hg⟩
    unfold QOwn
    rw [List.length_append, itsC_app]
    exact ho
theorem wp_qapp {ops : Array Oper} {rest : List Oper} {o : Oper} {a : Act} {Q : Exit → Act → World → Prop} {w : World} {B : Nat} {v u : Value} {q q2 : List It} (hgd : o.guard = none) (s x : Operand) (ho : o.op = .call { callee := .builtin .append, args := #[s, x], argTypes := #[87, 87] }) (hs : a.eval s = v) (hx : a.eval x = u) (h : QOwn B w v q) (k : QRd w u q2) (hl : q.length + q2.length ≤ 1000000000000) (hB : B ≤ w.heap.size)
    (hk : ∀ (A : Option Addr) (L c : Nat) (w' : World), Hid (QOwn B w' (.slice A L c) (q ++ q2)) → Hid (w.grownBy w' v.ownBlock) → wpList Tryd.prog ops Q rest (a.put o.dst (.slice A L c)) w') : wpList Tryd.prog ops Q (o :: rest) a w := by
  obtain ⟨v', w', hr, h1, h2⟩ := h.app k hl hB o.type
  obtain ⟨A', c', rfl, _⟩ := h1.form
  refine wpList_plain hgd fun K hK => ?_
  unfold Oper.wp
  rw [run_app ho hs hx hr]
  exact hK _ _ (hk _ _ _ w' (Lib.hid h1) (Lib.hid h2))
theorem QRd.one {w : World} {b : Nat} {x : It} (hb : b < w.heap.size) (h : ∀ j u, (itR x)[j]? = some u → w.cell? ⟨b, 0 + j, none⟩ = some u) : QRd w (.slice (some ⟨b, 0, none⟩) 1 1) [x] := ⟨_, _, rfl, Nat.le_refl _, fun _ => ⟨b, 0, rfl, hb, fun j u hj => h j u (by simpa [itsC] using hj)⟩⟩
theorem QRd.lit {w : World} {x : It} : QRd (w.alloc (.cells (itR x).toArray 116)) (.slice (some ⟨w.heap.size, 0, none⟩) 1 1) [x] := QRd.one (by simp) (fun j u hu => by
  have := cells_new w (itR x) 116 w.heap.size rfl j u hu
  have hadd : (⟨w.heap.size, 0, none⟩ : Addr).add j = ⟨w.heap.size, 0 + j, none⟩ := by unfold Addr.add; split <;> simp_all
  rw [hadd] at this; exact this)
theorem own_block {B : Nat} {w : World} {v : Value} {q : List It} (h : QOwn B w v q) : ∀ r, v.ownBlock = some r → B ≤ r ∧ ∃ cur, w.heap[r]? = some (.cells cur 116 (0, 0)) := fun r hr => own_at h hr
end
section
open Go.RowKit Go.Deep Go.Proofs.YtpfpdbbgiimnmaaDoor.Er Go.Proofs.YtpfpdbbgiimnmaaDoor.Mod Go.Proofs.YtpfpdbbgiimnmaaDoorW.PrintWords Go.Proofs.YtpfpdbbgiimnmaaDoorW.PrintLast
theorem addr_none {w : World} {a : Addr} {v : Value} (h : w.cell? (a.add 0) = some v) : ∃ xb xo, a = ⟨xb, xo, none⟩ := by
  obtain ⟨xb, xo, sp⟩ := a
  have e : (⟨xb, xo, sp⟩ : Addr).add 0 = ⟨xb, xo, sp⟩ := rfl
  rw [e] at h
  unfold World.cell? at h
  cases sp
  · exact ⟨xb, xo, rfl⟩
  · simp at h; split at h <;> simp_all
theorem RdB.hd {D : Nat → Prop} {w : World} {A : Option Addr} {L c : Nat} {x : Int} {bs : List Int} (h : RdB D w (.slice A L c) (x :: bs)) : ∃ xb xo, A = some ⟨xb, xo, none⟩ ∧ w.cell? ⟨xb, xo, none⟩ = some (.int .u8 x) := by
  obtain ⟨A', c', e, _, _, _, h5⟩ := h
  cases e
  obtain ⟨a, rfl, _, hx⟩ := h5 (List.cons_ne_nil _ _)
  have h0 := hx 0 x rfl
  obtain ⟨xb, xo, rfl⟩ := addr_none h0
  exact ⟨xb, xo, rfl, h0⟩
theorem RdB.len {D : Nat → Prop} {w : World} {A : Option Addr} {L c : Nat} {b : List Int} (h : RdB D w (.slice A L c) b) : L = b.length ∧ b.length ≤ c ∧ b.length ≤ 140737488355328 := by
  obtain ⟨A', c', e, h1, h2, _, _⟩ := h
  cases e
  exact ⟨rfl, h1, h2⟩
set_option maxHeartbeats 8000000 in
set_option maxRecDepth 100000 in
theorem data_r {D : Nat → Prop} {w : World} {A : Option Addr} {L c : Nat} {b : List Int} (ly : Int) (hl : RdB D w (.slice A L c) b) : Calls Tryd.prog 68 #[.agg #[.int .i64 ly, .slice A L c]] w fun e w' => e = .returned (.bool (isData b)) ∧ Below w.heap.size w w' := by
  obtain ⟨hL, hc, h47⟩ := hl.len
  have HB0 := Lib.hid (Bs.start w)
  cases b with
  | nil =>
    obtain rfl : L = 0 := hL
    show Calls _ _ _ _ fun e w' => e = .returned (.bool false) ∧ Below w.heap.size w w'
    clear hl hc h47
    go_enter Tryd.func68, Tryd.ntmps68
    go_upto_region 1 with (first
      | ((with_reducible refine gate_dst (N := 1) rfl ?_); refine wp_bx HB0.out (t := 60) (cs := [.int .i64 ly, .slice A 0 c]) rfl (.tmp 0) rfl rfl ?_; intro g1 w1 hb HB1; clear hb HB0))
    have a1 : w1.cell? ⟨g1, 1, none⟩ = some (.slice A 0 c) := (HB1.out.get 0 rfl).cell 1
    go_wp2
    go_ret
    exact ⟨rfl, HB1.out.B⟩
  | cons y bs =>
    obtain ⟨xb, xo, rfl, h0⟩ := hl.hd
    have hlt := World.block_lt_of_cell? w _ h0
    have H0 := Lib.hid (And.intro h0 hlt)
    have d0 : 0 < L := by rw [hL]; simp
    have HE : Hid (isData (y :: bs) = (y == 1)) := Lib.hid rfl
    rw [HE.out]
    clear hl hL hc h47 h0 hlt HE
    go_enter Tryd.func68, Tryd.ntmps68
    go_upto_region 1 with (first
      | ((with_reducible refine gate_dst (N := 1) rfl ?_); refine wp_bx HB0.out (t := 60) (cs := [.int .i64 ly, .slice (some ⟨xb, xo, none⟩) L c]) rfl (.tmp 0) rfl rfl ?_; intro g1 w1 hb HB1; clear hb HB0))
    have a1 : w1.cell? ⟨g1, 1, none⟩ = some (.slice (some ⟨xb, xo, none⟩) L c) := (HB1.out.get 0 rfl).cell 1
    have q0 : w1.cell? ⟨xb, xo, none⟩ = some (.int .u8 y) := (HB1.out.B.cell (p := ⟨xb, _, none⟩) H0.out.2).trans H0.out.1
    go_wp2
    go_ret
    exact ⟨rfl, HB1.out.B⟩
theorem QRef.stH {W W1 : World} {v : Value} {q : List It} {g : Nat} {cs : List Value} (h : QRef W v q) (hf : Bk W g 89 cs ∧ ∀ i, i ≠ g → W1.heap[i]? = W.heap[i]?) : QRef W1 v q := by
  obtain ⟨A, c, e, h1, h2⟩ := h
  refine ⟨A, c, e, h1, fun hne => ?_⟩
  obtain ⟨b, cur, e2, h3, h4⟩ := h2 hne
  refine ⟨b, cur, e2, (hf.2 b (fun e => ?_)).trans h3, h4⟩
  subst e
  have := hf.1
  unfold Bk at this
  rw [h3] at this
  cases this
theorem QRef.setH {W : World} {v : Value} {q : List It} {g j : Nat} {u : Value} {cs : List Value} (h : QRef W v q) (hk : Bk W g 89 cs) : QRef (W.setCell ⟨g, j, none⟩ u) v q := h.stH ⟨hk, fun i hi => Below.heap_setCell W ⟨g, j, none⟩ u i hi⟩
theorem send1_no {x : Ho} {d : Dg} {now : Int} (h : x.gets d now = false) : x.send1 now d = x := by unfold Ho.send1; rw [h]; rfl
theorem hoR_arr (x : Ho) (fv qv : Value) : (hoR x fv qv).toArray = #[.bool x.there, .int .i64 x.level, fv, .int .i64 x.graft, .int .i64 x.cap, .int .i64 x.got, qv] := rfl
set_option maxHeartbeats 8000000 in
set_option maxRecDepth 100000 in
theorem gets_r {D : Nat → Prop} {w : World} {x : Ho} {FA QA A2 : Option Addr} {fl fc ql qc lb c2 : Nat} (hx : HRef w x (.slice FA fl fc) (.slice QA ql qc)) (layer : Int) (b : List Int) (hd : RdB D w (.slice A2 lb c2) b) (hD : ∀ k, D k → k < w.heap.size) (now : Int) (hlev : x.level < 8) (hgot : 0 ≤ x.got ∧ x.got < 5000000000000) (hq : x.q.length < 900000000000) : Calls Tryd.prog 64 #[.agg #[.bool x.there, .int .i64 x.level, .slice FA fl fc, .int .i64 x.graft, .int .i64 x.cap, .int .i64 x.got, .slice QA ql qc], .agg #[.int .i64 layer, .slice A2 lb c2], .int .i64 now] w fun e w' => ∃ A' L' c', e = .returned (.agg (hoR (x.send1 now ⟨layer, b⟩) (.slice FA fl fc) (.slice A' L' c')).toArray) ∧ HRef w' (x.send1 now ⟨layer, b⟩) (.slice FA fl fc) (.slice A' L' c') ∧ Below w.heap.size w w' := by
  obtain ⟨fb, rfl, rfl, hfc, hfb, hfr⟩ := hx.1.at
  have hql := hx.ql
  have HX := Lib.hid hx
  have HF := Lib.hid (And.intro hfb hfr)
  have HRD : Hid (∀ w', Below w.heap.size w w' → RdB D w' (.slice A2 lb c2) b) := Lib.hid (fun w' hb => hd.keep (fun k hk => hb.block k (hD k hk)))
  have HQL := Lib.hid (And.intro hql hq)
  have HB0 := Lib.hid (Bs.start w)
  obtain ⟨sb, hsb⟩ : ∃ sb, sb = strOfNums b := ⟨_, rfl⟩
  have HSB := Lib.hid hsb
  obtain ⟨hw1, hw2⟩ := hgot
  have HW : Hid (wrap64 (x.got + 1) = x.got + 1) := Lib.hid (by unfold wrap64; omega)
  have hfb8 : fb < w.heap.size := hfb
  clear hd hD hfb hfr hql hq hsb hw1 hw2
  by_cases ht : x.there = true
  rotate_left
  · skip
    have hth : x.there = false := by cases hh : x.there with
      | false => rfl
      | true => exact absurd hh ht
    have hno : x.gets ⟨layer, b⟩ now = false := by unfold Ho.gets Ho.lets; rw [hth]; rfl
    clear ht
    rw [send1_no hno]
    simp only [hoR_arr, hth]
    clear hno hlev hth hx
    go_enter Tryd.func64, Tryd.ntmps64
    go_upto_region 1 with (first
      | ((with_reducible refine gate_dst (N := 3) rfl ?_); refine wp_bx HB0.out (t := 89) (cs := [.bool false, .int .i64 x.level, .slice (some ⟨fb, 0, none⟩) 8 fc, .int .i64 x.graft, .int .i64 x.cap, .int .i64 x.got, .slice QA ql qc]) rfl (.tmp 0) rfl rfl ?_; intro g3 w1 hb HB1; clear hb HB0)
      | ((with_reducible refine gate_dst (N := 4) rfl ?_); refine wp_bx HB1.out (t := 60) (cs := [.int .i64 layer, .slice A2 lb c2]) rfl (.tmp 1) rfl rfl ?_; intro g4 w2 hb HB2; clear hb HB1)
      | ((with_reducible refine gate_dst (N := 6) rfl ?_); refine wp_al HB2.out (t := 89) rfl rfl al_H ?_; intro g6 w3 hb HB3; clear hb HB2))
    have y0 : w3.cell? ⟨g3, 0, none⟩ = some (.bool false) := (HB3.out.get 2 rfl).cell 0
    have y1 : w3.cell? ⟨g3, 1, none⟩ = some (.int .i64 x.level) := (HB3.out.get 2 rfl).cell 1
    have y2 : w3.cell? ⟨g3, 2, none⟩ = some (.slice (some ⟨fb, 0, none⟩) 8 fc) := (HB3.out.get 2 rfl).cell 2
    have a0 : w3.cell? ⟨g4, 0, none⟩ = some (.int .i64 layer) := (HB3.out.get 1 rfl).cell 0
    go_wp2_with (first
      | ((with_reducible refine gate_dst (N := 33) rfl ?_); refine wp_ld HB3.out 2 rfl rfl (.tmp 3) rfl rfl Tryd.underlying89 (by kernel_rfl) ?_)
      | ((with_reducible refine gate_store (t := 89) (p := 6) rfl ?_); refine wp_st HB3.out 0 rfl (q := 0) (seg := [.bool false, .int .i64 x.level, .slice (some ⟨fb, 0, none⟩) 8 fc, .int .i64 x.graft, .int .i64 x.cap, .int .i64 x.got, .slice QA ql qc]) rfl rfl rfl rfl rfl (by kernel_rfl) (Nat.le_refl _) (o_cons rfl (o_cons rfl (o_cons rfl (o_cons rfl (o_cons rfl (o_cons rfl (o_cons rfl o_nil))))))) ?_; intro w4 hq hf; have HB4 : Hid (Bs w w4 [(g6, 89, [.bool false, .int .i64 x.level, .slice (some ⟨fb, 0, none⟩) 8 fc, .int .i64 x.graft, .int .i64 x.cap, .int .i64 x.got, .slice QA ql qc]), (g4, 60, [.int .i64 layer, .slice A2 lb c2]), (g3, 89, [.bool false, .int .i64 x.level, .slice (some ⟨fb, 0, none⟩) 8 fc, .int .i64 x.graft, .int .i64 x.cap, .int .i64 x.got, .slice QA ql qc])]) := hq; clear hq hf HB3))
    (try simp only [Exit.inBlock, Exit.then])
    refine bodyPost_ret (results_c1 rfl _ _ g6 _ _ _ _ rfl (HB4.out.get 0 rfl) Tryd.underlying89 rfl (show (Tryd.prog.info? 89).map (·.size) = some 7 by kernel_rfl)) rfl ?_
    exact ⟨_, _, _, rfl, HX.out.below HB4.out.B, HB4.out.B⟩
  have hth : x.there = true := ht
  by_cases h1 : layer < 0
  · skip
    have d1 : decide (layer < (0 : Int)) = true := decide_eq_true h1
    have hno : x.gets ⟨layer, b⟩ now = false := by unfold Ho.gets Ho.lets; rw [decide_eq_false (show ¬ 0 ≤ layer by omega)]; simp
    clear ht h1
    rw [send1_no hno]
    simp only [hoR_arr, hth]
    clear hno hlev hth hx
    go_enter Tryd.func64, Tryd.ntmps64
    go_upto_region 1 with (first
      | ((with_reducible refine gate_dst (N := 3) rfl ?_); refine wp_bx HB0.out (t := 89) (cs := [.bool true, .int .i64 x.level, .slice (some ⟨fb, 0, none⟩) 8 fc, .int .i64 x.graft, .int .i64 x.cap, .int .i64 x.got, .slice QA ql qc]) rfl (.tmp 0) rfl rfl ?_; intro g3 w1 hb HB1; clear hb HB0)
      | ((with_reducible refine gate_dst (N := 4) rfl ?_); refine wp_bx HB1.out (t := 60) (cs := [.int .i64 layer, .slice A2 lb c2]) rfl (.tmp 1) rfl rfl ?_; intro g4 w2 hb HB2; clear hb HB1)
      | ((with_reducible refine gate_dst (N := 6) rfl ?_); refine wp_al HB2.out (t := 89) rfl rfl al_H ?_; intro g6 w3 hb HB3; clear hb HB2))
    have y0 : w3.cell? ⟨g3, 0, none⟩ = some (.bool true) := (HB3.out.get 2 rfl).cell 0
    have y1 : w3.cell? ⟨g3, 1, none⟩ = some (.int .i64 x.level) := (HB3.out.get 2 rfl).cell 1
    have y2 : w3.cell? ⟨g3, 2, none⟩ = some (.slice (some ⟨fb, 0, none⟩) 8 fc) := (HB3.out.get 2 rfl).cell 2
    have a0 : w3.cell? ⟨g4, 0, none⟩ = some (.int .i64 layer) := (HB3.out.get 1 rfl).cell 0
    go_wp2_with (first
      | ((with_reducible refine gate_dst (N := 33) rfl ?_); refine wp_ld HB3.out 2 rfl rfl (.tmp 3) rfl rfl Tryd.underlying89 (by kernel_rfl) ?_)
      | ((with_reducible refine gate_store (t := 89) (p := 6) rfl ?_); refine wp_st HB3.out 0 rfl (q := 0) (seg := [.bool true, .int .i64 x.level, .slice (some ⟨fb, 0, none⟩) 8 fc, .int .i64 x.graft, .int .i64 x.cap, .int .i64 x.got, .slice QA ql qc]) rfl rfl rfl rfl rfl (by kernel_rfl) (Nat.le_refl _) (o_cons rfl (o_cons rfl (o_cons rfl (o_cons rfl (o_cons rfl (o_cons rfl (o_cons rfl o_nil))))))) ?_; intro w4 hq hf; have HB4 : Hid (Bs w w4 [(g6, 89, [.bool true, .int .i64 x.level, .slice (some ⟨fb, 0, none⟩) 8 fc, .int .i64 x.graft, .int .i64 x.cap, .int .i64 x.got, .slice QA ql qc]), (g4, 60, [.int .i64 layer, .slice A2 lb c2]), (g3, 89, [.bool true, .int .i64 x.level, .slice (some ⟨fb, 0, none⟩) 8 fc, .int .i64 x.graft, .int .i64 x.cap, .int .i64 x.got, .slice QA ql qc])]) := hq; clear hq hf HB3))
    (try simp only [Exit.inBlock, Exit.then])
    refine bodyPost_ret (results_c1 rfl _ _ g6 _ _ _ _ rfl (HB4.out.get 0 rfl) Tryd.underlying89 rfl (show (Tryd.prog.info? 89).map (·.size) = some 7 by kernel_rfl)) rfl ?_
    exact ⟨_, _, _, rfl, HX.out.below HB4.out.B, HB4.out.B⟩
  have d1 : decide (layer < (0 : Int)) = false := decide_eq_false h1
  by_cases h2 : x.level < layer
  · skip
    have d2 : decide (x.level < layer) = true := decide_eq_true h2
    have hno : x.gets ⟨layer, b⟩ now = false := by unfold Ho.gets Ho.lets; rw [decide_eq_false (show ¬ layer ≤ x.level by omega)]; simp
    clear ht h1 h2
    rw [send1_no hno]
    simp only [hoR_arr, hth]
    clear hno hlev hth hx
    go_enter Tryd.func64, Tryd.ntmps64
    go_upto_region 1 with (first
      | ((with_reducible refine gate_dst (N := 3) rfl ?_); refine wp_bx HB0.out (t := 89) (cs := [.bool true, .int .i64 x.level, .slice (some ⟨fb, 0, none⟩) 8 fc, .int .i64 x.graft, .int .i64 x.cap, .int .i64 x.got, .slice QA ql qc]) rfl (.tmp 0) rfl rfl ?_; intro g3 w1 hb HB1; clear hb HB0)
      | ((with_reducible refine gate_dst (N := 4) rfl ?_); refine wp_bx HB1.out (t := 60) (cs := [.int .i64 layer, .slice A2 lb c2]) rfl (.tmp 1) rfl rfl ?_; intro g4 w2 hb HB2; clear hb HB1)
      | ((with_reducible refine gate_dst (N := 6) rfl ?_); refine wp_al HB2.out (t := 89) rfl rfl al_H ?_; intro g6 w3 hb HB3; clear hb HB2))
    have y0 : w3.cell? ⟨g3, 0, none⟩ = some (.bool true) := (HB3.out.get 2 rfl).cell 0
    have y1 : w3.cell? ⟨g3, 1, none⟩ = some (.int .i64 x.level) := (HB3.out.get 2 rfl).cell 1
    have y2 : w3.cell? ⟨g3, 2, none⟩ = some (.slice (some ⟨fb, 0, none⟩) 8 fc) := (HB3.out.get 2 rfl).cell 2
    have a0 : w3.cell? ⟨g4, 0, none⟩ = some (.int .i64 layer) := (HB3.out.get 1 rfl).cell 0
    go_wp2_with (first
      | ((with_reducible refine gate_dst (N := 33) rfl ?_); refine wp_ld HB3.out 2 rfl rfl (.tmp 3) rfl rfl Tryd.underlying89 (by kernel_rfl) ?_)
      | ((with_reducible refine gate_store (t := 89) (p := 6) rfl ?_); refine wp_st HB3.out 0 rfl (q := 0) (seg := [.bool true, .int .i64 x.level, .slice (some ⟨fb, 0, none⟩) 8 fc, .int .i64 x.graft, .int .i64 x.cap, .int .i64 x.got, .slice QA ql qc]) rfl rfl rfl rfl rfl (by kernel_rfl) (Nat.le_refl _) (o_cons rfl (o_cons rfl (o_cons rfl (o_cons rfl (o_cons rfl (o_cons rfl (o_cons rfl o_nil))))))) ?_; intro w4 hq hf; have HB4 : Hid (Bs w w4 [(g6, 89, [.bool true, .int .i64 x.level, .slice (some ⟨fb, 0, none⟩) 8 fc, .int .i64 x.graft, .int .i64 x.cap, .int .i64 x.got, .slice QA ql qc]), (g4, 60, [.int .i64 layer, .slice A2 lb c2]), (g3, 89, [.bool true, .int .i64 x.level, .slice (some ⟨fb, 0, none⟩) 8 fc, .int .i64 x.graft, .int .i64 x.cap, .int .i64 x.got, .slice QA ql qc])]) := hq; clear hq hf HB3))
    (try simp only [Exit.inBlock, Exit.then])
    refine bodyPost_ret (results_c1 rfl _ _ g6 _ _ _ _ rfl (HB4.out.get 0 rfl) Tryd.underlying89 rfl (show (Tryd.prog.info? 89).map (·.size) = some 7 by kernel_rfl)) rfl ?_
    exact ⟨_, _, _, rfl, HX.out.below HB4.out.B, HB4.out.B⟩
  have d2 : decide (x.level < layer) = false := decide_eq_false h2
  obtain ⟨ly, rfl⟩ : ∃ ly : Nat, layer = (ly : Int) := ⟨layer.toNat, by omega⟩
  have HLY : Hid (ly < 8) := Lib.hid (by omega)
  have k0 : decide ((0 : Int) ≤ (ly : Int)) = true := decide_eq_true (by omega)
  have k1 : ly < 8 := by omega
  by_cases h3 : now < x.fro ly
  · skip
    have d3 : decide (now < x.fro ly) = true := decide_eq_true h3
    have hno : x.gets ⟨(ly : Int), b⟩ now = false := by unfold Ho.gets Ho.lets; dsimp only; rw [Int.toNat_natCast, decide_eq_false (show ¬ x.fro ly ≤ now by omega)]; simp
    clear ht h1 h2 h3
    rw [send1_no hno]
    simp only [hoR_arr, hth]
    clear hno hlev hth hx
    go_enter Tryd.func64, Tryd.ntmps64
    go_upto_region 1 with (first
      | ((with_reducible refine gate_dst (N := 3) rfl ?_); refine wp_bx HB0.out (t := 89) (cs := [.bool true, .int .i64 x.level, .slice (some ⟨fb, 0, none⟩) 8 fc, .int .i64 x.graft, .int .i64 x.cap, .int .i64 x.got, .slice QA ql qc]) rfl (.tmp 0) rfl rfl ?_; intro g3 w1 hb HB1; clear hb HB0)
      | ((with_reducible refine gate_dst (N := 4) rfl ?_); refine wp_bx HB1.out (t := 60) (cs := [.int .i64 (ly : Int), .slice A2 lb c2]) rfl (.tmp 1) rfl rfl ?_; intro g4 w2 hb HB2; clear hb HB1)
      | ((with_reducible refine gate_dst (N := 6) rfl ?_); refine wp_al HB2.out (t := 89) rfl rfl al_H ?_; intro g6 w3 hb HB3; clear hb HB2))
    have y0 : w3.cell? ⟨g3, 0, none⟩ = some (.bool true) := (HB3.out.get 2 rfl).cell 0
    have y1 : w3.cell? ⟨g3, 1, none⟩ = some (.int .i64 x.level) := (HB3.out.get 2 rfl).cell 1
    have y2 : w3.cell? ⟨g3, 2, none⟩ = some (.slice (some ⟨fb, 0, none⟩) 8 fc) := (HB3.out.get 2 rfl).cell 2
    have a0 : w3.cell? ⟨g4, 0, none⟩ = some (.int .i64 (ly : Int)) := (HB3.out.get 1 rfl).cell 0
    have q0 : w3.cell? ⟨fb, ly, none⟩ = some (.int .i64 (x.fro ly)) := (HB3.out.B.cell (p := ⟨fb, _, none⟩) hfb8).trans (HF.out.2 ly HLY.out)
    go_wp2_with (first
      | ((with_reducible refine gate_dst (N := 33) rfl ?_); refine wp_ld HB3.out 2 rfl rfl (.tmp 3) rfl rfl Tryd.underlying89 (by kernel_rfl) ?_)
      | ((with_reducible refine gate_store (t := 89) (p := 6) rfl ?_); refine wp_st HB3.out 0 rfl (q := 0) (seg := [.bool true, .int .i64 x.level, .slice (some ⟨fb, 0, none⟩) 8 fc, .int .i64 x.graft, .int .i64 x.cap, .int .i64 x.got, .slice QA ql qc]) rfl rfl rfl rfl rfl (by kernel_rfl) (Nat.le_refl _) (o_cons rfl (o_cons rfl (o_cons rfl (o_cons rfl (o_cons rfl (o_cons rfl (o_cons rfl o_nil))))))) ?_; intro w4 hq hf; have HB4 : Hid (Bs w w4 [(g6, 89, [.bool true, .int .i64 x.level, .slice (some ⟨fb, 0, none⟩) 8 fc, .int .i64 x.graft, .int .i64 x.cap, .int .i64 x.got, .slice QA ql qc]), (g4, 60, [.int .i64 (ly : Int), .slice A2 lb c2]), (g3, 89, [.bool true, .int .i64 x.level, .slice (some ⟨fb, 0, none⟩) 8 fc, .int .i64 x.graft, .int .i64 x.cap, .int .i64 x.got, .slice QA ql qc])]) := hq; clear hq hf HB3))
    (try simp only [Exit.inBlock, Exit.then])
    refine bodyPost_ret (results_c1 rfl _ _ g6 _ _ _ _ rfl (HB4.out.get 0 rfl) Tryd.underlying89 rfl (show (Tryd.prog.info? 89).map (·.size) = some 7 by kernel_rfl)) rfl ?_
    exact ⟨_, _, _, rfl, HX.out.below HB4.out.B, HB4.out.B⟩
  have d3 : decide (now < x.fro ly) = false := decide_eq_false h3
  have hlets : x.lets ⟨(ly : Int), b⟩ now = true := by unfold Ho.lets; dsimp only; rw [Int.toNat_natCast, hth, decide_eq_true (show (0 : Int) ≤ (ly : Int) by omega), decide_eq_true (show (ly : Int) ≤ x.level by omega), decide_eq_true (show x.fro ly ≤ now by omega)]; rfl
  clear ht h1 h2 h3
  by_cases hf : isData b = true ∧ 0 ≤ x.cap ∧ x.cap ≤ x.got
  · obtain ⟨hdt, c1, c3⟩ := hf
    have HDT := Lib.hid hdt
    have hno : x.gets ⟨(ly : Int), b⟩ now = false := by unfold Ho.gets Ho.full; dsimp only; rw [hdt, decide_eq_true c1, decide_eq_true c3]; simp
    have d4 : decide ((0 : Int) ≤ x.cap) = true := decide_eq_true c1
    have d5 : decide (x.cap ≤ x.got) = true := decide_eq_true c3
    clear hdt c1 c3 hlets
    rw [send1_no hno]
    simp only [hoR_arr, hth]
    clear hno hlev hth hx
    go_enter Tryd.func64, Tryd.ntmps64
    go_upto_region 1 with (first
      | ((with_reducible refine gate_dst (N := 3) rfl ?_); refine wp_bx HB0.out (t := 89) (cs := [.bool true, .int .i64 x.level, .slice (some ⟨fb, 0, none⟩) 8 fc, .int .i64 x.graft, .int .i64 x.cap, .int .i64 x.got, .slice QA ql qc]) rfl (.tmp 0) rfl rfl ?_; intro g3 w1 hb HB1; clear hb HB0)
      | ((with_reducible refine gate_dst (N := 4) rfl ?_); refine wp_bx HB1.out (t := 60) (cs := [.int .i64 (ly : Int), .slice A2 lb c2]) rfl (.tmp 1) rfl rfl ?_; intro g4 w2 hb HB2; clear hb HB1)
      | ((with_reducible refine gate_dst (N := 6) rfl ?_); refine wp_al HB2.out (t := 89) rfl rfl al_H ?_; intro g6 w3 hb HB3; clear hb HB2))
    have y0 : w3.cell? ⟨g3, 0, none⟩ = some (.bool true) := (HB3.out.get 2 rfl).cell 0
    have y1 : w3.cell? ⟨g3, 1, none⟩ = some (.int .i64 x.level) := (HB3.out.get 2 rfl).cell 1
    have y2 : w3.cell? ⟨g3, 2, none⟩ = some (.slice (some ⟨fb, 0, none⟩) 8 fc) := (HB3.out.get 2 rfl).cell 2
    have a0 : w3.cell? ⟨g4, 0, none⟩ = some (.int .i64 (ly : Int)) := (HB3.out.get 1 rfl).cell 0
    have q0 : w3.cell? ⟨fb, ly, none⟩ = some (.int .i64 (x.fro ly)) := (HB3.out.B.cell (p := ⟨fb, _, none⟩) hfb8).trans (HF.out.2 ly HLY.out)
    go_upto_region 3 with (fail)
    clear y0 y1 y2 a0 q0 d1 d2 d3 k0 k1
    go_wp2_with (first
      | ((with_reducible refine gate_dst (N := 34) rfl ?_); refine wp_ld HB3.out 1 rfl rfl (.tmp 4) rfl rfl Tryd.underlying60 (by kernel_rfl) ?_)
      | (go_at_call 68; ((with_reducible refine (data_r (ly : Int) (HRD.out _ HB3.out.B)).mono ?_); rintro e w4 ⟨rfl, hb⟩; rw [HDT.out]; have HB4 := Lib.hid (HB3.out.below hb); clear hb; have y4 : w4.cell? ⟨g3, 4, none⟩ = some (.int .i64 x.cap) := (HB4.out.get 2 rfl).cell 4; have y5 : w4.cell? ⟨g3, 5, none⟩ = some (.int .i64 x.got) := (HB4.out.get 2 rfl).cell 5))
      | ((with_reducible refine gate_dst (N := 48) rfl ?_); refine wp_ld HB4.out 2 rfl rfl (.tmp 3) rfl rfl Tryd.underlying89 (by kernel_rfl) ?_)
      | ((with_reducible refine gate_store (t := 89) (p := 6) rfl ?_); refine wp_st HB4.out 0 rfl (q := 0) (seg := [.bool true, .int .i64 x.level, .slice (some ⟨fb, 0, none⟩) 8 fc, .int .i64 x.graft, .int .i64 x.cap, .int .i64 x.got, .slice QA ql qc]) rfl rfl rfl rfl rfl (by kernel_rfl) (Nat.le_refl _) (o_cons rfl (o_cons rfl (o_cons rfl (o_cons rfl (o_cons rfl (o_cons rfl (o_cons rfl o_nil))))))) ?_; intro w5 hq hf; have HB5 : Hid (Bs w w5 [(g6, 89, [.bool true, .int .i64 x.level, .slice (some ⟨fb, 0, none⟩) 8 fc, .int .i64 x.graft, .int .i64 x.cap, .int .i64 x.got, .slice QA ql qc]), (g4, 60, [.int .i64 (ly : Int), .slice A2 lb c2]), (g3, 89, [.bool true, .int .i64 x.level, .slice (some ⟨fb, 0, none⟩) 8 fc, .int .i64 x.graft, .int .i64 x.cap, .int .i64 x.got, .slice QA ql qc])]) := hq; clear hq hf HB4))
    (try simp only [Exit.inBlock, Exit.then])
    refine bodyPost_ret (results_c1 rfl _ _ g6 _ _ _ _ rfl (HB5.out.get 0 rfl) Tryd.underlying89 rfl (show (Tryd.prog.info? 89).map (·.size) = some 7 by kernel_rfl)) rfl ?_
    exact ⟨_, _, _, rfl, HX.out.below HB5.out.B, HB5.out.B⟩
  have hg1 : x.gets ⟨(ly : Int), b⟩ now = true := by
    unfold Ho.gets
    rw [hlets]
    unfold Ho.full
    cases hh : isData b with
    | false => rfl
    | true =>
      by_cases c1 : 0 ≤ x.cap
      · rw [decide_eq_true c1, decide_eq_false (fun c3 => hf ⟨hh, c1, c3⟩)]; rfl
      · rw [decide_eq_false c1]; rfl
  have hsd : x.send1 now ⟨(ly : Int), b⟩ = { x with there := true, got := x.got + (if isData b = true then 1 else 0), q := x.q ++ [⟨b, now, false⟩] } := by
    unfold Ho.send1
    rw [hg1, if_pos rfl]
    unfold Ho.count
    rw [hg1, Bool.true_and]
    obtain ⟨a1, a2, a3, a4, a5, a6, a7⟩ := x
    dsimp only at hth ⊢
    subst hth
    cases hh : isData b <;> simp
  have hfc2 : isData b = false ∨ (isData b = true ∧ ¬ 0 ≤ x.cap) ∨ (isData b = true ∧ 0 ≤ x.cap ∧ ¬ x.cap ≤ x.got) := by
    cases hh : isData b with
    | false => exact .inl rfl
    | true =>
      by_cases c1 : 0 ≤ x.cap
      · exact .inr (.inr ⟨rfl, c1, fun c3 => hf ⟨hh, c1, c3⟩⟩)
      · exact .inr (.inl ⟨rfl, c1⟩)
  rw [hsd]
  clear hsd hg1 hlets hf hlev
  rcases hfc2 with hdt | ⟨hdt, c1⟩ | ⟨hdt, c1, c3⟩
  · skip
    have HDT := Lib.hid hdt
    rw [hdt, hth]
    clear hdt hx hth
    rw [show x.got + (if false = true then 1 else 0) = x.got from Int.add_zero _]
    go_enter Tryd.func64, Tryd.ntmps64
    go_upto_region 1 with (first
      | ((with_reducible refine gate_dst (N := 3) rfl ?_); refine wp_bx HB0.out (t := 89) (cs := [.bool true, .int .i64 x.level, .slice (some ⟨fb, 0, none⟩) 8 fc, .int .i64 x.graft, .int .i64 x.cap, .int .i64 x.got, .slice QA ql qc]) rfl (.tmp 0) rfl rfl ?_; intro g3 w1 hb HB1; clear hb HB0)
      | ((with_reducible refine gate_dst (N := 4) rfl ?_); refine wp_bx HB1.out (t := 60) (cs := [.int .i64 (ly : Int), .slice A2 lb c2]) rfl (.tmp 1) rfl rfl ?_; intro g4 w2 hb HB2; clear hb HB1)
      | ((with_reducible refine gate_dst (N := 6) rfl ?_); refine wp_al HB2.out (t := 89) rfl rfl al_H ?_; intro g6 w3 hb HB3; clear hb HB2))
    have y0 : w3.cell? ⟨g3, 0, none⟩ = some (.bool true) := (HB3.out.get 2 rfl).cell 0
    have y1 : w3.cell? ⟨g3, 1, none⟩ = some (.int .i64 x.level) := (HB3.out.get 2 rfl).cell 1
    have y2 : w3.cell? ⟨g3, 2, none⟩ = some (.slice (some ⟨fb, 0, none⟩) 8 fc) := (HB3.out.get 2 rfl).cell 2
    have a0 : w3.cell? ⟨g4, 0, none⟩ = some (.int .i64 (ly : Int)) := (HB3.out.get 1 rfl).cell 0
    have q0 : w3.cell? ⟨fb, ly, none⟩ = some (.int .i64 (x.fro ly)) := (HB3.out.B.cell (p := ⟨fb, _, none⟩) hfb8).trans (HF.out.2 ly HLY.out)
    go_upto_region 3 with (fail)
    clear y0 y1 y2 a0 q0 d1 d2 d3 k0 k1
    go_upto_region 5 with (first
      | ((with_reducible refine gate_dst (N := 34) rfl ?_); refine wp_ld HB3.out 1 rfl rfl (.tmp 4) rfl rfl Tryd.underlying60 (by kernel_rfl) ?_)
      | (go_at_call 68; ((with_reducible refine (data_r (ly : Int) (HRD.out _ HB3.out.B)).mono ?_); rintro e w4 ⟨rfl, hb⟩; rw [HDT.out]; have HB4 := Lib.hid (HB3.out.below hb); clear hb)))
    skip
    go_upto_region 7 with (first
      | ((with_reducible refine gate_dst (N := 49) rfl ?_); refine wp_ld HB4.out 1 rfl rfl (.tmp 4) rfl rfl Tryd.underlying60 (by kernel_rfl) ?_)
      | (go_at_call 68; ((with_reducible refine (data_r (ly : Int) (HRD.out _ HB4.out.B)).mono ?_); rintro e w5 ⟨rfl, hb⟩; rw [HDT.out]; have HB5 := Lib.hid (HB4.out.below hb); clear hb)))
    have y6 : w5.cell? ⟨g3, 6, none⟩ = some (.slice QA ql qc) := (HB5.out.get 2 rfl).cell 6
    have l3 : g3 < w5.heap.size := (HB5.out.get 2 rfl).lt
    go_upto_region 8 with (first
      | (at_builtin; refine wp_qapp (B := w.heap.size) (q := []) (q2 := x.q) rfl (.tmp 55) (.tmp 57) rfl rfl rfl (QOwn.empty HB5.out.B.size) ((HX.out.2.rd).below (HB5.out.B.alloc HB5.out.B.size _)) (by have := HQL.out.2; simp; omega) (Nat.le_trans HB5.out.B.size (by simp)) ?_; intro A7 L7 c7 w7 HQ7 hg7))
    have HB6 : Hid (Bs w w7 [(g6, 89, [.bool false, .int .i64 0, .slice none 0 0, .int .i64 0, .int .i64 0, .int .i64 0, .slice none 0 0]), (g4, 60, [.int .i64 (ly : Int), .slice A2 lb c2]), (g3, 89, [.bool true, .int .i64 x.level, .slice (some ⟨fb, 0, none⟩) 8 fc, .int .i64 x.graft, .int .i64 x.cap, .int .i64 x.got, .slice QA ql qc])]) := Lib.hid ((HB5.out.below (below_alloc (Below.refl _ _) _)).grown hg7.out (own_block (QOwn.empty HB5.out.B.size)) (by intro b hb; simp only [List.mem_cons, List.not_mem_nil, or_false] at hb; rcases hb with rfl | rfl | rfl <;> (dsimp only; decide)))
    clear hg7 l3 HB5 y6
    have a1 : w7.cell? ⟨g4, 1, none⟩ = some (.slice A2 lb c2) := (HB6.out.get 1 rfl).cell 1
    have hs : (convert 22 9 (.slice A2 lb c2)).run Tryd.prog w7 = .ok (.string sb) w7 := by rw [HSB.out]; exact (HRD.out _ HB6.out.B).str
    go_upto_region 9 with (first
      | (at_builtin; refine wp_qapp (B := w.heap.size) (q := x.q) (q2 := [⟨b, now, false⟩]) rfl (.tmp 59) (.tmp 65) rfl rfl rfl (HQ7.out.below (below_alloc (Below.refl _ _) _)) (by rw [HSB.out]; exact QRd.lit (x := ⟨b, now, false⟩)) (by have := HQL.out.2; simp; omega) (Nat.le_trans HB6.out.B.size (by simp)) ?_; intro A8 L8 c8 w8 HQ8 hg8; have HB7 : Hid (Bs w w8 [(g6, 89, [.bool false, .int .i64 0, .slice none 0 0, .int .i64 0, .int .i64 0, .int .i64 0, .slice none 0 0]), (g4, 60, [.int .i64 (ly : Int), .slice A2 lb c2]), (g3, 89, [.bool true, .int .i64 x.level, .slice (some ⟨fb, 0, none⟩) 8 fc, .int .i64 x.graft, .int .i64 x.cap, .int .i64 x.got, .slice QA ql qc])]) := Lib.hid ((HB6.out.below (below_alloc (Below.refl _ _) _)).grown hg8.out (own_block (HQ7.out.below (below_alloc (Below.refl _ _) _))) (by intro b hb; simp only [List.mem_cons, List.not_mem_nil, or_false] at hb; rcases hb with rfl | rfl | rfl <;> (dsimp only; decide))); have y6 : w8.cell? ⟨g3, 6, none⟩ = some (.slice QA ql qc) := (HB7.out.get 2 rfl).cell 6; have f6 : w8.frozen? ⟨g3, 6, none⟩ = false := (HB7.out.get 2 rfl).frozen 6; clear hg8 HB6))
    have HB8 : Hid (Bs w (w8.setCell ⟨g3, 6, none⟩ (.slice A8 L8 c8)) [(g6, 89, [.bool false, .int .i64 0, .slice none 0 0, .int .i64 0, .int .i64 0, .int .i64 0, .slice none 0 0]), (g4, 60, [.int .i64 (ly : Int), .slice A2 lb c2]), (g3, 89, [.bool true, .int .i64 x.level, .slice (some ⟨fb, 0, none⟩) 8 fc, .int .i64 x.graft, .int .i64 x.cap, .int .i64 x.got, .slice A8 L8 c8])]) := Lib.hid (HB7.out.set 2 rfl 6 (.slice A8 L8 c8))
    have HQ9 : Hid (QRef (w8.setCell ⟨g3, 6, none⟩ (.slice A8 L8 c8)) (.slice A8 L8 c8) (x.q ++ [⟨b, now, false⟩])) := Lib.hid (HQ8.out.ref.setH (HB7.out.get 2 rfl))
    generalize w8.setCell ⟨g3, 6, none⟩ (.slice A8 L8 c8) = w8 at HB8 HQ9 ⊢
    clear HB7
    clear y6 f6 a1 hs HQ8 HQ7
    go_wp2_with (first
      | ((with_reducible refine gate_dst (N := 68) rfl ?_); refine wp_ld HB8.out 2 rfl rfl (.tmp 3) rfl rfl Tryd.underlying89 (by kernel_rfl) ?_)
      | ((with_reducible refine gate_store (t := 89) (p := 6) rfl ?_); refine wp_st HB8.out 0 rfl (q := 0) (seg := [.bool true, .int .i64 x.level, .slice (some ⟨fb, 0, none⟩) 8 fc, .int .i64 x.graft, .int .i64 x.cap, .int .i64 x.got, .slice A8 L8 c8]) rfl rfl rfl rfl rfl (by kernel_rfl) (Nat.le_refl _) (o_cons rfl (o_cons rfl (o_cons rfl (o_cons rfl (o_cons rfl (o_cons rfl (o_cons rfl o_nil))))))) ?_; intro w9 hq hf; have HB9 : Hid (Bs w w9 [(g6, 89, [.bool true, .int .i64 x.level, .slice (some ⟨fb, 0, none⟩) 8 fc, .int .i64 x.graft, .int .i64 x.cap, .int .i64 x.got, .slice A8 L8 c8]), (g4, 60, [.int .i64 (ly : Int), .slice A2 lb c2]), (g3, 89, [.bool true, .int .i64 x.level, .slice (some ⟨fb, 0, none⟩) 8 fc, .int .i64 x.graft, .int .i64 x.cap, .int .i64 x.got, .slice A8 L8 c8])]) := hq; have HQ10 := Lib.hid (HQ9.out.stH hf.out); clear hq hf HB8))
    (try simp only [Exit.inBlock, Exit.then])
    refine bodyPost_ret (results_c1 rfl _ _ g6 _ _ _ _ rfl (HB9.out.get 0 rfl) Tryd.underlying89 rfl (show (Tryd.prog.info? 89).map (·.size) = some 7 by kernel_rfl)) rfl ?_
    exact ⟨_, _, _, rfl, ⟨(HX.out.below HB9.out.B).1, HQ10.out⟩, HB9.out.B⟩
  · skip
    have HDT := Lib.hid hdt
    have d4 : decide ((0 : Int) ≤ x.cap) = false := decide_eq_false c1
    rw [hdt, hth]
    clear hdt hx hth c1
    rw [show x.got + (if true = true then 1 else 0) = x.got + 1 from rfl]
    go_enter Tryd.func64, Tryd.ntmps64
    go_upto_region 1 with (first
      | ((with_reducible refine gate_dst (N := 3) rfl ?_); refine wp_bx HB0.out (t := 89) (cs := [.bool true, .int .i64 x.level, .slice (some ⟨fb, 0, none⟩) 8 fc, .int .i64 x.graft, .int .i64 x.cap, .int .i64 x.got, .slice QA ql qc]) rfl (.tmp 0) rfl rfl ?_; intro g3 w1 hb HB1; clear hb HB0)
      | ((with_reducible refine gate_dst (N := 4) rfl ?_); refine wp_bx HB1.out (t := 60) (cs := [.int .i64 (ly : Int), .slice A2 lb c2]) rfl (.tmp 1) rfl rfl ?_; intro g4 w2 hb HB2; clear hb HB1)
      | ((with_reducible refine gate_dst (N := 6) rfl ?_); refine wp_al HB2.out (t := 89) rfl rfl al_H ?_; intro g6 w3 hb HB3; clear hb HB2))
    have y0 : w3.cell? ⟨g3, 0, none⟩ = some (.bool true) := (HB3.out.get 2 rfl).cell 0
    have y1 : w3.cell? ⟨g3, 1, none⟩ = some (.int .i64 x.level) := (HB3.out.get 2 rfl).cell 1
    have y2 : w3.cell? ⟨g3, 2, none⟩ = some (.slice (some ⟨fb, 0, none⟩) 8 fc) := (HB3.out.get 2 rfl).cell 2
    have a0 : w3.cell? ⟨g4, 0, none⟩ = some (.int .i64 (ly : Int)) := (HB3.out.get 1 rfl).cell 0
    have q0 : w3.cell? ⟨fb, ly, none⟩ = some (.int .i64 (x.fro ly)) := (HB3.out.B.cell (p := ⟨fb, _, none⟩) hfb8).trans (HF.out.2 ly HLY.out)
    go_upto_region 3 with (fail)
    clear y0 y1 y2 a0 q0 d1 d2 d3 k0 k1
    go_upto_region 5 with (first
      | ((with_reducible refine gate_dst (N := 34) rfl ?_); refine wp_ld HB3.out 1 rfl rfl (.tmp 4) rfl rfl Tryd.underlying60 (by kernel_rfl) ?_)
      | (go_at_call 68; ((with_reducible refine (data_r (ly : Int) (HRD.out _ HB3.out.B)).mono ?_); rintro e w4 ⟨rfl, hb⟩; rw [HDT.out]; have HB4 := Lib.hid (HB3.out.below hb); clear hb; have y4 : w4.cell? ⟨g3, 4, none⟩ = some (.int .i64 x.cap) := (HB4.out.get 2 rfl).cell 4; have y5 : w4.cell? ⟨g3, 5, none⟩ = some (.int .i64 x.got) := (HB4.out.get 2 rfl).cell 5)))
    clear y4 y5 d4
    go_upto_region 6 with (first
      | ((with_reducible refine gate_dst (N := 49) rfl ?_); refine wp_ld HB4.out 1 rfl rfl (.tmp 4) rfl rfl Tryd.underlying60 (by kernel_rfl) ?_)
      | (go_at_call 68; ((with_reducible refine (data_r (ly : Int) (HRD.out _ HB4.out.B)).mono ?_); rintro e w5 ⟨rfl, hb⟩; rw [HDT.out]; have HB5 := Lib.hid (HB4.out.below hb); clear hb)))
    have hw := HW.out
    have y5 : w5.cell? ⟨g3, 5, none⟩ = some (.int .i64 x.got) := (HB5.out.get 2 rfl).cell 5
    have f5 : w5.frozen? ⟨g3, 5, none⟩ = false := (HB5.out.get 2 rfl).frozen 5
    go_upto_region 7 with (fail)
    have HB6 : Hid (Bs w (w5.setCell ⟨g3, 5, none⟩ (.int .i64 (x.got + 1))) [(g6, 89, [.bool false, .int .i64 0, .slice none 0 0, .int .i64 0, .int .i64 0, .int .i64 0, .slice none 0 0]), (g4, 60, [.int .i64 (ly : Int), .slice A2 lb c2]), (g3, 89, [.bool true, .int .i64 x.level, .slice (some ⟨fb, 0, none⟩) 8 fc, .int .i64 x.graft, .int .i64 x.cap, .int .i64 (x.got + 1), .slice QA ql qc])]) := Lib.hid (HB5.out.set 2 rfl 5 (.int .i64 (x.got + 1)))
    generalize w5.setCell ⟨g3, 5, none⟩ (.int .i64 (x.got + 1)) = w6 at HB6 ⊢
    clear HB5
    clear hw y5 f5
    have y6 : w6.cell? ⟨g3, 6, none⟩ = some (.slice QA ql qc) := (HB6.out.get 2 rfl).cell 6
    have l3 : g3 < w6.heap.size := (HB6.out.get 2 rfl).lt
    go_upto_region 8 with (first
      | (at_builtin; refine wp_qapp (B := w.heap.size) (q := []) (q2 := x.q) rfl (.tmp 55) (.tmp 57) rfl rfl rfl (QOwn.empty HB6.out.B.size) ((HX.out.2.rd).below (HB6.out.B.alloc HB6.out.B.size _)) (by have := HQL.out.2; simp; omega) (Nat.le_trans HB6.out.B.size (by simp)) ?_; intro A7 L7 c7 w7 HQ7 hg7))
    have HB7 : Hid (Bs w w7 [(g6, 89, [.bool false, .int .i64 0, .slice none 0 0, .int .i64 0, .int .i64 0, .int .i64 0, .slice none 0 0]), (g4, 60, [.int .i64 (ly : Int), .slice A2 lb c2]), (g3, 89, [.bool true, .int .i64 x.level, .slice (some ⟨fb, 0, none⟩) 8 fc, .int .i64 x.graft, .int .i64 x.cap, .int .i64 (x.got + 1), .slice QA ql qc])]) := Lib.hid ((HB6.out.below (below_alloc (Below.refl _ _) _)).grown hg7.out (own_block (QOwn.empty HB6.out.B.size)) (by intro b hb; simp only [List.mem_cons, List.not_mem_nil, or_false] at hb; rcases hb with rfl | rfl | rfl <;> (dsimp only; decide)))
    clear hg7 l3 HB6 y6
    have a1 : w7.cell? ⟨g4, 1, none⟩ = some (.slice A2 lb c2) := (HB7.out.get 1 rfl).cell 1
    have hs : (convert 22 9 (.slice A2 lb c2)).run Tryd.prog w7 = .ok (.string sb) w7 := by rw [HSB.out]; exact (HRD.out _ HB7.out.B).str
    go_upto_region 9 with (first
      | (at_builtin; refine wp_qapp (B := w.heap.size) (q := x.q) (q2 := [⟨b, now, false⟩]) rfl (.tmp 59) (.tmp 65) rfl rfl rfl (HQ7.out.below (below_alloc (Below.refl _ _) _)) (by rw [HSB.out]; exact QRd.lit (x := ⟨b, now, false⟩)) (by have := HQL.out.2; simp; omega) (Nat.le_trans HB7.out.B.size (by simp)) ?_; intro A8 L8 c8 w8 HQ8 hg8; have HB8 : Hid (Bs w w8 [(g6, 89, [.bool false, .int .i64 0, .slice none 0 0, .int .i64 0, .int .i64 0, .int .i64 0, .slice none 0 0]), (g4, 60, [.int .i64 (ly : Int), .slice A2 lb c2]), (g3, 89, [.bool true, .int .i64 x.level, .slice (some ⟨fb, 0, none⟩) 8 fc, .int .i64 x.graft, .int .i64 x.cap, .int .i64 (x.got + 1), .slice QA ql qc])]) := Lib.hid ((HB7.out.below (below_alloc (Below.refl _ _) _)).grown hg8.out (own_block (HQ7.out.below (below_alloc (Below.refl _ _) _))) (by intro b hb; simp only [List.mem_cons, List.not_mem_nil, or_false] at hb; rcases hb with rfl | rfl | rfl <;> (dsimp only; decide))); have y6 : w8.cell? ⟨g3, 6, none⟩ = some (.slice QA ql qc) := (HB8.out.get 2 rfl).cell 6; have f6 : w8.frozen? ⟨g3, 6, none⟩ = false := (HB8.out.get 2 rfl).frozen 6; clear hg8 HB7))
    have HB9 : Hid (Bs w (w8.setCell ⟨g3, 6, none⟩ (.slice A8 L8 c8)) [(g6, 89, [.bool false, .int .i64 0, .slice none 0 0, .int .i64 0, .int .i64 0, .int .i64 0, .slice none 0 0]), (g4, 60, [.int .i64 (ly : Int), .slice A2 lb c2]), (g3, 89, [.bool true, .int .i64 x.level, .slice (some ⟨fb, 0, none⟩) 8 fc, .int .i64 x.graft, .int .i64 x.cap, .int .i64 (x.got + 1), .slice A8 L8 c8])]) := Lib.hid (HB8.out.set 2 rfl 6 (.slice A8 L8 c8))
    have HQ9 : Hid (QRef (w8.setCell ⟨g3, 6, none⟩ (.slice A8 L8 c8)) (.slice A8 L8 c8) (x.q ++ [⟨b, now, false⟩])) := Lib.hid (HQ8.out.ref.setH (HB8.out.get 2 rfl))
    generalize w8.setCell ⟨g3, 6, none⟩ (.slice A8 L8 c8) = w9 at HB9 HQ9 ⊢
    clear HB8
    clear y6 f6 a1 hs HQ8 HQ7
    go_wp2_with (first
      | ((with_reducible refine gate_dst (N := 68) rfl ?_); refine wp_ld HB9.out 2 rfl rfl (.tmp 3) rfl rfl Tryd.underlying89 (by kernel_rfl) ?_)
      | ((with_reducible refine gate_store (t := 89) (p := 6) rfl ?_); refine wp_st HB9.out 0 rfl (q := 0) (seg := [.bool true, .int .i64 x.level, .slice (some ⟨fb, 0, none⟩) 8 fc, .int .i64 x.graft, .int .i64 x.cap, .int .i64 (x.got + 1), .slice A8 L8 c8]) rfl rfl rfl rfl rfl (by kernel_rfl) (Nat.le_refl _) (o_cons rfl (o_cons rfl (o_cons rfl (o_cons rfl (o_cons rfl (o_cons rfl (o_cons rfl o_nil))))))) ?_; intro w10 hq hf; have HB10 : Hid (Bs w w10 [(g6, 89, [.bool true, .int .i64 x.level, .slice (some ⟨fb, 0, none⟩) 8 fc, .int .i64 x.graft, .int .i64 x.cap, .int .i64 (x.got + 1), .slice A8 L8 c8]), (g4, 60, [.int .i64 (ly : Int), .slice A2 lb c2]), (g3, 89, [.bool true, .int .i64 x.level, .slice (some ⟨fb, 0, none⟩) 8 fc, .int .i64 x.graft, .int .i64 x.cap, .int .i64 (x.got + 1), .slice A8 L8 c8])]) := hq; have HQ10 := Lib.hid (HQ9.out.stH hf.out); clear hq hf HB9))
    (try simp only [Exit.inBlock, Exit.then])
    refine bodyPost_ret (results_c1 rfl _ _ g6 _ _ _ _ rfl (HB10.out.get 0 rfl) Tryd.underlying89 rfl (show (Tryd.prog.info? 89).map (·.size) = some 7 by kernel_rfl)) rfl ?_
    exact ⟨_, _, _, rfl, ⟨(HX.out.below HB10.out.B).1, HQ10.out⟩, HB10.out.B⟩
  · skip
    have HDT := Lib.hid hdt
    have d4 : decide ((0 : Int) ≤ x.cap) = true := decide_eq_true c1
    have d5 : decide (x.cap ≤ x.got) = false := decide_eq_false c3
    rw [hdt, hth]
    clear hdt hx hth c1 c3
    rw [show x.got + (if true = true then 1 else 0) = x.got + 1 from rfl]
    go_enter Tryd.func64, Tryd.ntmps64
    go_upto_region 1 with (first
      | ((with_reducible refine gate_dst (N := 3) rfl ?_); refine wp_bx HB0.out (t := 89) (cs := [.bool true, .int .i64 x.level, .slice (some ⟨fb, 0, none⟩) 8 fc, .int .i64 x.graft, .int .i64 x.cap, .int .i64 x.got, .slice QA ql qc]) rfl (.tmp 0) rfl rfl ?_; intro g3 w1 hb HB1; clear hb HB0)
      | ((with_reducible refine gate_dst (N := 4) rfl ?_); refine wp_bx HB1.out (t := 60) (cs := [.int .i64 (ly : Int), .slice A2 lb c2]) rfl (.tmp 1) rfl rfl ?_; intro g4 w2 hb HB2; clear hb HB1)
      | ((with_reducible refine gate_dst (N := 6) rfl ?_); refine wp_al HB2.out (t := 89) rfl rfl al_H ?_; intro g6 w3 hb HB3; clear hb HB2))
    have y0 : w3.cell? ⟨g3, 0, none⟩ = some (.bool true) := (HB3.out.get 2 rfl).cell 0
    have y1 : w3.cell? ⟨g3, 1, none⟩ = some (.int .i64 x.level) := (HB3.out.get 2 rfl).cell 1
    have y2 : w3.cell? ⟨g3, 2, none⟩ = some (.slice (some ⟨fb, 0, none⟩) 8 fc) := (HB3.out.get 2 rfl).cell 2
    have a0 : w3.cell? ⟨g4, 0, none⟩ = some (.int .i64 (ly : Int)) := (HB3.out.get 1 rfl).cell 0
    have q0 : w3.cell? ⟨fb, ly, none⟩ = some (.int .i64 (x.fro ly)) := (HB3.out.B.cell (p := ⟨fb, _, none⟩) hfb8).trans (HF.out.2 ly HLY.out)
    go_upto_region 3 with (fail)
    clear y0 y1 y2 a0 q0 d1 d2 d3 k0 k1
    go_upto_region 5 with (first
      | ((with_reducible refine gate_dst (N := 34) rfl ?_); refine wp_ld HB3.out 1 rfl rfl (.tmp 4) rfl rfl Tryd.underlying60 (by kernel_rfl) ?_)
      | (go_at_call 68; ((with_reducible refine (data_r (ly : Int) (HRD.out _ HB3.out.B)).mono ?_); rintro e w4 ⟨rfl, hb⟩; rw [HDT.out]; have HB4 := Lib.hid (HB3.out.below hb); clear hb; have y4 : w4.cell? ⟨g3, 4, none⟩ = some (.int .i64 x.cap) := (HB4.out.get 2 rfl).cell 4; have y5 : w4.cell? ⟨g3, 5, none⟩ = some (.int .i64 x.got) := (HB4.out.get 2 rfl).cell 5)))
    clear y4 y5 d4 d5
    go_upto_region 6 with (first
      | ((with_reducible refine gate_dst (N := 49) rfl ?_); refine wp_ld HB4.out 1 rfl rfl (.tmp 4) rfl rfl Tryd.underlying60 (by kernel_rfl) ?_)
      | (go_at_call 68; ((with_reducible refine (data_r (ly : Int) (HRD.out _ HB4.out.B)).mono ?_); rintro e w5 ⟨rfl, hb⟩; rw [HDT.out]; have HB5 := Lib.hid (HB4.out.below hb); clear hb)))
    have hw := HW.out
    have y5 : w5.cell? ⟨g3, 5, none⟩ = some (.int .i64 x.got) := (HB5.out.get 2 rfl).cell 5
    have f5 : w5.frozen? ⟨g3, 5, none⟩ = false := (HB5.out.get 2 rfl).frozen 5
    go_upto_region 7 with (fail)
    have HB6 : Hid (Bs w (w5.setCell ⟨g3, 5, none⟩ (.int .i64 (x.got + 1))) [(g6, 89, [.bool false, .int .i64 0, .slice none 0 0, .int .i64 0, .int .i64 0, .int .i64 0, .slice none 0 0]), (g4, 60, [.int .i64 (ly : Int), .slice A2 lb c2]), (g3, 89, [.bool true, .int .i64 x.level, .slice (some ⟨fb, 0, none⟩) 8 fc, .int .i64 x.graft, .int .i64 x.cap, .int .i64 (x.got + 1), .slice QA ql qc])]) := Lib.hid (HB5.out.set 2 rfl 5 (.int .i64 (x.got + 1)))
    generalize w5.setCell ⟨g3, 5, none⟩ (.int .i64 (x.got + 1)) = w6 at HB6 ⊢
    clear HB5
    clear hw y5 f5
    have y6 : w6.cell? ⟨g3, 6, none⟩ = some (.slice QA ql qc) := (HB6.out.get 2 rfl).cell 6
    have l3 : g3 < w6.heap.size := (HB6.out.get 2 rfl).lt
    go_upto_region 8 with (first
      | (at_builtin; refine wp_qapp (B := w.heap.size) (q := []) (q2 := x.q) rfl (.tmp 55) (.tmp 57) rfl rfl rfl (QOwn.empty HB6.out.B.size) ((HX.out.2.rd).below (HB6.out.B.alloc HB6.out.B.size _)) (by have := HQL.out.2; simp; omega) (Nat.le_trans HB6.out.B.size (by simp)) ?_; intro A7 L7 c7 w7 HQ7 hg7))
    have HB7 : Hid (Bs w w7 [(g6, 89, [.bool false, .int .i64 0, .slice none 0 0, .int .i64 0, .int .i64 0, .int .i64 0, .slice none 0 0]), (g4, 60, [.int .i64 (ly : Int), .slice A2 lb c2]), (g3, 89, [.bool true, .int .i64 x.level, .slice (some ⟨fb, 0, none⟩) 8 fc, .int .i64 x.graft, .int .i64 x.cap, .int .i64 (x.got + 1), .slice QA ql qc])]) := Lib.hid ((HB6.out.below (below_alloc (Below.refl _ _) _)).grown hg7.out (own_block (QOwn.empty HB6.out.B.size)) (by intro b hb; simp only [List.mem_cons, List.not_mem_nil, or_false] at hb; rcases hb with rfl | rfl | rfl <;> (dsimp only; decide)))
    clear hg7 l3 HB6 y6
    have a1 : w7.cell? ⟨g4, 1, none⟩ = some (.slice A2 lb c2) := (HB7.out.get 1 rfl).cell 1
    have hs : (convert 22 9 (.slice A2 lb c2)).run Tryd.prog w7 = .ok (.string sb) w7 := by rw [HSB.out]; exact (HRD.out _ HB7.out.B).str
    go_upto_region 9 with (first
      | (at_builtin; refine wp_qapp (B := w.heap.size) (q := x.q) (q2 := [⟨b, now, false⟩]) rfl (.tmp 59) (.tmp 65) rfl rfl rfl (HQ7.out.below (below_alloc (Below.refl _ _) _)) (by rw [HSB.out]; exact QRd.lit (x := ⟨b, now, false⟩)) (by have := HQL.out.2; simp; omega) (Nat.le_trans HB7.out.B.size (by simp)) ?_; intro A8 L8 c8 w8 HQ8 hg8; have HB8 : Hid (Bs w w8 [(g6, 89, [.bool false, .int .i64 0, .slice none 0 0, .int .i64 0, .int .i64 0, .int .i64 0, .slice none 0 0]), (g4, 60, [.int .i64 (ly : Int), .slice A2 lb c2]), (g3, 89, [.bool true, .int .i64 x.level, .slice (some ⟨fb, 0, none⟩) 8 fc, .int .i64 x.graft, .int .i64 x.cap, .int .i64 (x.got + 1), .slice QA ql qc])]) := Lib.hid ((HB7.out.below (below_alloc (Below.refl _ _) _)).grown hg8.out (own_block (HQ7.out.below (below_alloc (Below.refl _ _) _))) (by intro b hb; simp only [List.mem_cons, List.not_mem_nil, or_false] at hb; rcases hb with rfl | rfl | rfl <;> (dsimp only; decide))); have y6 : w8.cell? ⟨g3, 6, none⟩ = some (.slice QA ql qc) := (HB8.out.get 2 rfl).cell 6; have f6 : w8.frozen? ⟨g3, 6, none⟩ = false := (HB8.out.get 2 rfl).frozen 6; clear hg8 HB7))
    have HB9 : Hid (Bs w (w8.setCell ⟨g3, 6, none⟩ (.slice A8 L8 c8)) [(g6, 89, [.bool false, .int .i64 0, .slice none 0 0, .int .i64 0, .int .i64 0, .int .i64 0, .slice none 0 0]), (g4, 60, [.int .i64 (ly : Int), .slice A2 lb c2]), (g3, 89, [.bool true, .int .i64 x.level, .slice (some ⟨fb, 0, none⟩) 8 fc, .int .i64 x.graft, .int .i64 x.cap, .int .i64 (x.got + 1), .slice A8 L8 c8])]) := Lib.hid (HB8.out.set 2 rfl 6 (.slice A8 L8 c8))
    have HQ9 : Hid (QRef (w8.setCell ⟨g3, 6, none⟩ (.slice A8 L8 c8)) (.slice A8 L8 c8) (x.q ++ [⟨b, now, false⟩])) := Lib.hid (HQ8.out.ref.setH (HB8.out.get 2 rfl))
    generalize w8.setCell ⟨g3, 6, none⟩ (.slice A8 L8 c8) = w9 at HB9 HQ9 ⊢
    clear HB8
    clear y6 f6 a1 hs HQ8 HQ7
    go_wp2_with (first
      | ((with_reducible refine gate_dst (N := 68) rfl ?_); refine wp_ld HB9.out 2 rfl rfl (.tmp 3) rfl rfl Tryd.underlying89 (by kernel_rfl) ?_)
      | ((with_reducible refine gate_store (t := 89) (p := 6) rfl ?_); refine wp_st HB9.out 0 rfl (q := 0) (seg := [.bool true, .int .i64 x.level, .slice (some ⟨fb, 0, none⟩) 8 fc, .int .i64 x.graft, .int .i64 x.cap, .int .i64 (x.got + 1), .slice A8 L8 c8]) rfl rfl rfl rfl rfl (by kernel_rfl) (Nat.le_refl _) (o_cons rfl (o_cons rfl (o_cons rfl (o_cons rfl (o_cons rfl (o_cons rfl (o_cons rfl o_nil))))))) ?_; intro w10 hq hf; have HB10 : Hid (Bs w w10 [(g6, 89, [.bool true, .int .i64 x.level, .slice (some ⟨fb, 0, none⟩) 8 fc, .int .i64 x.graft, .int .i64 x.cap, .int .i64 (x.got + 1), .slice A8 L8 c8]), (g4, 60, [.int .i64 (ly : Int), .slice A2 lb c2]), (g3, 89, [.bool true, .int .i64 x.level, .slice (some ⟨fb, 0, none⟩) 8 fc, .int .i64 x.graft, .int .i64 x.cap, .int .i64 (x.got + 1), .slice A8 L8 c8])]) := hq; have HQ10 := Lib.hid (HQ9.out.stH hf.out); clear hq hf HB9))
    (try simp only [Exit.inBlock, Exit.then])
    refine bodyPost_ret (results_c1 rfl _ _ g6 _ _ _ _ rfl (HB10.out.get 0 rfl) Tryd.underlying89 rfl (show (Tryd.prog.info? 89).map (·.size) = some 7 by kernel_rfl)) rfl ?_
    exact ⟨_, _, _, rfl, ⟨(HX.out.below HB10.out.B).1, HQ10.out⟩, HB10.out.B⟩
end
section
open Go.RowKit Go.Deep Go.Proofs.YtpfpdbbgiimnmaaDoor.Er Go.Proofs.YtpfpdbbgiimnmaaDoor.Mod Go.Proofs.YtpfpdbbgiimnmaaDoorW.PrintWords Go.Proofs.YtpfpdbbgiimnmaaDoorW.PrintLast
theorem run_ldb {o : Oper} {a : Act} {W : World} {g t : Nat} {cs : List Value} {fl : Array Field} (hk : Bk W g t cs) (x : Operand) (ho : o.op = .load t x) (hx : a.eval x = .pointer (some ⟨g, 0, none⟩)) (hu : Tryd.prog.underlying t = some (.struct fl)) (hn : (Tryd.prog.info? t).map (·.size) = some cs.length) : (execOp a.eval o).run Tryd.prog W = .ok (.value (.agg cs.toArray)) W := by
  have hl := run_loadVar_row W g t t cs.toArray (0, 0) _ hk hu rfl (by simpa using hn)
  unfold execOp
  simp only [ho, hx, Instr.loadAt, Instr.sureAddr, Sem.run_bind, Sem.run_pure, Result.andThen_ok, hl]
theorem run_stb {o : Oper} {a : Act} {W : World} {g t t' q : Nat} {cs seg : List Value} (hg : Bk W g t' cs) {x : Tmp} {y : Operand} (ho : o.op = .store t (.tmp x) y) (hx : a.eval (.tmp x) = .pointer (some ⟨g, q, none⟩)) (hy : a.eval y = .agg seg.toArray) (hn : (Tryd.prog.info? t).map (·.size) = some seg.length) (hl : q + seg.length ≤ cs.length) (h1 : ∀ z ∈ seg, z.oneCell' = true) : (execOp a.eval o).run Tryd.prog W = .ok .skip (W.setCells g q seg) := by
  have := run_store_run (P := Tryd.prog) t (.agg seg.toArray) seg hg (by simp [Value.cells]) hn (o := q) (by simpa using hl) h1
  unfold execOp
  simp only [ho, hx, hy, Sem.run_bind, this, Result.andThen_ok, Sem.run_pure]
theorem run_ld2 {o : Oper} {a : Act} {W : World} {g q : Nat} {u v : Value} (h0 : W.cell? ⟨g, q, none⟩ = some u) (h1 : W.cell? ⟨g, q + 1, none⟩ = some v) (x : Operand) (ho : o.op = .load 60 x) (hx : a.eval x = .pointer (some ⟨g, q, none⟩)) : (execOp a.eval o).run Tryd.prog W = .ok (.value (.agg #[u, v])) W := by
  have hl : (loadCells ⟨g, q, none⟩ 2).run Tryd.prog W = .ok #[u, v] W := run_loadCells_list (P := Tryd.prog) (w := W) ⟨g, q, none⟩ [u, v] (fun j z hz => by
    have hadd : (⟨g, q, none⟩ : Addr).add j = ⟨g, q + j, none⟩ := by unfold Addr.add; split <;> simp_all
    rw [hadd]
    match j, hz with
    | 0, hz => rw [Nat.add_zero]; rw [h0]; simpa using hz
    | 1, hz => rw [h1]; simpa using hz
    | j + 2, hz => simp at hz)
  obtain ⟨i, hi, hs⟩ := Option.map_eq_some_iff.1 (show (Tryd.prog.info? 60).map (·.size) = some 2 by kernel_rfl)
  have hagg : (isAgg 60).run Tryd.prog W = .ok true W := by
    unfold isAgg
    rw [Sem.run_bind, run_underlying Tryd.underlying60 W]
    rfl
  have hl2 : (loadVar 60 ⟨g, q, none⟩).run Tryd.prog W = .ok (.agg #[u, v]) W := by simp [loadVar, Sem.run_bind, hagg, sizeOf, typeInfo, hi, hs, hl]
  unfold execOp
  simp only [ho, hx, Instr.loadAt, Instr.sureAddr, Sem.run_bind, Sem.run_pure, Result.andThen_ok, hl2]
theorem FRef.stH {W W1 : World} {v : Value} {f : Nat → Int} {g : Nat} {cs : List Value} (h : FRef W v f) (hf : Bk W g 89 cs ∧ ∀ i, i ≠ g → W1.heap[i]? = W.heap[i]?) : FRef W1 v f := by
  obtain ⟨b, c, cur, e, h1, h2, h3⟩ := h
  refine ⟨b, c, cur, e, h1, (hf.2 b (fun e => ?_)).trans h2, h3⟩
  subst e
  have := hf.1
  unfold Bk at this
  rw [h2] at this
  cases this
theorem HRef.stH {W W1 : World} {x : Ho} {fv qv : Value} {g : Nat} {cs : List Value} (h : HRef W x fv qv) (hf : Bk W g 89 cs ∧ ∀ i, i ≠ g → W1.heap[i]? = W.heap[i]?) : HRef W1 x fv qv := ⟨h.1.stH hf, h.2.stH hf⟩
theorem sendTo_zero (s : Nt) (l : List Dg) : s.sendTo l 0 = s := by unfold Nt.sendTo; simp
theorem sendTo_put (s : Nt) (l : List Dg) (k : Nat) : (s.sendTo l k).put k ((s.h k).send s.now l) = s.sendTo l (k + 1) := by
  unfold Nt.sendTo Nt.put
  congr 1
  funext i
  dsimp only
  by_cases e : i = k
  · subst e; simp
  · by_cases e2 : i < k
    · simp [e, e2, show i < k + 1 by omega]
    · simp [e, e2, show ¬ i < k + 1 by omega]
theorem DgIs.at2 {D : Nat → Prop} {w : World} {A : Option Addr} {m c : Nat} {l : List Dg} (h : DgIs D w (.slice A m c) l) (hD : ∀ k, D k → k < w.heap.size) (j : Nat) (d : Dg) (hj : l[j]? = some d) : ∃ ab ao A2 lb c2, A = some ⟨ab, ao, none⟩ ∧ ab < w.heap.size ∧ w.cell? ⟨ab, ao + j * 2, none⟩ = some (.int .i64 d.layer) ∧ w.cell? ⟨ab, ao + j * 2 + 1, none⟩ = some (.slice A2 lb c2) ∧ RdB D w (.slice A2 lb c2) d.b := by
  obtain ⟨A', c', e1, _, _, h5⟩ := h
  cases e1
  obtain ⟨ab, ao, rfl, hab, h6⟩ := h5 (by rintro rfl; cases hj)
  obtain ⟨bv, k1, k2, h7⟩ := h6 j d hj
  have hs := h7
  obtain ⟨A2, c2, rfl, _⟩ := hs
  exact ⟨ab, ao, A2, _, c2, rfl, hD ab hab, k1, k2, h7⟩
theorem DgIs.lenm {D : Nat → Prop} {w : World} {A : Option Addr} {m c : Nat} {l : List Dg} (h : DgIs D w (.slice A m c) l) : m = l.length ∧ l.length ≤ c ∧ l.length ≤ 4398046511104 := by
  obtain ⟨A', c', e1, h1, h2, _⟩ := h
  cases e1
  exact ⟨rfl, h1, h2⟩
set_option maxHeartbeats 8000000 in
set_option maxRecDepth 100000 in
theorem send_r {D : Nat → Prop} {w : World} {v : Value} {s : Nt} (h : NRef w v s) (hn : s.n ≤ 16) (A : Option Addr) (m cl : Nat) (l : List Dg) (hl : DgIs D w (.slice A m cl) l) (hD : ∀ k, D k → k < w.heap.size) (hbd : ∀ k, k < s.n → (s.h k).level < 8 ∧ 0 ≤ (s.h k).got ∧ (s.h k).got + l.length < 5000000000000 ∧ (s.h k).q.length + l.length < 900000000000) : Calls Tryd.prog 55 #[v, .slice A m cl] w fun e w' => ∃ v', e = .returned v' ∧ NRef w' v' (s.send l) ∧ Below w.heap.size w w' := by
  obtain ⟨b, c, rfl, hc, _⟩ := h.parts
  obtain ⟨n, hnn⟩ : ∃ n, n = s.n := ⟨_, rfl⟩
  obtain ⟨now, hno⟩ : ∃ z, z = s.now := ⟨_, rfl⟩
  rw [← hnn] at hc
  have HN : Hid (NRef w (.agg #[.int .i64 now, .slice (some ⟨b, 0, none⟩) n c]) (s.sendTo l 0)) := Lib.hid (by rw [sendTo_zero, hnn, hno]; exact h)
  have H16 : Hid (∀ k, (s.sendTo l k).n ≤ 16) := Lib.hid (fun _ => hn)
  have HNN := Lib.hid (And.intro hno hnn)
  have HL := Lib.hid (And.intro hl (And.intro hD hbd))
  obtain ⟨hm1, hm2, hm3⟩ := hl.lenm
  have HM := Lib.hid hm1
  rw [← hm1] at hm2 hm3
  have hn16 : n ≤ 16 := by omega
  rw [← hnn, ← hno]
  have HB0 := Lib.hid (Bs.start w)
  clear h hnn hno hn hl hD hbd hm1
  go_enter Tryd.func55, Tryd.ntmps55
  go_wp2_with (first
    | ((with_reducible refine gate_dst (N := 2) rfl ?_); refine wp_bx HB0.out (t := 40) (cs := [.int .i64 now, .slice (some ⟨b, 0, none⟩) n c]) rfl (.tmp 0) rfl rfl ?_; intro g2 w1 hb HB1; clear hb HB0)
    | ((with_reducible refine gate_dst (N := 4) rfl ?_); refine wp_al HB1.out (t := 40) rfl rfl al_T ?_; intro g4 w2 hb HB2; clear hb HB1))
  go_loopg [5, 6, 7] (n + 1) (fun kq v5 v6 v7 wr => ∃ (k b c : Nat), v5 = .int .i64 k ∧ Hid (k ≤ n ∧ kq = n + 1 - k ∧ n ≤ c) ∧ Hid (Bs w wr [(g4, 40, [.int .i64 0, .slice none 0 0]), (g2, 40, [.int .i64 now, .slice (some ⟨b, 0, none⟩) n c])]) ∧ Hid (NRef wr (.agg #[.int .i64 now, .slice (some ⟨b, 0, none⟩) n c]) (s.sendTo l k)))
  case atStart => exact ⟨0, b, c, rfl, Lib.hid ⟨by omega, by omega, hc⟩, HB2, Lib.hid (HN.out.below HB2.out.B)⟩
  case round =>
    rename World => wo
    obtain ⟨k, b, c, rfl, HK, HBr, HNr⟩ := hrel
    clear HN HB2 hc
    by_cases hk : k < n
    · skip
      have HBs := Lib.hid (Bs.start wo)
      have hg1 : Bk wo g2 40 [.int .i64 now, .slice (some ⟨b, 0, none⟩) n c] := HBr.out.get 1 rfl
      have HG1 := Lib.hid hg1
      clear hg1
      obtain ⟨b', FA, fl, fc, QA, ql, qc, e1, e2, e3, hc, hblt, hx, hrow⟩ := HNr.out.host' (k := k) (by show k < s.n; rw [← HNN.out.2]; exact hk)
      cases e1
      rw [sendTo_h] at hx hrow
      have HX := Lib.hid hx
      have HR := Lib.hid (And.intro hblt hrow)
      have HKK := Lib.hid hk
      have HBD := Lib.hid (HL.out.2.2 k (by rw [← HNN.out.2]; exact hk))
      obtain ⟨x, hxx⟩ : ∃ x, x = s.h k := ⟨_, rfl⟩
      have HXX := Lib.hid hxx
      rw [← hxx] at HX HR HBD
      obtain ⟨i0, i1⟩ : (0 : Int) ≤ (k : Int) ∧ (k : Int) < (n : Int) := by omega
      have d0 : decide ((0 : Int) ≤ (k : Int)) = true := decide_eq_true i0
      have d1 : decide ((k : Int) < (n : Int)) = true := decide_eq_true i1
      clear e2 e3 hx hrow hblt hxx
      have a1 : wo.cell? ⟨g2, 1, none⟩ = some (.slice (some ⟨b, 0, none⟩) n c) := (HBr.out.get 1 rfl).cell 1
      have r0 : wo.cell? ⟨b, k * 7, none⟩ = some (.bool x.there) := HR.out.2 0 (by omega)
      have r1 : wo.cell? ⟨b, k * 7 + 1, none⟩ = some (.int .i64 x.level) := HR.out.2 1 (by omega)
      have r2 : wo.cell? ⟨b, k * 7 + 2, none⟩ = some (.slice FA fl fc) := HR.out.2 2 (by omega)
      have r3 : wo.cell? ⟨b, k * 7 + 3, none⟩ = some (.int .i64 x.graft) := HR.out.2 3 (by omega)
      have r4 : wo.cell? ⟨b, k * 7 + 4, none⟩ = some (.int .i64 x.cap) := HR.out.2 4 (by omega)
      have r5 : wo.cell? ⟨b, k * 7 + 5, none⟩ = some (.int .i64 x.got) := HR.out.2 5 (by omega)
      have r6 : wo.cell? ⟨b, k * 7 + 6, none⟩ = some (.slice QA ql qc) := HR.out.2 6 (by omega)
      go_wp2_with (first
        | ((with_reducible refine gate_dst (N := 6) rfl ?_); refine wp_al HBs.out (t := 89) rfl rfl al_H ?_; intro g6 w21 hb HB21; clear hb HBs)
        | ((with_reducible refine gate_store (t := 89) (p := 6) rfl ?_); refine wp_st HB21.out 0 rfl (q := 0) (seg := [.bool x.there, .int .i64 x.level, .slice FA fl fc, .int .i64 x.graft, .int .i64 x.cap, .int .i64 x.got, .slice QA ql qc]) rfl rfl rfl rfl rfl (by kernel_rfl) (Nat.le_refl _) (o_cons rfl (o_cons rfl (o_cons rfl (o_cons rfl (o_cons rfl (o_cons rfl (o_cons rfl o_nil))))))) ?_; intro w22 hq hf; have HB22 : Hid (Bs wo w22 [(g6, 89, [.bool x.there, .int .i64 x.level, .slice FA fl fc, .int .i64 x.graft, .int .i64 x.cap, .int .i64 x.got, .slice QA ql qc])]) := hq; clear hq hf HB21))
      clear a1 r0 r1 r2 r3 r4 r5 r6
      go_loopg [7] (m + 1) (fun kq v7 wi => ∃ (j : Nat) (QA : Option Addr) (ql qc : Nat) (y : Ho), v7 = .int .i64 j ∧ Hid (j ≤ m ∧ kq = m + 1 - j ∧ y = x.send now (l.take j)) ∧ Hid (Bs wo wi [(g6, 89, [.bool (y).there, .int .i64 (y).level, .slice FA fl fc, .int .i64 (y).graft, .int .i64 (y).cap, .int .i64 (y).got, .slice QA ql qc])]) ∧ Hid (HRef wi y (.slice FA fl fc) (.slice QA ql qc)))
      case atStart => exact ⟨0, QA, ql, qc, x, rfl, Lib.hid ⟨by omega, by omega, rfl⟩, HB22, Lib.hid (HX.out.below HB22.out.B)⟩
      case round =>
        rename World => wi
        obtain ⟨j, QA, ql, qc, y, rfl, HJ, HBi, HY⟩ := hrel
        clear HB22 HX
        by_cases hj : j < m
        · skip
          have hjl : j < l.length := by rw [← HM.out]; exact hj
          obtain ⟨d, hd⟩ : ∃ d, l[j]? = some d := ⟨l[j], List.getElem?_eq_getElem _⟩
          obtain ⟨ab, ao, A2, lb, c2, rfl, hab, k1, k2, hrd⟩ := HL.out.1.at2 HL.out.2.1 j d hd
          have HJL := Lib.hid (And.intro hjl hd)
          have HRD : Hid (∀ w', Below w.heap.size w w' → RdB D w' (.slice A2 lb c2) d.b ∧ w'.cell? ⟨ab, ao + j * 2, none⟩ = some (.int .i64 d.layer) ∧ w'.cell? ⟨ab, ao + j * 2 + 1, none⟩ = some (.slice A2 lb c2)) := Lib.hid (fun w' hb => ⟨hrd.keep (fun k hk => hb.block k (HL.out.2.1 k hk)), (hb.cell (p := ⟨ab, _, none⟩) hab).trans k1, (hb.cell (p := ⟨ab, _, none⟩) hab).trans k2⟩)
          have HBW : Hid (∀ w', Below wo.heap.size wo w' → Below w.heap.size w w' ∧ w'.cell? ⟨g2, 0, none⟩ = some (.int .i64 now)) := Lib.hid (fun w' hb => ⟨HBr.out.B.trans (hb.mono HBr.out.B.size), (hb.cell (p := ⟨g2, 0, none⟩) (HBr.out.get 1 rfl).lt).trans ((HBr.out.get 1 rfl).cell 0)⟩)
          have dj : decide ((j : Int) < (m : Int)) = true := decide_eq_true (by omega)
          have j0 : decide ((0 : Int) ≤ (j : Int)) = true := decide_eq_true (by omega)
          have j1 : j < m := hj
          have HYB : Hid (y.level < 8 ∧ (0 ≤ y.got ∧ y.got < 5000000000000) ∧ y.q.length < 900000000000) := Lib.hid (by
            have hb := send_bd now (l.take j) x
            rw [← HJ.out.2.2] at hb
            have hlt : (l.take j).length = j := by rw [List.length_take]; omega
            rw [hlt] at hb
            have := HBD.out
            omega)
          clear hrd k1 k2 hab hd hjl
          go_upto_region 8 with (fail)
          refine start_ (n := 9) (S := fun w' => Bs wo w' [(g6, 89, [.bool y.there, .int .i64 y.level, .slice FA fl fc, .int .i64 y.graft, .int .i64 y.cap, .int .i64 y.got, .slice QA ql qc])] ∧ HRef w' y (.slice FA fl fc) (.slice QA ql qc) ∧ w'.cell? ⟨g2, 0, none⟩ = some (.int .i64 now) ∧ w'.cell? ⟨ab, ao + j * 2, none⟩ = some (.int .i64 d.layer) ∧ w'.cell? ⟨ab, ao + j * 2 + 1, none⟩ = some (.slice A2 lb c2)) (ds := [8]) #[false, false, false, false, false, false, false, false, false] (by kernel_rfl) rfl rfl ⟨HBi.out.below (Below.refl _ _).drew, HY.out.below (Below.refl _ _).drew, (HBW.out _ (HBi.out.below (Below.refl _ _).drew).B).2, (HRD.out _ (HBW.out _ (HBi.out.below (Below.refl _ _).drew).B).1).2.1, (HRD.out _ (HBW.out _ (HBi.out.below (Below.refl _ _).drew).B).1).2.2⟩ (fun hHeld => ?_)
          refine take_ (i := 0) (N := some 26) (v := .agg #[.bool y.there, .int .i64 y.level, .slice FA fl fc, .int .i64 y.graft, .int .i64 y.cap, .int .i64 y.got, .slice QA ql qc]) (bm_ 9 0x1) rfl rfl (by kernel_rfl) (fun _ _ _ h => h) (Or.inl ⟨by rfl, fun w' hs => run_ldb (hs.1.get 0 rfl) (.tmp 6) rfl rfl Tryd.underlying89 (by kernel_rfl)⟩) hHeld rfl ?_
          refine nm_ 26 ?_
          refine pu_ 1 27 (bm_ 9 0x3) ?_
          refine pu_ 2 28 (bm_ 9 0x7) ?_
          refine pu_ 3 29 (bm_ 9 0xf) ?_
          refine take_ (i := 4) (N := some 30) (v := .agg #[.int .i64 d.layer, .slice A2 lb c2]) (bm_ 9 0x1f) rfl rfl (by kernel_rfl) (fun _ _ _ h => h) (Or.inl ⟨by rfl, fun w' hs => run_ld2 hs.2.2.2.1 hs.2.2.2.2 (.tmp 29) rfl rfl⟩) hHeld rfl ?_
          refine nm_ 30 ?_
          refine pu_ 5 31 (bm_ 9 0x3f) ?_
          refine tk_ 6 32 (bm_ 9 0x7f) hHeld ?_
          refine on_ 7 (some 33) (bm_ 9 0xff) fun K hK => ?_
          refine gd_ Tryd.func64 (gets_r hHeld.2.1 d.layer d.b (HRD.out _ (HBW.out _ hHeld.1.B).1).1 (fun k hk => Nat.lt_of_lt_of_le (HL.out.2.1 k hk) (HBW.out _ hHeld.1.B).1.size) now HYB.out.1 HYB.out.2.1 HYB.out.2.2) ?_
          rintro e w9 ⟨A9, L9, c9, rfl, hy9, hb⟩
          refine ⟨_, rfl, ?_⟩
          have hHeld9 := hHeld.1.below hb
          have hS9 : Bs wo w9 [(g6, 89, [.bool y.there, .int .i64 y.level, .slice FA fl fc, .int .i64 y.graft, .int .i64 y.cap, .int .i64 y.got, .slice QA ql qc])] ∧ HRef w9 y (.slice FA fl fc) (.slice QA ql qc) ∧ w9.cell? ⟨g2, 0, none⟩ = some (.int .i64 now) ∧ w9.cell? ⟨ab, ao + j * 2, none⟩ = some (.int .i64 d.layer) ∧ w9.cell? ⟨ab, ao + j * 2 + 1, none⟩ = some (.slice A2 lb c2) := ⟨hHeld9, hHeld.2.1.below hb, (HBW.out _ hHeld9.B).2, (HRD.out _ (HBW.out _ hHeld9.B).1).2.1, (HRD.out _ (HBW.out _ hHeld9.B).1).2.2⟩
          have HY9 := Lib.hid hy9
          clear hb hy9
          refine hK.out _ _ hS9 (fun hHeldA => ?_)
          clear hK K hHeld hHeld9 hS9
          refine nm_ 33 ?_
          refine la_ 8 none (bm_ 9 0x1ff) fun K hK => ?_
          refine skip_ (by rfl) rfl (w1 := w9.setCells g6 0 (hoR (y.send1 now ⟨d.layer, d.b⟩) (.slice FA fl fc) (.slice A9 L9 c9))) (run_stb (hHeldA.1.get 0 rfl) rfl rfl rfl (by kernel_rfl) (by simp [hoR]) (hoR_one rfl rfl)) ?_
          refine hK.out _ _ ?_
          have HBN : Hid (Bs wo (w9.setCells g6 0 (hoR (y.send1 now ⟨d.layer, d.b⟩) (.slice FA fl fc) (.slice A9 L9 c9))) [(g6, 89, hoR (y.send1 now ⟨d.layer, d.b⟩) (.slice FA fl fc) (.slice A9 L9 c9))]) := Lib.hid (by
            have := hHeldA.1.seg 0 rfl 0 (hoR (y.send1 now ⟨d.layer, d.b⟩) (.slice FA fl fc) (.slice A9 L9 c9)) (by simp [hoR])
            exact this)
          have HYN : Hid (HRef (w9.setCells g6 0 (hoR (y.send1 now ⟨d.layer, d.b⟩) (.slice FA fl fc) (.slice A9 L9 c9))) (y.send1 now ⟨d.layer, d.b⟩) (.slice FA fl fc) (.slice A9 L9 c9)) := Lib.hid (HRef.stH HY9.out ⟨hHeldA.1.get 0 rfl, (setCells_blk w9 g6 _ 0).2.2.2.2⟩)
          generalize (w9.setCells g6 0 (hoR (y.send1 now ⟨d.layer, d.b⟩) (.slice FA fl fc) (.slice A9 L9 c9))) = w10 at HBN HYN ⊢
          clear hK K hHeldA HY9
          refine done_ (by kernel_rfl) ?_
          go_wp2
          go_roundg (m - j)
          case measure => have := HJ.out; omega
          case rel => exact ⟨j + 1, A9, L9, c9, _, by go_num, Lib.hid ⟨by omega, by omega, by rw [HJ.out.2.2, takeL_snoc HJL.out.2, send_snoc]⟩, HBN, HYN⟩
        · skip
          have hjm : j = m := by have := HJ.out; omega
          have HYE : Hid (y = x.send now l) := Lib.hid (by have := HJ.out.2.2; rw [hjm, HM.out, List.take_length] at this; exact this)
          have dj : decide ((j : Int) < (m : Int)) = false := decide_eq_false (by omega)
          clear hjm
          go_upto_region 9 with (fail)
          clear dj hj
          have y0 : wi.cell? ⟨g6, 0, none⟩ = some (.bool y.there) := (HBi.out.get 0 rfl).cell 0
          have y1 : wi.cell? ⟨g6, 1, none⟩ = some (.int .i64 y.level) := (HBi.out.get 0 rfl).cell 1
          have y2 : wi.cell? ⟨g6, 2, none⟩ = some (.slice FA fl fc) := (HBi.out.get 0 rfl).cell 2
          have y3 : wi.cell? ⟨g6, 3, none⟩ = some (.int .i64 y.graft) := (HBi.out.get 0 rfl).cell 3
          have y4 : wi.cell? ⟨g6, 4, none⟩ = some (.int .i64 y.cap) := (HBi.out.get 0 rfl).cell 4
          have y5 : wi.cell? ⟨g6, 5, none⟩ = some (.int .i64 y.got) := (HBi.out.get 0 rfl).cell 5
          have y6 : wi.cell? ⟨g6, 6, none⟩ = some (.slice QA ql qc) := (HBi.out.get 0 rfl).cell 6
          have HN9 : Hid (NRef wi (.agg #[.int .i64 now, .slice (some ⟨b, 0, none⟩) n c]) (s.sendTo l k) ∧ HRef wi y (.slice FA fl fc) (.slice QA ql qc)) := Lib.hid ⟨HNr.out.below HBi.out.B, HY.out⟩
          go_wp2_with (first
            | ((with_reducible refine gate_dst (N := 34) rfl ?_); refine wp_ldk (HG1.out.below HBi.out.B) rfl (.tmp 2) rfl rfl Tryd.underlying40 (by kernel_rfl) ?_)
            | (go_at_call 54; refine (with_calls HN9.out.1 (H16.out k) k (by show k < s.n; rw [← HNN.out.2]; exact HKK.out) y (.slice FA fl fc) (.slice QA ql qc) HN9.out.2).mono ?_; rintro e w61 ⟨v', rfl, hv, hb⟩; rw [HYE.out, HXX.out, HNN.out.1, sendTo_put] at hv; obtain ⟨b5, c5, rfl, hc5⟩ := hv.spell (now := now) (n := n) HNN.out.1 HNN.out.2; have HV := Lib.hid hv; have HC5 := Lib.hid hc5; have HB61 := Lib.hid (HBr.out.below (HBi.out.below hb).B); clear hv hb hc5 HBi)
            | ((with_reducible refine gate_store (t := 40) (p := 2) rfl ?_); refine wp_st HB61.out 1 rfl (q := 0) (seg := [.int .i64 now, .slice (some ⟨b5, 0, none⟩) n c5]) rfl rfl rfl rfl rfl (by kernel_rfl) (Nat.le_refl _) (o_cons rfl (o_cons rfl o_nil)) ?_; intro w62 hq hf; have HB62 : Hid (Bs w w62 [(g4, 40, [.int .i64 0, .slice none 0 0]), (g2, 40, [.int .i64 now, .slice (some ⟨b5, 0, none⟩) n c5])]) := hq; have HV2 := Lib.hid (HV.out.st hf.out); clear hq hf HB61))
          go_roundg (n - k)
          case measure => have := HK.out; omega
          case rel => exact ⟨k + 1, b5, c5, by go_num, Lib.hid ⟨by omega, by omega, HC5.out⟩, HB62, HV2⟩
    · skip
      have hkn : k = n := by have := HK.out; omega
      have HNE : Hid (NRef wo (.agg #[.int .i64 now, .slice (some ⟨b, 0, none⟩) n c]) (s.send l)) := Lib.hid (by have := HNr.out; rw [hkn, HNN.out.2] at this; rw [HNN.out.2]; exact this)
      have d1 : decide ((k : Int) < (n : Int)) = false := decide_eq_false (by omega)
      clear HNr hkn
      have a1 : wo.cell? ⟨g2, 1, none⟩ = some (.slice (some ⟨b, 0, none⟩) n c) := (HBr.out.get 1 rfl).cell 1
      go_upto_region 10 with (fail)
      clear a1 d1 hk
      go_wp2_with (first
        | ((with_reducible refine gate_dst (N := 38) rfl ?_); refine wp_ld HBr.out 1 rfl rfl (.tmp 2) rfl rfl Tryd.underlying40 (by kernel_rfl) ?_)
        | ((with_reducible refine gate_store (t := 40) (p := 4) rfl ?_); refine wp_st HBr.out 0 rfl (q := 0) (seg := [.int .i64 now, .slice (some ⟨b, 0, none⟩) n c]) rfl rfl rfl rfl rfl (by kernel_rfl) (Nat.le_refl _) (o_cons rfl (o_cons rfl o_nil)) ?_; intro w3 hq hf; have HB3 : Hid (Bs w w3 [(g4, 40, [.int .i64 now, .slice (some ⟨b, 0, none⟩) n c]), (g2, 40, [.int .i64 now, .slice (some ⟨b, 0, none⟩) n c])]) := hq; have HNG := Lib.hid (HNE.out.st hf.out); clear hq hf HBr))
      (try simp only [Exit.inBlock, Exit.then])
      refine bodyPost_ret (results_c1 rfl _ _ g4 _ _ _ _ rfl (HB3.out.get 0 rfl) Tryd.underlying40 rfl (show (Tryd.prog.info? 40).map (·.size) = some 2 by kernel_rfl)) rfl ?_
      exact ⟨_, rfl, HNG.out, HB3.out.B⟩
end
end Go.Proofs.YtpfpdbbgiimnmaaDoor.Net
