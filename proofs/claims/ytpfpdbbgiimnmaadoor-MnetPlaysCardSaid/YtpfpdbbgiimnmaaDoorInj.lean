/- Inject of (mnet.Net) by its contract. Conditions: a net, bytes that are not its own. -/
import Derived.Test.YtpfpdbbgiimnmaaDoorPg
import Derived.Test.YtpfpdbbgiimnmaaDoorDropC
namespace Go.Proofs.YtpfpdbbgiimnmaaDoor.Net
set_option linter.unusedSimpArgs false
set_option linter.unusedVariables false
open Go.RowKit Go.Deep Go.Proofs.YtpfpdbbgiimnmaaDoor.Er Go.Proofs.YtpfpdbbgiimnmaaDoor.Mod Go.Proofs.YtpfpdbbgiimnmaaDoorW.PrintWords Go.Proofs.YtpfpdbbgiimnmaaDoorW.PrintLast
theorem inject_no (s : Nt) (i : Int) (b : List Int) (h : ¬ s.injectE i b = 0) : s.inject i b = s := if_neg h
set_option maxHeartbeats 4000000 in
set_option maxRecDepth 100000 in
theorem inject_calls {bb : Nat → Prop} {w : World} {nb hb : Nat} {qv : Nat → Value} {s : Nt} {D : Nat → Prop} (h : IsNet bb w nb hb qv s) (i : Int) (v : Value) (lb : List Int) (hl : RdB D w v lb) (hD : ∀ k, D k → k < w.heap.size) (hq : ∀ k, k < s.n → (s.h k).q.length < 5000000000000) :
    Calls Tryd.prog 8 #[.pointer (some ⟨nb, 0, none⟩), .int .i64 i, v] w fun e w' => ∃ ev, e = .returned ev ∧ ErR w' ev (er injectN (s.injectE i lb)) ∧ NetP bb w nb hb s.n qv (s.inject i lb) w' := by
  have HH := Lib.hid h
  have HRD0 := Lib.hid hl
  obtain ⟨A2, c2, rfl, hl1, hl2, _, _⟩ := hl
  obtain ⟨lbn, hlbn⟩ : ∃ lbn, lbn = lb.length := ⟨_, rfl⟩
  by_cases ha : s.at i = 0
  rotate_left
  · obtain ⟨a1, a2⟩ := at_no ha
    have he : s.injectE i lb = 1 := (if_neg ha).trans a1
    rw [inject_no s i lb (by rw [he]; decide), he]
    have HI := Lib.hid a2
    rw [← hlbn] at hl1 hl2 ⊢
    clear ha a1 a2 he h hq hD hlbn
    go_enter Tryd.func8, Tryd.ntmps8
    go_wp2_with (first | (go_at_call 30; refine (at_bad HH.out i HI.out).mono ?_; rintro e w1 ⟨rfl, hw1⟩; rw [hw1]; clear hw1) | (go_at_call 31; refine (fault_New.calls _ 1 (er injectN 1) _ rfl).mono ?_; rintro e w2 ⟨ev, rfl, h1, h2⟩; have HE := Lib.hid (And.intro h1 h2); clear h1 h2))
    go_ret
    exact ⟨_, rfl, HE.out.1, (NetP.refl HH.out).below HE.out.2⟩
  obtain ⟨k, rfl, hk⟩ := at_of ha
  have hE : s.injectE (k : Int) lb = if (s.h k).there = true then (if 128 < lb.length then 3 else 0) else 7 := by
    unfold Nt.injectE; rw [if_pos ha, Int.toNat_natCast]
  have t0 := h.cell hk 0 (by omega)
  simp only [hoCell, Nat.add_zero] at t0
  by_cases hb1 : (s.h k).there = true
  rotate_left
  · have he : s.injectE (k : Int) lb = 7 := hE.trans (if_neg hb1)
    rw [inject_no s _ lb (by rw [he]; decide), he]
    simp only [hb1] at t0
    rw [← hlbn] at hl1 hl2 ⊢
    clear ha he h hq hD hE hlbn
    go_enter Tryd.func8, Tryd.ntmps8
    go_wp2_with (first | (go_at_call 30; refine (at_ok HH.out k hk).mono ?_; rintro e w1 ⟨rfl, hw1⟩; rw [hw1]; clear hw1) | (go_at_call 31; refine (fault_New.calls _ 7 (er injectN 7) _ rfl).mono ?_; rintro e w2 ⟨ev, rfl, h1, h2⟩; have HE := Lib.hid (And.intro h1 h2); clear h1 h2))
    go_ret
    exact ⟨_, rfl, HE.out.1, (NetP.refl HH.out).below HE.out.2⟩
  simp only [hb1] at t0
  rw [if_pos hb1] at hE
  by_cases hb2 : 128 < lb.length
  · have he : s.injectE (k : Int) lb = 3 := hE.trans (if_pos hb2)
    rw [inject_no s _ lb (by rw [he]; decide), he]
    rw [← hlbn] at hl1 hl2 hb2 ⊢
    clear ha he h hq hD hE hb1 hlbn
    go_enter Tryd.func8, Tryd.ntmps8
    go_wp2_with (first | (go_at_call 30; refine (at_ok HH.out k hk).mono ?_; rintro e w1 ⟨rfl, hw1⟩; rw [hw1]; clear hw1) | (go_at_call 31; refine (fault_New.calls _ 3 (er injectN 3) _ rfl).mono ?_; rintro e w2 ⟨ev, rfl, h1, h2⟩; have HE := Lib.hid (And.intro h1 h2); clear h1 h2))
    go_ret
    exact ⟨_, rfl, HE.out.1, (NetP.refl HH.out).below HE.out.2⟩
  have he : s.injectE (k : Int) lb = 0 := hE.trans (if_neg hb2)
  rw [show s.inject (k : Int) lb = _ from if_pos he, he, Int.toNat_natCast]
  have z0 := h.now
  have z13 := h.cell (k := k) hk 13 (by omega)
  have HKS := Lib.hid hk
  obtain ⟨A3, L3, c3, hqv⟩ : ∃ A3 L3 c3, qv k = .slice A3 L3 c3 := by obtain ⟨_, _, e, _⟩ := h.qs k hk; obtain ⟨A3, c3, e2, _⟩ := e.val; exact ⟨A3, _, c3, e2⟩
  have HQV := Lib.hid hqv
  simp only [hoCell] at z13
  rw [hqv] at z13
  have HRD : Hid (∀ w', Below w.heap.size w w' → RdB D w' (.slice A2 lbn c2) lb) := Lib.hid (fun w' hb' => by rw [hlbn]; exact HRD0.out.keep (fun i hi => hb'.block i (hD i hi)))
  have HH3 : Hid (IsNet bb w nb hb qv s ∧ Stp bb w nb hb s.n qv bb w qv) := Lib.hid ⟨h, Stp.refl _ _ _ _ _ _⟩
  have HQL : Hid ((s.h k).q.length ≤ 5000000000000) := Lib.hid (by have := hq k hk; omega)
  have HS : Hid (∀ w' w'' : World, (w'.cell? ⟨hb, k * 14 + 13, none⟩ = some (.slice A3 L3 c3) ∧ True ∧ w'.cell? ⟨nb, 0, none⟩ = some (.int .i64 s.now) ∧ Below w.heap.size w w') → Below w'.heap.size w' w'' → (w''.cell? ⟨hb, k * 14 + 13, none⟩ = some (.slice A3 L3 c3) ∧ True ∧ w''.cell? ⟨nb, 0, none⟩ = some (.int .i64 s.now) ∧ Below w.heap.size w w'')) := Lib.hid (fun w' w'' h hb' =>
    ⟨(hb'.cell (World.block_lt_of_cell? w' _ h.1)).trans h.1, trivial, (hb'.cell (World.block_lt_of_cell? w' _ h.2.2.1)).trans h.2.2.1, h.2.2.2.trans (hb'.mono h.2.2.2.size)⟩)
  rw [← hlbn] at hl1 hl2 hb2 ⊢
  clear ha he h hq hD hE hb1 hlbn hqv
  go_enter Tryd.func8, Tryd.ntmps8
  go_upto_region 8 with (first | (go_at_call 30; refine (at_ok HH.out k hk).mono ?_; rintro e w1 ⟨rfl, hw1⟩; rw [hw1]; clear hw1))
  refine start_ (n := 18) (S := fun w' => w'.cell? ⟨hb, k * 14 + 13, none⟩ = some (.slice A3 L3 c3) ∧ True ∧ w'.cell? ⟨nb, 0, none⟩ = some (.int .i64 s.now) ∧ Below w.heap.size w w') (ds := [14, 17]) #[false, false, false, false, false, false, false, false, false, false, false, false, false, false, false, false, false, false] (by kernel_rfl) rfl rfl ⟨z13, trivial, z0, (Below.refl _ _).drew⟩ (fun hHeld => ?_)
  clear z13 z0 t0
  generalize w.drew = w4 at hHeld ⊢
  refine pu_ 0 30 (bm_ 18 0x1) ?_
  refine pu_ 1 31 (bm_ 18 0x3) ?_
  refine pu_ 2 32 (bm_ 18 0x7) ?_
  refine pu_ 3 33 (bm_ 18 0xf) ?_
  refine tk_ 4 34 (bm_ 18 0x1f) hHeld ?_
  refine pu_ 6 36 (bm_ 18 0x5f) ?_
  refine pu_ 8 38 (bm_ 18 0x15f) ?_
  refine pu_ 9 39 (bm_ 18 0x35f) ?_
  refine pu_ 10 40 (bm_ 18 0x75f) ?_
  refine tk_ 11 41 (bm_ 18 0xf5f) hHeld ?_
  refine on_ 5 (some 35) (bm_ 18 0xf7f) fun K hK => ?_
  refine value_ (by rfl) rfl (v := .slice (some ⟨w4.heap.size, 0, none⟩) 0 0) (w1 := w4.alloc (.cells #[] 5)) (by first | rfl | go_simp) ?_
  refine hK.out _ _ (HS.out _ _ hHeld ((Below.refl _ _).alloc (Nat.le_refl _) _)) (fun hHeld5 => ?_)
  clear hK K
  generalize (w4.alloc (.cells #[] 5)) = w5 at hHeld5 ⊢
  generalize w4.heap.size = g5
  refine nm_ 35 ?_
  obtain ⟨v8, w8, hr8, hRB, hB8⟩ := (HRD.out _ hHeld5.2.2.2).copy 22 ⟨g5, 0, none⟩ (fun b => bb b ∨ w.heap.size ≤ b) (fun i hi => .inr (Nat.le_trans hHeld5.2.2.2.size hi))
  obtain ⟨A8, L8, c8, rfl⟩ : ∃ A8 L8 c8, v8 = .slice A8 L8 c8 := by obtain ⟨A8, c8, e, _⟩ := hRB; exact ⟨A8, _, c8, e⟩
  have HRB := Lib.hid hRB
  clear hRB
  refine on_ 7 (some 37) (bm_ 18 0xfff) fun K hK => ?_
  refine value_ (by rfl) rfl (run_app rfl (by rfl) (by rfl) hr8) ?_
  refine hK.out _ _ (HS.out _ _ hHeld5 hB8) (fun hHeld8 => ?_)
  clear hK K hr8 hB8 hHeld5 hHeld
  refine nm_ 37 ?_
  refine pu_ 12 42 (bm_ 18 0x1fff) ?_
  refine on_ 13 (some 43) (bm_ 18 0x3fff) fun K hK => ?_
  refine value_ (by rfl) rfl (v := .slice (some ⟨w8.heap.size, 0, none⟩) 1 1) (w1 := w8.alloc (.cells #[.slice A8 L8 c8, .int .i64 s.now, .bool false] 74)) (by first | rfl | go_simp) ?_
  have hB9 : Below w8.heap.size w8 (w8.alloc (.cells #[.slice A8 L8 c8, .int .i64 s.now, .bool false] 74)) := (Below.refl _ _).alloc (Nat.le_refl _) _
  refine hK.out _ _ (HS.out _ _ hHeld8 hB9) (fun hHeld9 => ?_)
  clear hK K
  have HC9 : Hid (∀ j u, ([.slice A8 L8 c8, .int .i64 s.now, .bool false] : List Value)[j]? = some u → (w8.alloc (.cells #[.slice A8 L8 c8, .int .i64 s.now, .bool false] 74)).cell? ((⟨w8.heap.size, 0, none⟩ : Addr).add j) = some u) := Lib.hid (fun j u hu => by
    have hadd : (⟨w8.heap.size, 0, none⟩ : Addr).add j = ⟨w8.heap.size, j, none⟩ := by unfold Addr.add; split <;> simp_all
    rw [hadd, World.cell?_alloc_at _ _ _ _ rfl]
    simpa using hu)
  have HRB9 := Lib.hid (HRB.out.keep (bb' := fun b => bb b ∨ w.heap.size ≤ b) (fun b cur e1 e2 => ⟨hB9.block b (lt_of e2), e1⟩))
  clear hB9 hHeld8 HRB
  generalize (w8.alloc (.cells #[.slice A8 L8 c8, .int .i64 s.now, .bool false] 74)) = w9 at hHeld9 HC9 HRB9 ⊢
  generalize w8.heap.size = g9 at HC9 ⊢
  refine nm_ 43 ?_
  have hN9 := HH3.out.1.below hHeld9.2.2.2
  obtain ⟨v15, w15, hr15, hQ15, hf15, ho15⟩ := QIs.append (bb' := fun b => bb b ∨ w.heap.size ≤ b) (hN9.qs k HKS.out) HQL.out 67 ⟨g9, 0, none⟩ 1 ⟨lb, s.now, false⟩ (.slice A8 L8 c8) HC9.out HRB9.out (fun b e _ => .inl e) (fun b cur e1 e2 => hN9.no_bytes (.inr (.inr ⟨k, HKS.out, e1⟩)) cur e2) rfl
  obtain ⟨A15, L15, c15, rfl⟩ : ∃ A15 L15 c15, v15 = .slice A15 L15 c15 := by obtain ⟨_, _, e, _⟩ := hQ15; obtain ⟨A15, c15, e2, _⟩ := e.val; exact ⟨A15, _, c15, e2⟩
  have HF15 : Hid (NetP bb w nb hb s.n qv (s.put k { s.h k with q := (s.h k).q ++ [⟨lb, s.now, false⟩] }) (w15.setCell ⟨hb, k * 14 + 13, none⟩ (.slice A15 L15 c15))) := Lib.hid (NetP.putQ HH3.out.1 HH3.out.2 rfl HKS.out ((Fr.of_below hHeld9.2.2.2).trans hf15 (fun _ _ e => e)) (fun b e _ => .inl e) (fun b e => e) hQ15 (fun b e => (ho15 b e).elim .inl (fun e2 => .inr (Nat.le_trans hHeld9.2.2.2.size e2))) rfl)
  have h15 : w15.heap[hb]? = w9.heap[hb]? := hf15.block hb hN9.hos.lt (fun e => (hN9.nb_q HKS.out).2 e)
  have q13 : w15.cell? ⟨hb, k * 14 + 13, none⟩ = some (.slice A3 L3 c3) := (cell_blk (a := ⟨hb, _, none⟩) h15).trans hHeld9.1
  have q14 : w15.frozen? ⟨hb, k * 14 + 13, none⟩ = false := (hN9.hos.of_block h15).frozen _
  rw [HQV.out] at hr15
  clear hN9 hQ15 hf15 ho15 h15 HC9 HRB9
  refine la_ 14 (some 44) (bm_ 18 0x7fff) fun K hK => ?_
  refine value_ (by rfl) rfl (run_app rfl (by rfl) (by rfl) hr15) ?_
  refine hK.out _ _ ?_
  clear hK K hr15 hHeld9
  refine nm_ 44 ?_
  refine pu_ 15 45 (bm_ 18 0xffff) ?_
  refine pu_ 16 46 (bm_ 18 0x1ffff) ?_
  refine la_ 17 none (bm_ 18 0x3ffff) fun K hK => ?_
  refine skip_ (by rfl) rfl (w1 := w15.setCell ⟨hb, k * 14 + 13, none⟩ (.slice A15 L15 c15)) (by go_simp) ?_
  refine hK.out _ _ ?_
  clear hK K q13 q14
  generalize (w15.setCell ⟨hb, k * 14 + 13, none⟩ (.slice A15 L15 c15)) = w16 at HF15 ⊢
  refine done_ (by kernel_rfl) ?_
  go_wp2_with (first | (go_at_call 31; refine (fault_New.calls _ 0 (er injectN 0) _ rfl).mono ?_; rintro e w2 ⟨ev, rfl, h1, h2⟩; have HE := Lib.hid (And.intro h1 h2); clear h1 h2))
  go_ret
  exact ⟨_, rfl, HE.out.1, HF15.out.below HE.out.2⟩
end Go.Proofs.YtpfpdbbgiimnmaaDoor.Net
