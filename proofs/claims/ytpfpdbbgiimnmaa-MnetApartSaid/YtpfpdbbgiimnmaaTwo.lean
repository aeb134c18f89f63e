/- TWO NETS: what is done to host 1 says nothing to host 0; two nets side by side in memory. Conditions: nets of two hosts. -/
import Derived.Test.YtpfpdbbgiimnmaaCallsA
namespace Go.Proofs.Ytpfpdbbgiimnmaa.Net
set_option linter.unusedSimpArgs false
set_option linter.unusedVariables false
open Go.RowKit Go.Deep Go.Proofs.Ytpfpdbbgiimnmaa.Er Go.Proofs.Ytpfpdbbgiimnmaa.Mod Go.Proofs.YtpfpdbbgiimnmaaW.PrintWords Go.Proofs.YtpfpdbbgiimnmaaW.PrintLast
/-! ### plain -/
/-- Host 0 is the same, and the tick. -/
def Al (s t : Nt) : Prop := s.n = 2 ∧ t.n = 2 ∧ s.h 0 = t.h 0 ∧ s.now = t.now
theorem put_0 (s : Nt) (k : Nat) (x : Ho) (hk : k ≠ 0) : (s.put k x).h 0 = s.h 0 := if_neg (fun e => hk e.symm)
theorem toNat_ne {s : Nt} {i : Int} (ha : s.at i = 0) (hi : i ≠ 0) : i.toNat ≠ 0 := by
  obtain ⟨k, rfl, _⟩ := at_of ha
  rw [Int.toNat_natCast]; omega
theorem ite_h0 {s : Nt} {E : Int} {i : Int} {x : Ho} (hE : ¬ s.at i = 0 → E = s.at i) (hi : i ≠ 0) : (if E = 0 then s.put i.toNat x else s).h 0 = s.h 0 ∧ (if E = 0 then s.put i.toNat x else s).now = s.now := by
  by_cases he : E = 0
  · rw [if_pos he]
    refine ⟨put_0 _ _ _ ?_, rfl⟩
    obtain ⟨k, rfl, _⟩ := at_put he hE
    rw [Int.toNat_natCast]; omega
  · rw [if_neg he]; exact ⟨rfl, rfl⟩
theorem placeE_at {s : Nt} {i k : Int} (ha : ¬ s.at i = 0) : s.placeE i k = s.at i := if_neg ha
/-- Another host's calls. -/
theorem act_other (s : Nt) (a : AV) (hi : a.host ≠ 0) (h5 : a.kind ≠ 5) (h6 : a.kind ≠ 6) : (Nt.act s a).h 0 = s.h 0 ∧ (Nt.act s a).now = s.now := by
  by_cases hr : 0 ≤ a.kind ∧ a.kind ≤ 12
  rotate_left
  · have hact : Nt.act s a = s := by
      unfold Nt.act
      rw [if_neg (by omega), if_neg (by omega), if_neg (by omega), if_neg (by omega), if_neg (by omega), if_neg (by omega), if_neg (by omega), if_neg (by omega), if_neg (by omega), if_neg (by omega), if_neg (by omega), if_neg (by omega), if_neg (by omega)]
    rw [hact]; exact ⟨rfl, rfl⟩
  obtain ⟨h1, h2⟩ := hr
  rcases (show a.kind = 0 ∨ a.kind = 1 ∨ a.kind = 2 ∨ a.kind = 3 ∨ a.kind = 4 ∨ a.kind = 7 ∨ a.kind = 8 ∨ a.kind = 9 ∨ a.kind = 10 ∨ a.kind = 11 ∨ a.kind = 12 by omega) with e | e | e | e | e | e | e | e | e | e | e
  · rw [act_0 s a e]; exact ite_h0 (fun ha => if_neg ha) hi
  · rw [act_1 s a e]; exact ite_h0 (fun ha => if_neg ha) hi
  · rw [act_2 s a e]; exact ite_h0 (fun ha => if_neg ha) hi
  · rw [act_3 s a e]; exact ite_h0 (fun ha => if_neg ha) hi
  · rw [act_4 s a e]; exact ite_h0 (fun ha => if_neg ha) hi
  · rw [act_7 s a e]; exact ite_h0 (E := s.at a.host) (fun ha => rfl) hi
  · rw [act_8 s a e]; exact ite_h0 (fun ha => placeE_at ha) hi
  · rw [act_9 s a e]; exact ite_h0 (fun ha => placeE_at ha) hi
  · rw [act_10 s a e]; exact ite_h0 (fun ha => (if_neg (by rw [placeE_at ha]; exact ha)).trans (placeE_at ha)) hi
  · rw [act_11 s a e]; exact ite_h0 (fun ha => (if_neg (by rw [placeE_at ha]; exact ha)).trans (placeE_at ha)) hi
  · rw [act_12 s a e]; exact ite_h0 (fun ha => if_neg ha) hi
theorem ite_same {s t : Nt} {E F : Int} {x y : Ho} (h : Al s t) (hE : E = F) (hx : x = y) : (if E = 0 then s.put (Int.toNat 0) x else s).h 0 = (if F = 0 then t.put (Int.toNat 0) y else t).h 0 ∧ (if E = 0 then s.put (Int.toNat 0) x else s).now = (if F = 0 then t.put (Int.toNat 0) y else t).now := by
  subst hE hx
  by_cases he : E = 0
  · rw [if_pos he, if_pos he]
    exact ⟨(show (s.put 0 x).h 0 = (t.put 0 x).h 0 from (put_h _ _ _).trans (put_h _ _ _).symm), h.2.2.2⟩
  · rw [if_neg he, if_neg he]; exact ⟨h.2.2.1, h.2.2.2⟩
/-- Host 0's calls. -/
theorem act_same (s t : Nt) (a : AV) (h : Al s t) (hi : a.host = 0) : (Nt.act s a).h 0 = (Nt.act t a).h 0 ∧ (Nt.act s a).now = (Nt.act t a).now := by
  obtain ⟨n1, n2, h0, hn⟩ := id h
  have a0' : s.at 0 = 0 := if_neg (by omega)
  have at' : t.at 0 = 0 := if_neg (by omega)
  have hst : s.h (Int.toNat 0) = t.h (Int.toNat 0) := h0
  have hp : ∀ k, s.placeE 0 k = t.placeE 0 k := fun k => by unfold Nt.placeE; rw [a0', at', hst]
  have hit : ∀ k, itemAt s 0 k = itemAt t 0 k := fun k => by unfold itemAt; rw [hst]
  by_cases hr : 0 ≤ a.kind ∧ a.kind ≤ 12
  rotate_left
  · have hact : ∀ s, Nt.act s a = s := by
      intro s
      unfold Nt.act
      rw [if_neg (by omega), if_neg (by omega), if_neg (by omega), if_neg (by omega), if_neg (by omega), if_neg (by omega), if_neg (by omega), if_neg (by omega), if_neg (by omega), if_neg (by omega), if_neg (by omega), if_neg (by omega), if_neg (by omega)]
    rw [hact, hact]; exact ⟨h0, hn⟩
  obtain ⟨h1, h2⟩ := hr
  rcases (show a.kind = 0 ∨ a.kind = 1 ∨ a.kind = 2 ∨ a.kind = 3 ∨ a.kind = 4 ∨ a.kind = 5 ∨ a.kind = 6 ∨ a.kind = 7 ∨ a.kind = 8 ∨ a.kind = 9 ∨ a.kind = 10 ∨ a.kind = 11 ∨ a.kind = 12 by omega) with e | e | e | e | e | e | e | e | e | e | e | e | e
  · rw [act_0 s a e, act_0 t a e, hi]; exact ite_same h (by unfold Nt.joinE; rw [a0', at', hst]) (by rw [hst])
  · rw [act_1 s a e, act_1 t a e, hi]; exact ite_same h (by unfold Nt.leaveE; rw [a0', at', hst]) (by rw [hst])
  · rw [act_2 s a e, act_2 t a e, hi]; exact ite_same h (by unfold Nt.wantE; rw [a0', at', hst]) (by rw [hst, hn])
  · rw [act_3 s a e, act_3 t a e, hi]; exact ite_same h (by unfold Nt.graftE; rw [a0', at']) (by rw [hst])
  · rw [act_4 s a e, act_4 t a e, hi]; exact ite_same h (by unfold Nt.capE; rw [a0', at']) (by rw [hst])
  · rw [act_5 s a e, act_5 t a e]
    unfold Nt.send
    dsimp only
    rw [if_pos (by omega), if_pos (by omega), h0, hn]
    exact ⟨rfl, rfl⟩
  · rw [act_6 s a e, act_6 t a e]
    unfold Nt.tick
    dsimp only
    rw [if_pos (by omega), if_pos (by omega), h0, hn]
    exact ⟨rfl, rfl⟩
  · rw [act_7 s a e, act_7 t a e, hi]; exact ite_same h (by rw [a0', at']) (by rw [hst, hn])
  · rw [act_8 s a e, act_8 t a e, hi]; exact ite_same h (hp _) (by rw [hst])
  · rw [act_9 s a e, act_9 t a e, hi]; exact ite_same h (hp _) (by rw [hst])
  · rw [act_10 s a e, act_10 t a e, hi]; exact ite_same h (by unfold Nt.delayE; rw [hp]) (by rw [hst])
  · rw [act_11 s a e, act_11 t a e, hi]; exact ite_same h (by unfold Nt.spoilE; rw [hp, hit]) (by rw [hst])
  · rw [act_12 s a e, act_12 t a e, hi]; exact ite_same h (by unfold Nt.injectE; rw [a0', at', hst]) (by rw [hst, hn])
/-- An act on both. -/
theorem Al.both {s t : Nt} (h : Al s t) (a : AV) : Al (Nt.act s a) (Nt.act t a) := by
  refine ⟨(act_n s a).trans h.1, (act_n t a).trans h.2.1, ?_⟩
  by_cases hi : a.host = 0
  · exact act_same s t a h hi
  · by_cases h5 : a.kind = 5
    · rw [act_5 s a h5, act_5 t a h5]
      unfold Nt.send
      dsimp only
      rw [if_pos (by have := h.1; omega), if_pos (by have := h.2.1; omega), h.2.2.1, h.2.2.2]
      exact ⟨rfl, rfl⟩
    · by_cases h6 : a.kind = 6
      · rw [act_6 s a h6, act_6 t a h6]
        unfold Nt.tick
        dsimp only
        rw [if_pos (by have := h.1; omega), if_pos (by have := h.2.1; omega), h.2.2.1, h.2.2.2]
        exact ⟨rfl, rfl⟩
      · obtain ⟨a1, a2⟩ := act_other s a hi h5 h6
        obtain ⟨b1, b2⟩ := act_other t a hi h5 h6
        exact ⟨a1.trans (h.2.2.1.trans b1.symm), a2.trans (h.2.2.2.trans b2.symm)⟩
theorem Al.one {s t : Nt} (h : Al s t) (a : AV) (hi : a.host ≠ 0) (h5 : a.kind ≠ 5) (h6 : a.kind ≠ 6) : Al (Nt.act s a) t := by
  obtain ⟨a1, a2⟩ := act_other s a hi h5 h6
  exact ⟨(act_n s a).trans h.1, h.2.1, a1.trans h.2.2.1, a2.trans h.2.2.2⟩
theorem Al.queue {s t : Nt} (h : Al s t) : s.queue 0 = t.queue 0 ∧ s.taken 0 = t.taken 0 := by
  obtain ⟨n1, n2, h0, hn⟩ := id h
  have a0' : s.at 0 = 0 := if_neg (by omega)
  have at' : t.at 0 = 0 := if_neg (by omega)
  have hst : s.h (Int.toNat 0) = t.h (Int.toNat 0) := h0
  unfold Nt.queue Nt.taken
  rw [a0', at', hst, hn]
  exact ⟨rfl, rfl⟩
/-! ### in memory -/
theorem IsNet.kinds {bb : Nat → Prop} {w : World} {nb hb : Nat} {qv : Nat → Value} {s : Nt} (h : IsNet bb w nb hb qv s) {k : Nat} (hk : NB nb hb s.n qv k) : ∃ cur t, w.heap[k]? = some (.cells cur t (0, 0)) ∧ (t = 63 ∨ t = 68 ∨ t = 71) := by
  rcases hk with rfl | rfl | ⟨i, hi, hk⟩
  · obtain ⟨c, h1, _⟩ := h.net; exact ⟨c, _, h1, .inl rfl⟩
  · obtain ⟨c, h1, _⟩ := h.hos; exact ⟨c, _, h1, .inr (.inl rfl)⟩
  · obtain ⟨l, _, h2, _⟩ := h.qs i hi
    obtain ⟨c, h1⟩ := h2.type hk
    exact ⟨c, _, h1, .inr (.inr rfl)⟩
def BothB (w : World) (x nb : Nat) : Prop := w.heap[x]? = some (.cells #[.pointer (some ⟨nb, 0, none⟩), .int .i64 0, .slice none 0 0] 49 (0, 0))
def Two (W : World) (nA hA nB hB x y : Nat) (sA sB : Nt) (w : World) : Prop := ∃ bbA qA bbB qB, IsNet bbA w nA hA qA sA ∧ IsNet bbB w nB hB qB sB ∧ Below W.heap.size W w ∧ (∀ k, NB nA hA sA.n qA k ∨ bbA k → W.heap.size ≤ k) ∧ (∀ k, NB nB hB sB.n qB k ∨ bbB k → W.heap.size ≤ k) ∧ (∀ k, NB nA hA sA.n qA k → ¬ NB nB hB sB.n qB k) ∧ BothB w x nA ∧ BothB w y nB
theorem Two.swap {W : World} {nA hA nB hB x y : Nat} {sA sB : Nt} {w : World} (h : Two W nA hA nB hB x y sA sB w) : Two W nB hB nA hA y x sB sA w := by
  obtain ⟨bbA, qA, bbB, qB, h1, h2, h3, h4, h5, h6, h7, h8⟩ := h
  exact ⟨bbB, qB, bbA, qA, h2, h1, h3, h5, h4, fun k e1 e2 => h6 k e2 e1, h8, h7⟩
theorem Two.bel {W : World} {nA hA nB hB x y : Nat} {sA sB : Nt} {w : World} (h : Two W nA hA nB hB x y sA sB w) : Below W.heap.size W w := by obtain ⟨_, _, _, _, _, _, h, _⟩ := h; exact h
theorem Two.below {W : World} {nA hA nB hB x y : Nat} {sA sB : Nt} {w w' : World} (h : Two W nA hA nB hB x y sA sB w) (hb : Below w.heap.size w w') : Two W nA hA nB hB x y sA sB w' := by
  obtain ⟨bbA, qA, bbB, qB, h1, h2, h3, h4, h5, h6, h7, h8⟩ := h
  exact ⟨bbA, qA, bbB, qB, h1.below hb, h2.below hb, h3.trans (hb.mono h3.size), h4, h5, h6, (hb.block _ (lt_of h7)).trans h7, (hb.block _ (lt_of h8)).trans h8⟩
theorem both_no {bb : Nat → Prop} {w : World} {nb hb : Nat} {qv : Nat → Value} {s : Nt} (h : IsNet bb w nb hb qv s) {x n : Nat} (hx : BothB w x n) : ¬ NB nb hb s.n qv x := by
  intro e
  obtain ⟨cur, t, h1, h2⟩ := h.kinds e
  unfold BothB at hx
  rw [hx] at h1
  cases h1
  rcases h2 with h2 | h2 | h2 <;> exact absurd h2 (by decide)
/-- A call of the first net. -/
theorem Two.step {W : World} {nA hA nB hB x y : Nat} {sA sA' sB : Nt} {w w' : World} {bbA : Nat → Prop} {qA : Nat → Value} {bbB : Nat → Prop} {qB : Nat → Value} (h1 : IsNet bbA w nA hA qA sA) (h2 : IsNet bbB w nB hB qB sB) (h3 : Below W.heap.size W w) (h4 : ∀ k, NB nA hA sA.n qA k ∨ bbA k → W.heap.size ≤ k) (h5 : ∀ k, NB nB hB sB.n qB k ∨ bbB k → W.heap.size ≤ k) (h6 : ∀ k, NB nA hA sA.n qA k → ¬ NB nB hB sB.n qB k) (h7 : BothB w x nA) (h8 : BothB w y nB)
    (hp : NetP bbA w nA hA sA.n qA sA' w') (hn : sA'.n = sA.n) : Two W nA hA nB hB x y sA' sB w' := by
  obtain ⟨bb', qv', g1, g2⟩ := hp
  refine ⟨bb', qv', bbB, qB, g1, h2.keep g2.fr h6 (fun k cur e1 _ => h1.no_bytes e1 cur) (fun k e _ => e), g2.fr.below h3 h3.size (fun k e => h4 k (.inl e)), fun k e => ?_, h5, fun k e1 e2 => ?_, (g2.fr.block _ (lt_of h7) (both_no h1 h7)).trans h7, (g2.fr.block _ (lt_of h8) (both_no h1 h8)).trans h8⟩
  · rw [hn] at e
    rcases e with e | e
    · rcases g2.blk k e with e | e
      · exact h4 k (.inl e)
      · exact Nat.le_trans h3.size e
    · rcases g2.byt k e with e | e
      · exact h4 k (.inr e)
      · exact Nat.le_trans h3.size e
  · rw [hn] at e1
    rcases g2.blk k e1 with e | e
    · exact h6 k e e2
    · have := h2.lt e2; omega
end Go.Proofs.Ytpfpdbbgiimnmaa.Net
