/- A law's net: it is the law's own; its calls; datagrams that the law makes; awake. Conditions: a net. -/
import Derived.Test.YtpfpdbbgiimnmaaDoorWantC
import Derived.Laws.BytesArg
import Derived.Shelf.Bytes.SlSmallAll
namespace Go.Proofs.YtpfpdbbgiimnmaaDoor.Net
set_option linter.unusedSimpArgs false
set_option linter.unusedVariables false
open Go.RowKit Go.Deep Go.Proofs.YtpfpdbbgiimnmaaDoor.Er Go.Proofs.YtpfpdbbgiimnmaaDoor.Mod Go.Proofs.YtpfpdbbgiimnmaaDoorW.PrintWords
/-- A net of a law's own. -/
def LN (W : World) (nb hb : Nat) (s : Nt) (w : World) : Prop := ∃ bb qv, IsNet bb w nb hb qv s ∧ Below W.heap.size W w ∧ ∀ k, NB nb hb s.n qv k ∨ bb k → W.heap.size ≤ k
theorem LN.step {W : World} {nb hb : Nat} {s s' : Nt} {w w' : World} {bb : Nat → Prop} {qv : Nat → Value} (h : IsNet bb w nb hb qv s) (hb' : Below W.heap.size W w) (ho : ∀ k, NB nb hb s.n qv k ∨ bb k → W.heap.size ≤ k) (hp : NetP bb w nb hb s.n qv s' w') (hn : s'.n = s.n) : LN W nb hb s' w' := by
  obtain ⟨bb', qv', h1, h2⟩ := hp
  refine ⟨bb', qv', h1, h2.fr.below hb' hb'.size (fun k e => ho k (.inl e)), fun k e => ?_⟩
  rw [hn] at e
  rcases e with e | e
  · rcases h2.blk k e with e | e
    · exact ho k (.inl e)
    · exact Nat.le_trans hb'.size e
  · rcases h2.byt k e with e | e
    · exact ho k (.inr e)
    · exact Nat.le_trans hb'.size e
theorem LN.below {W : World} {nb hb : Nat} {s : Nt} {w w' : World} (h : LN W nb hb s w) (hb' : Below w.heap.size w w') : LN W nb hb s w' := by
  obtain ⟨bb, qv, h1, h2, h3⟩ := h
  exact ⟨bb, qv, h1.below hb', h2.trans (hb'.mono h2.size), h3⟩
theorem LN.bel {W : World} {nb hb : Nat} {s : Nt} {w : World} (h : LN W nb hb s w) : Below W.heap.size W w := by obtain ⟨_, _, _, h, _⟩ := h; exact h
theorem join_n (s : Nt) (i : Int) : (s.join i).n = s.n := by unfold Nt.join; split <;> rfl
theorem leave_n (s : Nt) (i : Int) : (s.leave i).n = s.n := by unfold Nt.leave; split <;> rfl
theorem want_n (s : Nt) (i l : Int) : (s.want i l).n = s.n := by unfold Nt.want; split <;> rfl
theorem graft_n (s : Nt) (i t : Int) : (s.setGraft i t).n = s.n := by unfold Nt.setGraft; split <;> rfl
theorem cap_n (s : Nt) (i t : Int) : (s.setCap i t).n = s.n := by unfold Nt.setCap; split <;> rfl
theorem take_n (s : Nt) (i : Int) : (s.take i).n = s.n := by unfold Nt.take; split <;> rfl
theorem newL (w : World) (n : Nat) (hn : 1 ≤ n ∧ n ≤ 16) : Calls Tryd.prog 12 #[.int .i64 (n : Int)] w fun e w' => ∃ nb hb, e = .returned (.tuple #[.pointer (some ⟨nb, 0, none⟩), .nilIface]) ∧ LN w nb hb (nt0 n) w' :=
  (new_calls w n hn).mono fun e w' ⟨nb, hb, bb, qv, h1, h2, h3, h4⟩ => ⟨nb, hb, h1, bb, qv, h2, h3, h4⟩
theorem joinL {W : World} {nb hb : Nat} {s : Nt} {w : World} (h : LN W nb hb s w) (i : Int) : Calls Tryd.prog 16 #[.pointer (some ⟨nb, 0, none⟩), .int .i64 i] w fun e w' => ∃ ev, e = .returned ev ∧ ErR w' ev (er joinN (s.joinE i)) ∧ LN W nb hb (s.join i) w' := by
  obtain ⟨bb, qv, h1, h2, h3⟩ := h
  exact (join_calls h1 i).mono fun e w' ⟨ev, e1, e2, e3⟩ => ⟨ev, e1, e2, LN.step h1 h2 h3 e3 (join_n _ _)⟩
theorem graftL {W : World} {nb hb : Nat} {s : Nt} {w : World} (h : LN W nb hb s w) (i t : Int) : Calls Tryd.prog 19 #[.pointer (some ⟨nb, 0, none⟩), .int .i64 i, .int .i64 t] w fun e w' => ∃ ev, e = .returned ev ∧ ErR w' ev (er graftN (s.graftE i t)) ∧ LN W nb hb (s.setGraft i t) w' := by
  obtain ⟨bb, qv, h1, h2, h3⟩ := h
  exact (graft_calls h1 i t).mono fun e w' ⟨ev, e1, e2, e3⟩ => ⟨ev, e1, e2, LN.step h1 h2 h3 e3 (graft_n _ _ _)⟩
theorem capL {W : World} {nb hb : Nat} {s : Nt} {w : World} (h : LN W nb hb s w) (i t : Int) : Calls Tryd.prog 20 #[.pointer (some ⟨nb, 0, none⟩), .int .i64 i, .int .i64 t] w fun e w' => ∃ ev, e = .returned ev ∧ ErR w' ev (er capacityN (s.capE i t)) ∧ LN W nb hb (s.setCap i t) w' := by
  obtain ⟨bb, qv, h1, h2, h3⟩ := h
  exact (capacity_calls h1 i t).mono fun e w' ⟨ev, e1, e2, e3⟩ => ⟨ev, e1, e2, LN.step h1 h2 h3 e3 (cap_n _ _ _)⟩
/-- A net's numbers are as they may be; L more of all may come. -/
structure Wf (s : Nt) (L : Nat) : Prop where
  level : ∀ i, i < s.n → -1 ≤ (s.h i).level ∧ (s.h i).level < 8
  graft : ∀ i, i < s.n → 0 ≤ (s.h i).graft ∧ (s.h i).graft ≤ 64
  now : 0 ≤ s.now ∧ s.now + L < 5000000000000
  got : ∀ i, i < s.n → 0 ≤ (s.h i).got ∧ (s.h i).got + L < 5000000000000
  q : ∀ i, i < s.n → (s.h i).q.length + L ≤ 5000000000000
theorem wantL {W : World} {nb hb : Nat} {s : Nt} {w : World} {L : Nat} (h : LN W nb hb s w) (hs : Wf s L) (i l : Int) : Calls Tryd.prog 18 #[.pointer (some ⟨nb, 0, none⟩), .int .i64 i, .int .i64 l] w fun e w' => ∃ ev, e = .returned ev ∧ ErR w' ev (er wantN (s.wantE i l)) ∧ LN W nb hb (s.want i l) w' := by
  obtain ⟨bb, qv, h1, h2, h3⟩ := h
  exact (want_calls h1 i l hs.level hs.graft ⟨hs.now.1, by have := hs.now.2; omega⟩).mono fun e w' ⟨ev, e1, e2, e3⟩ => ⟨ev, e1, e2, LN.step h1 h2 h3 e3 (want_n _ _ _)⟩
theorem tickL {W : World} {nb hb : Nat} {s : Nt} {w : World} {L : Nat} (h : LN W nb hb s w) (hs : Wf s L) : Calls Tryd.prog 22 #[.pointer (some ⟨nb, 0, none⟩)] w fun e w' => e = .returned .nilIface ∧ LN W nb hb s.tick w' := by
  obtain ⟨bb, qv, h1, h2, h3⟩ := h
  exact (tick_calls h1 ⟨hs.now.1, by have := hs.now.2; omega⟩).mono fun e w' ⟨e1, e3⟩ => ⟨e1, LN.step h1 h2 h3 e3 rfl⟩
/-- Datagrams that came in, or that were made behind the net's last call. -/
theorem sendL {W : World} {nb hb : Nat} {s : Nt} {w0 w : World} {L : Nat} {D : Nat → Prop} (h : LN W nb hb s w0) (hw : Below w0.heap.size w0 w) (hs : Wf s L) (v : Value) (l : List Dg) (hl : DgIs D w v l) (hD : ∀ k, D k → k < w.heap.size ∧ (w0.heap.size ≤ k ∨ k < W.heap.size)) (hL : l.length ≤ L) : Calls Tryd.prog 21 #[.pointer (some ⟨nb, 0, none⟩), v] w fun e w' => e = .returned .nilIface ∧ LN W nb hb (s.send l) w' := by
  obtain ⟨bb, qv, h1, h2, h3⟩ := h
  refine (send_calls (h1.below hw) v l hl (fun k hk => ⟨(hD k hk).1, fun e => ?_⟩) ⟨fun i hi => (hs.level i hi).2, fun i hi => ⟨(hs.got i hi).1, by have := (hs.got i hi).2; omega⟩, fun i hi => by have := hs.q i hi; omega⟩).mono fun e w' ⟨e1, e3⟩ => ⟨e1, LN.step (h1.below hw) (h2.trans (hw.mono h2.size)) h3 e3 rfl⟩
  rcases (hD k hk).2 with e2 | e2
  · have := h1.lt e; omega
  · have := h3 k (.inl e); omega
/-- A list of lists of bytes, as it may be read. -/
def OutV (w : World) (v : Value) (l : List (List Int)) : Prop := ∃ A c, v = .slice A l.length c ∧ l.length ≤ c ∧ l.length ≤ 5000000000000 ∧ (l ≠ [] → ∃ b : Nat, A = some ⟨b, 0, none⟩ ∧ ∀ (j : Nat) (x : List Int), l[j]? = some x → ∃ bv, w.cell? ⟨b, j, none⟩ = some bv ∧ RdB (fun _ => True) w bv x)
theorem RB.rd {bb : Nat → Prop} {w : World} {v : Value} {l : List Int} (h : RB bb w v l) (hl : l.length ≤ 140737488355328) : RdB bb w v l := by
  obtain ⟨A, c, h1, h2, h3, h4, h5⟩ := h
  refine ⟨A, c, h1, h2, hl, h4, fun hne => ?_⟩
  obtain ⟨b, cur, e, hb, hc, hx⟩ := h5 hne
  refine ⟨_, e, hb, fun j x hj => ?_⟩
  have hadd : (⟨b, 0, none⟩ : Addr).add j = ⟨b, j, none⟩ := by unfold Addr.add; split <;> simp_all
  rw [hadd]
  simp [World.cell?, hc, hx j x hj]
theorem Outs.val {B : Nat} {bb : Nat → Prop} {w : World} {v : Value} {l : List (List Int)} (h : Outs B bb w v l) (hl : l.length ≤ 5000000000000) (hx : ∀ x ∈ l, x.length ≤ 140737488355328) : OutV w v l := by
  obtain ⟨vs, rfl, ho, hr⟩ := h
  have hval : ∃ A c, v = .slice A (vs.map (·.2)).length c ∧ (vs.map (·.2)).length ≤ c := by
    rcases ho.2 with ⟨rfl, e⟩ | ⟨b, cap, cur, rfl, _, _, h1, _⟩
    · rw [e]; exact ⟨none, 0, rfl, Nat.le_refl _⟩
    · exact ⟨_, _, rfl, h1⟩
  obtain ⟨A, c, rfl, hc⟩ := hval
  refine ⟨A, c, rfl, hc, hl, fun hne => ?_⟩
  rcases ho.2 with ⟨e1, e⟩ | ⟨b, cap, cur, e1, _, hcur, h1, h2, h3, h4⟩
  · exact absurd (List.length_eq_zero_iff.1 e) hne
  · cases e1
    refine ⟨b, rfl, fun j x hj => ?_⟩
    rw [List.getElem?_map] at hj
    cases hp : vs[j]? with
    | none => rw [hp] at hj; cases hj
    | some p =>
      rw [hp] at hj
      cases hj
      refine ⟨p.1, ?_, ?_⟩
      · have hjl : j < (vs.map (·.2)).length := by rw [List.length_map]; exact (List.getElem?_eq_some_iff.1 hp).1
        have e2 : (cur.toList.take ((vs.map (·.2)).length * 1))[j]? = some p.1 := by rw [h4, List.getElem?_map, hp]; rfl
        rw [Nat.mul_one, List.getElem?_take, if_pos hjl] at e2
        simpa [World.cell?, hcur] using e2
      · have hm := List.mem_of_getElem? hp
        obtain ⟨A', c', k1, k2, k3, k4, k5⟩ := (hr p hm).rd (hx _ (List.mem_map.2 ⟨p, hm, rfl⟩))
        exact ⟨A', c', k1, k2, k3, k4, fun hne => by obtain ⟨a, q1, _, q3⟩ := k5 hne; exact ⟨a, q1, trivial, q3⟩⟩
theorem takeL {W : World} {nb hb : Nat} {s : Nt} {w : World} {L : Nat} (h : LN W nb hb s w) (hs : Wf s L) (i : Int) (hx : ∀ x ∈ s.taken i, x.length ≤ 140737488355328) : Calls Tryd.prog 23 #[.pointer (some ⟨nb, 0, none⟩), .int .i64 i] w fun e w' => ∃ v, e = .returned v ∧ LN W nb hb (s.take i) w' ∧ OutV w' v (s.taken i) := by
  obtain ⟨bb, qv, h1, h2, h3⟩ := h
  have hc : Calls Tryd.prog 23 #[.pointer (some ⟨nb, 0, none⟩), .int .i64 i] w fun e w' => ∃ v, e = .returned v ∧ TakeP bb w nb hb s.n qv (s.take i) (s.taken i) v w' := by
    by_cases ha : s.at i = 0
    · obtain ⟨k, rfl, hk⟩ := at_of ha
      exact take_ok h1 k hk (by have := hs.q k hk; omega)
    · exact take_bad h1 i ha
  refine hc.mono ?_
  rintro e w' ⟨v, rfl, bb', qv', g1, g2, g3⟩
  refine ⟨v, rfl, LN.step h1 h2 h3 ⟨bb', qv', g1, g2⟩ (take_n _ _), g3.val ?_ hx⟩
  unfold Nt.taken
  split
  · rename_i ha
    obtain ⟨k, rfl, hk⟩ := at_of ha
    have := hs.q k hk
    unfold dueNow
    rw [List.length_map, Int.toNat_natCast]
    have := List.length_filter_le (fun x => decide (x.due ≤ s.now)) (s.h k).q
    omega
  · simp
theorem dgram_calls (w : World) (i : Int) (A : Option Addr) (n c : Nat) : Calls Tryd.prog 29 #[.int .i64 i, .slice A n c] w fun e w' => e = .returned (.agg #[.int .i64 i, .slice A n c]) ∧ Below w.heap.size w w' := by
  go_enter Tryd.func29, Tryd.ntmps29
  go_wp2
  exact bodyPost_ret (v := .agg #[.int .i64 i, .slice A n c]) (by simp [results, Tryd.results29, go_sem]) rfl ⟨rfl, (Below.refl _ _).alloc (Nat.le_refl _) _⟩
/-- Bytes that a law has made. -/
theorem rd_lit {D : Nat → Prop} {w : World} {b : Nat} {l : List Int} {t : TypeId} (h : w.heap[b]? = some (.cells (l.map (Value.int .u8)).toArray t (0, 0))) (hD : D b) (hl : l.length ≤ 140737488355328) (hx : ∀ x ∈ l, 0 ≤ x ∧ x < 256) : RdB D w (.slice (some ⟨b, 0, none⟩) l.length l.length) l := by
  refine ⟨_, _, rfl, Nat.le_refl _, hl, hx, fun _ => ⟨_, rfl, hD, fun j x hj => ?_⟩⟩
  have hadd : (⟨b, 0, none⟩ : Addr).add j = ⟨b, j, none⟩ := by unfold Addr.add; split <;> simp_all
  rw [hadd]
  simp [World.cell?, h, hj]
/-- Two datagrams that a law has made. -/
theorem dg_two {D : Nat → Prop} {w : World} {b : Nat} {t : TypeId} {i1 i2 : Int} {v1 v2 : Value} {l1 l2 : List Int} (h : w.heap[b]? = some (.cells #[.int .i64 i1, v1, .int .i64 i2, v2] t (0, 0))) (hD : D b) (h1 : RdB D w v1 l1) (h2 : RdB D w v2 l2) : DgIs D w (.slice (some ⟨b, 0, none⟩) 2 2) [⟨i1, l1⟩, ⟨i2, l2⟩] := by
  refine ⟨_, _, rfl, Nat.le_refl _, by simp, fun _ => ⟨b, 0, rfl, hD, fun j d hj => ?_⟩⟩
  match j, hj with
  | 0, hj => cases hj; exact ⟨v1, by simp [World.cell?, h], by simp [World.cell?, h], h1⟩
  | 1, hj => cases hj; exact ⟨v2, by simp [World.cell?, h], by simp [World.cell?, h], h2⟩
  | j + 2, hj => cases hj
theorem RdB.str {D : Nat → Prop} {w : World} {v : Value} {l : List Int} (h : RdB D w v l) : (convert 22 9 v).run Tryd.prog w = .ok (.string (strOfNums l)) w := by
  obtain ⟨A, c, rfl, h1, h2, h3, h4⟩ := h
  by_cases hl : l = []
  · subst hl
    have := run_convert_bytes_zero (P := Tryd.prog) w 22 5 Tryd.underlying22 Tryd.underlying5 A c 9 Tryd.underlying9
    exact this
  · obtain ⟨⟨b, o, sp⟩, rfl, _, hx⟩ := h4 hl
    have c0 : ∀ (j : Nat) (x : Int), l[j]? = some x → w.cell? ⟨b, o + j, none⟩ = some (.int .u8 x) ∧ sp = none := by
      have hs : sp = none := by
        cases l with
        | nil => exact absurd rfl hl
        | cons y ys =>
          have := hx 0 y rfl
          have e : (⟨b, o, sp⟩ : Addr).add 0 = ⟨b, o, sp⟩ := rfl
          rw [e] at this
          unfold World.cell? at this
          cases sp
          · rfl
          · simp at this; split at this <;> simp_all
      subst hs
      intro j x hj
      have hadd : (⟨b, o, none⟩ : Addr).add j = ⟨b, o + j, none⟩ := by unfold Addr.add; split <;> simp_all
      exact ⟨by rw [← hadd]; exact hx j x hj, rfl⟩
    obtain rfl : sp = none := by
      cases l with
      | nil => exact absurd rfl hl
      | cons y ys => exact (c0 0 y rfl).2
    exact run_convert_bytes_arg (P := Tryd.prog) w 22 5 Tryd.underlying22 Tryd.underlying5 b o l.length c l rfl (fun i hi => by
      rw [(c0 i (l[i]'hi) (List.getElem?_eq_getElem _)).1, List.getD_eq_getElem?_getD, List.getElem?_eq_getElem hi]
      rfl) 9 Tryd.underlying9
end Go.Proofs.YtpfpdbbgiimnmaaDoor.Net
