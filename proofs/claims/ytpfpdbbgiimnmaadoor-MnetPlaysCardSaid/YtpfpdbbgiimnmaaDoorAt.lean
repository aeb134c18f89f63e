/- (*mnet.Net).at by its contract; a host's cell written; what a call leaves. Conditions: none. -/
import Derived.Test.YtpfpdbbgiimnmaaDoorNet
namespace Go.Proofs.YtpfpdbbgiimnmaaDoor.Net
set_option linter.unusedSimpArgs false
set_option linter.unusedVariables false
open Go.RowKit Go.Proofs.YtpfpdbbgiimnmaaDoor.Er Go.Proofs.YtpfpdbbgiimnmaaDoor.Mod Go.Proofs.YtpfpdbbgiimnmaaDoorW.PrintWords
theorem fourteen {P : Nat → Prop} (h0 : P 0) (h1 : P 1) (h2 : ∀ j, 2 ≤ j → j < 10 → P j) (h10 : P 10) (h11 : P 11) (h12 : P 12) (h13 : P 13) : ∀ k, k < 14 → P k
  | 0, _ => h0
  | 1, _ => h1
  | 10, _ => h10
  | 11, _ => h11
  | 12, _ => h12
  | 13, _ => h13
  | 2, _ => h2 _ (by omega) (by omega)
  | 3, _ => h2 _ (by omega) (by omega)
  | 4, _ => h2 _ (by omega) (by omega)
  | 5, _ => h2 _ (by omega) (by omega)
  | 6, _ => h2 _ (by omega) (by omega)
  | 7, _ => h2 _ (by omega) (by omega)
  | 8, _ => h2 _ (by omega) (by omega)
  | 9, _ => h2 _ (by omega) (by omega)
  | k + 14, h => absurd h (by omega)
theorem ho_fro (v : Value) (x : Ho) : ∀ j, j < 8 → hoCell v x (2 + j) = .int .i64 (x.fro j)
  | 0, _ => rfl
  | 1, _ => rfl
  | 2, _ => rfl
  | 3, _ => rfl
  | 4, _ => rfl
  | 5, _ => rfl
  | 6, _ => rfl
  | 7, _ => rfl
  | j + 8, h => absurd h (by omega)
theorem ho_ext (v v' : Value) (x x' : Ho) (c : Nat) (u : Value) (hc : c < 2 ∨ 10 ≤ c) (hf : x'.fro = x.fro) (h0 : (if 0 = c then u else .bool x.there) = .bool x'.there) (h1 : (if 1 = c then u else .int .i64 x.level) = .int .i64 x'.level)
    (h10 : (if 10 = c then u else .int .i64 x.graft) = .int .i64 x'.graft) (h11 : (if 11 = c then u else .int .i64 x.cap) = .int .i64 x'.cap) (h12 : (if 12 = c then u else .int .i64 x.got) = .int .i64 x'.got) (h13 : (if 13 = c then u else v) = v') : ∀ d, d < 14 → (if d = c then u else hoCell v x d) = hoCell v' x' d := by
  refine fourteen h0 h1 (fun j h2 h3 => ?_) h10 h11 h12 h13
  obtain ⟨i, rfl⟩ : ∃ i, j = 2 + i := ⟨j - 2, by omega⟩
  rw [if_neg (by omega), ho_fro _ _ _ (by omega), ho_fro _ _ _ (by omega), hf]
def upq (qv : Nat → Value) (k : Nat) (v : Value) (i : Nat) : Value := if i = k then v else qv i
/-- A host's cell is written; ahead of it its queue has turned. -/
theorem IsNet.putAll {bb bb' : Nat → Prop} {w w5 : World} {nb hb : Nat} {qv : Nat → Value} {s : Nt} {k : Nat} {v' v : Value} {x' : Ho} {c : Nat} (h : IsNet bb w nb hb qv s) (hk : k < s.n) (hf : Fr w w5 (fun b => (qv k).ownBlock = some b)) (hbb : ∀ b, bb b → b < w.heap.size → bb' b) (hq : QIs bb' w5 v' x'.q)
    (ho : ∀ b, v'.ownBlock = some b → (qv k).ownBlock = some b ∨ w.heap.size ≤ b) (hc14 : c < 14) (hc : ∀ d, d < 14 → (if d = c then v else hoCell (qv k) (s.h k) d) = hoCell v' x' d) : IsNet bb' (w5.setCell ⟨hb, k * 14 + c, none⟩ v) nb hb (upq qv k v') (s.put k x') := by
  have hn1 : w5.heap[nb]? = w.heap[nb]? := hf.block nb h.net.lt (fun e => (h.nb_q hk).1 e)
  have hn2 : w5.heap[hb]? = w.heap[hb]? := hf.block hb h.hos.lt (fun e => (h.nb_q hk).2 e)
  have h6 : ∀ i, i ≠ hb → (w5.setCell ⟨hb, k * 14 + c, none⟩ v).heap[i]? = w5.heap[i]? := fun i hi => Deep.blk_setCell_other _ _ _ _ hi
  have hty : ∀ b cur, w5.heap[b]? = some (.cells cur 5 (0, 0)) → b ≠ hb := by
    rintro b cur e rfl
    rw [hn2] at e
    exact h.no_bytes (.inr (.inl rfl)) cur e
  have hlt : ∀ b, (qv k).ownBlock = some b → b < w.heap.size := fun b hb' => h.lt (.inr (.inr ⟨k, hk, hb'⟩))
  have hv5 : ∀ b, v'.ownBlock = some b → b ≠ hb := by
    rintro b hb' rfl
    rcases ho _ hb' with e | e
    · exact (h.nb_q hk).2 e
    · have := h.hos.lt; omega
  refine ⟨?_, ?_, ?_, ?_, h.n1, h.n16⟩
  · refine (h.net.of_block ((h6 nb h.nb_hb).trans hn1)).congr (fun i hi => ?_)
    match i, hi with
    | 0, _ => rfl
    | 1, _ => rfl
  · refine ((h.hos.of_block hn2).set (k * 14 + c) v).congr (fun j hj => ?_)
    have e1 : j = j / 14 * 14 + j % 14 := by omega
    have e2 : j % 14 < 14 := Nat.mod_lt _ (by omega)
    unfold hosCell upq Nt.put
    by_cases e : j / 14 = k
    · rw [if_pos e, e]
      show _ = hoCell v' (if k = k then x' else s.h k) (j % 14)
      rw [if_pos rfl, ← hc _ e2]
      by_cases e3 : j % 14 = c
      · rw [if_pos (by omega), if_pos e3]
      · rw [if_neg (by omega), if_neg e3]
    · rw [if_neg e]
      show _ = hoCell _ (if j / 14 = k then x' else s.h (j / 14)) _
      rw [if_neg e, if_neg (by omega)]
  · intro i hi
    unfold upq Nt.put
    by_cases e : i = k
    · subst e
      rw [if_pos rfl]
      show QIs _ _ _ (if i = i then x' else s.h i).q
      rw [if_pos rfl]
      exact hq.keep (fun b hb' => h6 b (hv5 b hb')) (fun b cur hb2 hc' => ⟨h6 b (hty b cur hc'), hb2⟩)
    · rw [if_neg e]
      show QIs _ _ _ (if i = k then x' else s.h i).q
      rw [if_neg e]
      refine (h.qs i hi).keep (fun b hb' => ?_) (fun b cur hb2 hc' => ?_)
      · have : b ≠ hb := by rintro rfl; exact (h.nb_q hi).2 hb'
        rw [h6 b this]
        exact hf.block b (h.lt (.inr (.inr ⟨i, hi, hb'⟩))) (fun e2 => e (h.apart i k b hi hk hb' e2))
      · have e5 : w5.heap[b]? = w.heap[b]? := hf.block b (lt_of hc') (fun e2 => h.no_bytes (.inr (.inr ⟨k, hk, e2⟩)) cur hc')
        exact ⟨(h6 b (hty b cur (e5.trans hc'))).trans e5, hbb b hb2 (lt_of hc')⟩
  · intro i j b hi hj hki hkj
    unfold upq at hki hkj
    by_cases e : i = k
    · by_cases e2 : j = k
      · rw [e, e2]
      · rw [if_pos e] at hki; rw [if_neg e2] at hkj
        rcases ho b hki with e3 | e3
        · exact e.trans (h.apart k j b hk hj e3 hkj)
        · have := h.lt (.inr (.inr ⟨j, hj, hkj⟩)); omega
    · by_cases e2 : j = k
      · rw [if_neg e] at hki; rw [if_pos e2] at hkj
        rcases ho b hkj with e3 | e3
        · exact (h.apart i k b hi hk hki e3).trans e2.symm
        · have := h.lt (.inr (.inr ⟨i, hi, hki⟩)); omega
      · rw [if_neg e] at hki; rw [if_neg e2] at hkj
        exact h.apart i j b hi hj hki hkj
/-- What a call leaves. -/
structure Stp (bb : Nat → Prop) (w : World) (nb hb n : Nat) (qv : Nat → Value) (bb' : Nat → Prop) (w' : World) (qv' : Nat → Value) : Prop where
  fr : Fr w w' (NB nb hb n qv)
  blk : ∀ k, NB nb hb n qv' k → NB nb hb n qv k ∨ w.heap.size ≤ k
  byt : ∀ k, bb' k → bb k ∨ w.heap.size ≤ k
theorem Stp.refl (bb : Nat → Prop) (w : World) (nb hb n : Nat) (qv : Nat → Value) : Stp bb w nb hb n qv bb w qv := ⟨Fr.refl _ _, fun _ h => .inl h, fun _ h => .inl h⟩
theorem Stp.trans {bb : Nat → Prop} {w : World} {nb hb n : Nat} {qv : Nat → Value} {bb' : Nat → Prop} {w' : World} {qv' : Nat → Value} {bb'' : Nat → Prop} {w'' : World} {qv'' : Nat → Value} (h : Stp bb w nb hb n qv bb' w' qv') (k : Stp bb' w' nb hb n qv' bb'' w'' qv'') : Stp bb w nb hb n qv bb'' w'' qv'' :=
  ⟨h.fr.trans k.fr (fun i hi e => (h.blk i e).elim id (fun e => by omega)), fun i e => (k.blk i e).elim (h.blk i) (fun e => .inr (Nat.le_trans h.fr.size e)), fun i e => (k.byt i e).elim (h.byt i) (fun e => .inr (Nat.le_trans h.fr.size e))⟩
theorem Stp.below {bb : Nat → Prop} {w : World} {nb hb n : Nat} {qv : Nat → Value} {bb' : Nat → Prop} {w' w'' : World} {qv' : Nat → Value} (h : Stp bb w nb hb n qv bb' w' qv') (k : Below w'.heap.size w' w'') : Stp bb w nb hb n qv bb' w'' qv' := ⟨h.fr.and k, h.blk, h.byt⟩
def NetP (bb : Nat → Prop) (w : World) (nb hb n : Nat) (qv : Nat → Value) (s' : Nt) (w' : World) : Prop := ∃ bb' qv', IsNet bb' w' nb hb qv' s' ∧ Stp bb w nb hb n qv bb' w' qv'
theorem NetP.refl {bb : Nat → Prop} {w : World} {nb hb : Nat} {qv : Nat → Value} {s : Nt} (h : IsNet bb w nb hb qv s) : NetP bb w nb hb s.n qv s w := ⟨_, _, h, Stp.refl _ _ _ _ _ _⟩
theorem NetP.below {bb : Nat → Prop} {w : World} {nb hb n : Nat} {qv : Nat → Value} {s' : Nt} {w' w'' : World} (h : NetP bb w nb hb n qv s' w') (k : Below w'.heap.size w' w'') : NetP bb w nb hb n qv s' w'' := by
  obtain ⟨bb', qv', h1, h2⟩ := h
  exact ⟨bb', qv', h1.below k, h2.below k⟩
/-- A cell of a host, that is not its queue's, is written. -/
theorem NetP.put {bb : Nat → Prop} {w : World} {nb hb n : Nat} {qv : Nat → Value} {s s' : Nt} {w' : World} {k c : Nat} {v : Value} (h : NetP bb w nb hb n qv s w') (hs : s.n = n) (hk : k < n) (hc14 : c < 14) (x' : Ho) (hx : x'.q = (s.h k).q) (hc : ∀ q d, d < 14 → (if d = c then v else hoCell q (s.h k) d) = hoCell q x' d) (hs' : s' = s.put k x') : NetP bb w nb hb n qv s' (w'.setCell ⟨hb, k * 14 + c, none⟩ v) := by
  obtain ⟨bb', qv', h1, h2⟩ := h
  subst hs hs'
  refine ⟨bb', upq qv' k (qv' k), h1.putAll hk (Fr.refl _ _) (fun _ e _ => e) (by rw [hx]; exact h1.qs k hk) (fun _ e => .inl e) hc14 (hc _), h2.trans ⟨(Fr.refl _ _).set (.inl (.inr (.inl rfl))) _, fun i hi => .inl ?_, fun _ e => .inl e⟩⟩
  rcases hi with e | e | ⟨j, hj, e⟩
  · exact .inl e
  · exact .inr (.inl e)
  · refine .inr (.inr ⟨j, hj, ?_⟩)
    unfold upq at e
    split at e
    · rename_i e2; rw [e2]; exact e
    · exact e
/-- A host's queue is put. -/
theorem NetP.putQ {bb : Nat → Prop} {w : World} {nb hb n : Nat} {qv : Nat → Value} {s s' : Nt} {w' w5 : World} {bb' bb5 : Nat → Prop} {qv' : Nat → Value} {k : Nat} {v : Value} {q : List It} (h1 : IsNet bb' w' nb hb qv' s) (h2 : Stp bb w nb hb n qv bb' w' qv') (hs : s.n = n) (hk : k < n) (hf : Fr w' w5 (fun b => (qv' k).ownBlock = some b)) (hb1 : ∀ b, bb' b → b < w'.heap.size → bb5 b) (hb2 : ∀ b, bb5 b → bb' b ∨ w'.heap.size ≤ b) (hq : QIs bb5 w5 v q)
    (ho : ∀ b, v.ownBlock = some b → (qv' k).ownBlock = some b ∨ w'.heap.size ≤ b) (hs' : s' = s.put k { s.h k with q := q }) : NetP bb w nb hb n qv s' (w5.setCell ⟨hb, k * 14 + 13, none⟩ v) := by
  subst hs hs'
  refine ⟨bb5, upq qv' k v, h1.putAll (x' := { s.h k with q := q }) hk hf hb1 hq ho (by omega) (ho_ext _ _ _ _ _ _ (by omega) rfl rfl rfl rfl rfl rfl rfl), h2.trans ⟨?_, ?_, hb2⟩⟩
  · exact (hf.mono (fun b hb' => .inr (.inr ⟨k, hk, hb'⟩))).set (.inl (.inr (.inl rfl))) _
  · rintro i (e | e | ⟨j, hj, e⟩)
    · exact .inl (.inl e)
    · exact .inl (.inr (.inl e))
    · unfold upq at e
      split at e
      · rcases ho _ e with e | e
        · exact .inl (.inr (.inr ⟨k, hk, e⟩))
        · exact .inr e
      · exact .inl (.inr (.inr ⟨j, hj, e⟩))
theorem NetP.putNil {bb : Nat → Prop} {w : World} {nb hb n : Nat} {qv : Nat → Value} {s s' : Nt} {w' : World} {k : Nat} (h : NetP bb w nb hb n qv s w') (hs : s.n = n) (hk : k < n) (hs' : s' = s.put k { s.h k with q := [] }) : NetP bb w nb hb n qv s' (w'.setCell ⟨hb, k * 14 + 13, none⟩ (.slice none 0 0)) := by
  obtain ⟨bb', qv', h1, h2⟩ := h
  exact NetP.putQ h1 h2 hs hk (Fr.refl _ _) (fun _ e _ => e) (fun _ e => .inl e) (QIs.nil _ _) (fun b e => by cases e) hs'
theorem put_put (s : Nt) (k : Nat) (x y : Ho) : (s.put k x).put k y = s.put k y := by
  unfold Nt.put
  congr 1
  funext i
  by_cases e : i = k <;> simp [e]
theorem put_h (s : Nt) (k : Nat) (x : Ho) : (s.put k x).h k = x := if_pos rfl
theorem at_of {s : Nt} {i : Int} (h : s.at i = 0) : ∃ k : Nat, i = (k : Int) ∧ k < s.n := by
  unfold Nt.at at h
  split at h
  · omega
  · exact ⟨i.toNat, by omega, by omega⟩
theorem at_no {s : Nt} {i : Int} (h : ¬ s.at i = 0) : s.at i = 1 ∧ (i < 0 ∨ (s.n : Int) ≤ i) := by
  unfold Nt.at at h ⊢
  split
  · rename_i e; exact ⟨rfl, e⟩
  · rename_i e; rw [if_neg e] at h; exact absurd rfl h
theorem at_nat {s : Nt} {k : Nat} (h : k < s.n) : s.at (k : Int) = 0 := if_neg (by omega)
theorem IsNet.now {bb : Nat → Prop} {w : World} {nb hb : Nat} {qv : Nat → Value} {s : Nt} (h : IsNet bb w nb hb qv s) : w.cell? ⟨nb, 0, none⟩ = some (.int .i64 s.now) := h.net.cell (i := 0) (by omega)
theorem IsNet.hs {bb : Nat → Prop} {w : World} {nb hb : Nat} {qv : Nat → Value} {s : Nt} (h : IsNet bb w nb hb qv s) : w.cell? ⟨nb, 1, none⟩ = some (.slice (some ⟨hb, 0, none⟩) s.n s.n) := h.net.cell (i := 1) (by omega)
theorem IsNet.cell {bb : Nat → Prop} {w : World} {nb hb : Nat} {qv : Nat → Value} {s : Nt} (h : IsNet bb w nb hb qv s) {k : Nat} (hk : k < s.n) (c : Nat) (hc : c < 14) : w.cell? ⟨hb, k * 14 + c, none⟩ = some (hoCell (qv k) (s.h k) c) := by
  rw [← hos_at qv s k c hc]
  exact h.hos.cell (by omega)
def er (c : ByteArray) (n : Int) : Option Er := if n = 0 then none else some ([c], n)
set_option maxHeartbeats 2000000 in
theorem at_ok {bb : Nat → Prop} {w : World} {nb hb : Nat} {qv : Nat → Value} {s : Nt} (h : IsNet bb w nb hb qv s) (k : Nat) (hk : k < s.n) :
    Calls Tryd.prog 30 #[.pointer (some ⟨nb, 0, none⟩), .int .i64 (k : Int)] w fun e w' => e = .returned (.tuple #[.pointer (some ⟨hb, k * 14, none⟩), .int .i64 0]) ∧ w' = w := by
  have n1 := h.hs
  have hn := h.n16
  generalize s.n = n at n1 hk hn
  clear h
  go_enter Tryd.func30, Tryd.ntmps30
  go_wp2
  go_ret2
  exact ⟨rfl, rfl⟩
set_option maxHeartbeats 2000000 in
theorem at_bad {bb : Nat → Prop} {w : World} {nb hb : Nat} {qv : Nat → Value} {s : Nt} (h : IsNet bb w nb hb qv s) (i : Int) (hi : i < 0 ∨ (s.n : Int) ≤ i) :
    Calls Tryd.prog 30 #[.pointer (some ⟨nb, 0, none⟩), .int .i64 i] w fun e w' => e = .returned (.tuple #[.pointer none, .int .i64 1]) ∧ w' = w := by
  have n1 := h.hs
  have hn := h.n16
  generalize s.n = n at n1 hi hn
  clear h
  by_cases h0 : i < 0
  · clear hi
    go_enter Tryd.func30, Tryd.ntmps30
    go_wp2
    go_ret2
    exact ⟨rfl, rfl⟩
  · have hi' : (n : Int) ≤ i := by omega
    clear hi
    go_enter Tryd.func30, Tryd.ntmps30
    go_wp2
    go_ret2
    exact ⟨rfl, rfl⟩
theorem at_nil (w : World) (i : Int) : Calls Tryd.prog 30 #[.pointer none, .int .i64 i] w fun e w' => e = .returned (.tuple #[.pointer none, .int .i64 7]) ∧ w' = w := by
  go_enter Tryd.func30, Tryd.ntmps30
  go_wp2
  go_ret2
  exact ⟨rfl, rfl⟩
end Go.Proofs.YtpfpdbbgiimnmaaDoor.Net
