/- A NET AS IT LIES IN MEMORY: its block, its hosts', their queues, the bytes of what is queued; what stays of it. Conditions: none. -/
import Derived.Test.YtpfpdbbgiimnmaaDoorEr
import Derived.Test.YtpfpdbbgiimnmaaDoorMod
import Derived.Test.YtpfpdbbgiimnmaaDoorWWords
import Derived.WalkKit
import Derived.Deep.OwnRows
import Derived.Deep.Heap
import Derived.Lib.Hide
import Derived.ArgAppend
import Derived.Deep.LoopGhost
import Derived.Deep.DeepCutAuto
import Derived.Deep.CutBlock
import Derived.Deep.QuietTactic
import Derived.BigQuiet
import Derived.RowKit3
import Derived.Tactics
namespace Go.Proofs.YtpfpdbbgiimnmaaDoor.Net
open Go.RowKit Go.Proofs.YtpfpdbbgiimnmaaDoor.Er Go.Proofs.YtpfpdbbgiimnmaaDoor.Mod Go.Proofs.YtpfpdbbgiimnmaaDoorW.PrintWords

/-! ### what has turned -/
structure Fr (w w' : World) (S : Nat → Prop) : Prop where
  os : w'.os = w.os
  tape : w'.tape = w.tape
  output : w'.output = w.output
  size : w.heap.size ≤ w'.heap.size
  block : ∀ k, k < w.heap.size → ¬ S k → w'.heap[k]? = w.heap[k]?
theorem Fr.refl (w : World) (S : Nat → Prop) : Fr w w S := ⟨rfl, rfl, rfl, Nat.le_refl _, fun _ _ _ => rfl⟩
theorem Fr.trans {w w' w'' : World} {S T : Nat → Prop} (h : Fr w w' S) (k : Fr w' w'' T) (hT : ∀ i, i < w.heap.size → T i → S i) : Fr w w'' S :=
  ⟨k.os.trans h.os, k.tape.trans h.tape, k.output.trans h.output, Nat.le_trans h.size k.size, fun i hi hs => (k.block i (Nat.lt_of_lt_of_le hi h.size) (fun e => hs (hT i hi e))).trans (h.block i hi hs)⟩
theorem Fr.of_below {w w' : World} {S : Nat → Prop} (h : Below w.heap.size w w') : Fr w w' S := ⟨h.os, h.tape, h.output, h.size, fun k hk _ => h.block k hk⟩
theorem Fr.and {w w' w'' : World} {S : Nat → Prop} (h : Fr w w' S) (k : Below w'.heap.size w' w'') : Fr w w'' S := h.trans (Fr.of_below (S := S) k) (fun _ _ e => e)
theorem Fr.alloc {w w' : World} {S : Nat → Prop} (h : Fr w w' S) (o : Obj) : Fr w (w'.alloc o) S := h.and ((Below.refl _ _).alloc (Nat.le_refl _) o)
theorem Fr.drew {w w' : World} {S : Nat → Prop} (h : Fr w w' S) : Fr w w'.drew S := ⟨h.os, h.tape, h.output, h.size, h.block⟩
theorem Fr.drewN {w w' : World} {S : Nat → Prop} (h : Fr w w' S) (n : Nat) : Fr w (w'.drewN n) S := ⟨h.os, h.tape, h.output, h.size, h.block⟩
theorem Fr.set {w w' : World} {S : Nat → Prop} (h : Fr w w' S) {a : Addr} (ha : S a.block ∨ w.heap.size ≤ a.block) (v : Value) : Fr w (w'.setCell a v) S :=
  ⟨h.os, h.tape, h.output, by simpa using h.size, fun k hk hs => by
    have hne : k ≠ a.block := by
      rintro rfl
      rcases ha with ha | ha
      · exact hs ha
      · omega
    exact (Deep.blk_setCell_other _ _ _ _ hne).trans (h.block k hk hs)⟩
theorem Fr.grown {w w' w'' : World} {S : Nat → Prop} {row : Option Nat} (h : Fr w w' S) (hg : w'.grownBy w'' row) (hr : ∀ k, row = some k → S k ∨ w.heap.size ≤ k) : Fr w w'' S :=
  ⟨hg.os.trans h.os, hg.tape.trans h.tape, hg.output.trans h.output, Nat.le_trans h.size hg.size, fun k hk hs => (hg.block k (Nat.lt_of_lt_of_le hk h.size) (fun e => by
    rcases hr k e.symm with h | h
    · exact hs h
    · omega)).trans (h.block k hk hs)⟩
theorem Fr.mono {w w' : World} {S T : Nat → Prop} (h : Fr w w' S) (hT : ∀ k, S k → T k) : Fr w w' T := ⟨h.os, h.tape, h.output, h.size, fun k hk hs => h.block k hk (fun e => hs (hT k e))⟩
theorem Fr.below {w0 w w' : World} {S : Nat → Prop} {B : Nat} (h : Fr w w' S) (hb : Below B w0 w) (hB : B ≤ w.heap.size) (hS : ∀ k, S k → B ≤ k) : Below B w0 w' :=
  ⟨h.os.trans hb.os, h.tape.trans hb.tape, h.output.trans hb.output, Nat.le_trans hb.size h.size, fun k hk => (h.block k (Nat.lt_of_lt_of_le hk hB) (fun e => by have := hS k e; omega)).trans (hb.block k hk)⟩
theorem lt_of {w : World} {b : Nat} {o : Obj} (h : w.heap[b]? = some o) : b < w.heap.size := by
  rcases Nat.lt_or_ge b w.heap.size with h2 | h2
  · exact h2
  · rw [Array.getElem?_eq_none h2] at h; cases h

/-! ### bytes -/
/-- A slice that reads as bytes, in a block of bytes that satisfies bb. -/
def RB (bb : Nat → Prop) (w : World) (v : Value) (l : List Int) : Prop :=
  ∃ A c, v = .slice A l.length c ∧ l.length ≤ c ∧ l.length ≤ 140737488355328 ∧ (∀ x ∈ l, 0 ≤ x ∧ x < 256) ∧ (l ≠ [] → ∃ (b : Nat) (cur : Array Value), A = some ⟨b, 0, none⟩ ∧ bb b ∧ w.heap[b]? = some (.cells cur 5 (0, 0)) ∧ ∀ (j : Nat) (x : Int), l[j]? = some x → cur[j]? = some (Value.int .u8 x))
theorem RB.keep {bb bb' : Nat → Prop} {w w' : World} {v : Value} {l : List Int} (h : RB bb w v l) (hk : ∀ b cur, bb b → w.heap[b]? = some (.cells cur 5 (0, 0)) → w'.heap[b]? = w.heap[b]? ∧ bb' b) : RB bb' w' v l := by
  obtain ⟨A, c, h1, h2, h3, h4, h5⟩ := h
  refine ⟨A, c, h1, h2, h3, h4, fun hne => ?_⟩
  obtain ⟨b, cur, e, hb, hc, hx⟩ := h5 hne
  obtain ⟨k1, k2⟩ := hk b cur hb hc
  exact ⟨b, cur, e, k2, k1.trans hc, hx⟩
/-! ### queues -/
def itCells (l : List (Value × It)) : List Value := l.flatMap fun p => [p.1, Value.int .i64 p.2.due, Value.bool p.2.sp]
theorem itCells_len (l : List (Value × It)) : (itCells l).length = l.length * 3 := by
  induction l with
  | nil => rfl
  | cons x l ih => show (_ ++ itCells l).length = _; rw [List.length_append, ih]; simp; omega
theorem itCells_app (l m : List (Value × It)) : itCells (l ++ m) = itCells l ++ itCells m := by simp [itCells]
theorem it_at : ∀ (l : List (Value × It)) (i : Nat) (p : Value × It) (j : Nat), l[i]? = some p → j < 3 → (itCells l)[i * 3 + j]? = ([p.1, Value.int .i64 p.2.due, Value.bool p.2.sp] : List Value)[j]?
  | [], i, p, j, h, _ => by simp at h
  | x :: l, 0, p, j, h, hj => by
    obtain rfl : x = p := by simpa using h
    show ([x.1, Value.int .i64 x.2.due, Value.bool x.2.sp] ++ itCells l)[0 * 3 + j]? = _
    rw [Nat.zero_mul, Nat.zero_add, List.getElem?_append_left (by simpa using hj)]
  | x :: l, i + 1, p, j, h, hj => by
    show ([x.1, Value.int .i64 x.2.due, Value.bool x.2.sp] ++ itCells l)[(i + 1) * 3 + j]? = _
    rw [List.getElem?_append_right (by simp; omega), show (i + 1) * 3 + j - [x.1, Value.int .i64 x.2.due, Value.bool x.2.sp].length = i * 3 + j by simp; omega]
    exact it_at l i p j (by simpa using h) hj
/-- A row of datagrams, of one's own, with room or without. -/
def QR (w : World) (v : Value) (n : Nat) (xs : List Value) : Prop := xs.length = n * 3 ∧ ((v = .slice none 0 0 ∧ n = 0) ∨
  ∃ b cap cur, v = .slice (some ⟨b, 0, none⟩) n cap ∧ w.heap[b]? = some (.cells cur 74 (0, 0)) ∧ n ≤ cap ∧ cap ≤ maxLen ∧ cap * 3 ≤ cur.size ∧ cur.toList.take (n * 3) = xs)
theorem QR.nil (w : World) : QR w (.slice none 0 0) 0 [] := ⟨rfl, .inl ⟨rfl, rfl⟩⟩
theorem QR.keep {w w' : World} {v : Value} {n : Nat} {xs : List Value} (h : QR w v n xs) (hk : ∀ b, v.ownBlock = some b → w'.heap[b]? = w.heap[b]?) : QR w' v n xs := by
  obtain ⟨h1, h2⟩ := h
  refine ⟨h1, ?_⟩
  rcases h2 with h2 | ⟨b, cap, cur, e, hc, h3⟩
  · exact .inl h2
  · exact .inr ⟨b, cap, cur, e, (hk b (by rw [e]; rfl)).trans hc, h3⟩
theorem QR.of_own {w : World} {B : Nat} {v : Value} {n : Nat} {xs : List Value} (h : w.ownsRow B 74 3 v n xs) : QR w v n xs := by
  obtain ⟨h1, h2⟩ := h
  refine ⟨h1, ?_⟩
  rcases h2 with h2 | ⟨b, cap, cur, e, hb, hc, h3, h4, h5, h6⟩
  · exact .inl h2
  · exact .inr ⟨b, cap, cur, e, hc, h3, h4, Nat.le_of_eq h5.symm, h6⟩
theorem QR.type {w : World} {v : Value} {n b : Nat} {xs : List Value} (h : QR w v n xs) (hb : v.ownBlock = some b) : ∃ cur, w.heap[b]? = some (.cells cur 74 (0, 0)) := by
  rcases h.2 with ⟨rfl, _⟩ | ⟨b', cap, cur, rfl, hc, _⟩
  · cases hb
  · cases hb; exact ⟨cur, hc⟩
theorem QR.val {w : World} {v : Value} {n : Nat} {xs : List Value} (h : QR w v n xs) : ∃ A c, v = .slice A n c ∧ n ≤ c ∧ n ≤ maxLen := by
  rcases h.2 with ⟨rfl, rfl⟩ | ⟨b', cap, cur, rfl, _, h1, h2, _⟩
  · exact ⟨none, 0, rfl, Nat.le_refl _, Nat.zero_le _⟩
  · exact ⟨_, _, rfl, h1, Nat.le_trans h1 h2⟩
theorem QR.cells {w : World} {v : Value} {n : Nat} {xs : List Value} (h : QR w v n xs) (hn : 0 < n) : ∃ b cap, v = .slice (some ⟨b, 0, none⟩) n cap ∧ n ≤ cap ∧ cap ≤ maxLen ∧ b < w.heap.size ∧ (∀ j u, xs[j]? = some u → w.cell? ⟨b, j, none⟩ = some u) ∧ (∀ j, w.frozen? ⟨b, j, none⟩ = false) := by
  rcases h.2 with ⟨_, h⟩ | ⟨b, cap, cur, rfl, hc, h1, h2, h3, h4⟩
  · omega
  · refine ⟨b, cap, rfl, h1, h2, lt_of hc, fun j u hu => ?_, fun j => by simp [World.frozen?, hc]⟩
    have hj : j < n * 3 := by rw [← h.1]; exact (List.getElem?_eq_some_iff.1 hu).1
    rw [← h4, List.getElem?_take, if_pos hj] at hu
    simpa [World.cell?, hc] using hu
/-- A queue, as it lies at value v. -/
def QIs (bb : Nat → Prop) (w : World) (v : Value) (q : List It) : Prop := ∃ l : List (Value × It), l.map (·.2) = q ∧ QR w v l.length (itCells l) ∧ ∀ p ∈ l, RB bb w p.1 p.2.b
theorem QIs.nil (bb : Nat → Prop) (w : World) : QIs bb w (.slice none 0 0) [] := ⟨[], rfl, QR.nil w, fun _ h => by cases h⟩
theorem QIs.keep {bb bb' : Nat → Prop} {w w' : World} {v : Value} {q : List It} (h : QIs bb w v q) (hk : ∀ b, v.ownBlock = some b → w'.heap[b]? = w.heap[b]?) (hb : ∀ b cur, bb b → w.heap[b]? = some (.cells cur 5 (0, 0)) → w'.heap[b]? = w.heap[b]? ∧ bb' b) : QIs bb' w' v q := by
  obtain ⟨l, h1, h2, h3⟩ := h
  exact ⟨l, h1, h2.keep hk, fun p hp => (h3 p hp).keep hb⟩
/-! ### a net -/
def hoCell (v : Value) (x : Ho) : Nat → Value
  | 0 => .bool x.there
  | 1 => .int .i64 x.level
  | 10 => .int .i64 x.graft
  | 11 => .int .i64 x.cap
  | 12 => .int .i64 x.got
  | 13 => v
  | j => .int .i64 (x.fro (j - 2))
def hosCell (qv : Nat → Value) (s : Nt) (j : Nat) : Value := hoCell (qv (j / 14)) (s.h (j / 14)) (j % 14)
def ntCell (hb : Nat) (s : Nt) : Nat → Value
  | 0 => .int .i64 s.now
  | _ => .slice (some ⟨hb, 0, none⟩) s.n s.n
/-- The blocks that a net's calls write. -/
def NB (nb hb n : Nat) (qv : Nat → Value) (k : Nat) : Prop := k = nb ∨ k = hb ∨ ∃ i, i < n ∧ (qv i).ownBlock = some k
structure IsNet (bb : Nat → Prop) (w : World) (nb hb : Nat) (qv : Nat → Value) (s : Nt) : Prop where
  net : w.rowIs nb 72 2 (ntCell hb s)
  hos : w.rowIs hb 69 (s.n * 14) (hosCell qv s)
  qs : ∀ i, i < s.n → QIs bb w (qv i) (s.h i).q
  apart : ∀ i j k, i < s.n → j < s.n → (qv i).ownBlock = some k → (qv j).ownBlock = some k → i = j
  n1 : 1 ≤ s.n
  n16 : s.n ≤ 16
theorem hos_at (qv : Nat → Value) (s : Nt) (i c : Nat) (hc : c < 14) : hosCell qv s (i * 14 + c) = hoCell (qv i) (s.h i) c := by
  unfold hosCell
  rw [show (i * 14 + c) / 14 = i by omega, show (i * 14 + c) % 14 = c by omega]
theorem row_types {w : World} {b t t' n n' : Nat} {f f' : Nat → Value} (h : w.rowIs b t n f) (h' : w.rowIs b t' n' f') : t = t' := by
  obtain ⟨c, h1, _⟩ := h
  obtain ⟨c', h2, _⟩ := h'
  rw [h1] at h2; cases h2; rfl
theorem IsNet.types {bb : Nat → Prop} {w : World} {nb hb : Nat} {qv : Nat → Value} {s : Nt} (h : IsNet bb w nb hb qv s) {k : Nat} (hk : NB nb hb s.n qv k) : ∃ cur t, w.heap[k]? = some (.cells cur t (0, 0)) ∧ t ≠ 5 := by
  rcases hk with rfl | rfl | ⟨i, hi, hk⟩
  · obtain ⟨c, h1, _⟩ := h.net; exact ⟨c, _, h1, by decide⟩
  · obtain ⟨c, h1, _⟩ := h.hos; exact ⟨c, _, h1, by decide⟩
  · obtain ⟨l, _, h2, _⟩ := h.qs i hi
    obtain ⟨c, h1⟩ := h2.type hk
    exact ⟨c, _, h1, by decide⟩
theorem IsNet.lt {bb : Nat → Prop} {w : World} {nb hb : Nat} {qv : Nat → Value} {s : Nt} (h : IsNet bb w nb hb qv s) {k : Nat} (hk : NB nb hb s.n qv k) : k < w.heap.size := by
  obtain ⟨_, _, h1, _⟩ := h.types hk; exact lt_of h1
theorem IsNet.no_bytes {bb : Nat → Prop} {w : World} {nb hb : Nat} {qv : Nat → Value} {s : Nt} (h : IsNet bb w nb hb qv s) {k : Nat} (hk : NB nb hb s.n qv k) (cur : Array Value) : w.heap[k]? ≠ some (.cells cur 5 (0, 0)) := by
  obtain ⟨_, t, h1, h2⟩ := h.types hk
  rw [h1]; intro e; cases e; exact h2 rfl
theorem IsNet.nb_hb {bb : Nat → Prop} {w : World} {nb hb : Nat} {qv : Nat → Value} {s : Nt} (h : IsNet bb w nb hb qv s) : nb ≠ hb := by
  rintro rfl
  exact absurd (row_types h.net h.hos) (by decide)
theorem IsNet.nb_q {bb : Nat → Prop} {w : World} {nb hb : Nat} {qv : Nat → Value} {s : Nt} (h : IsNet bb w nb hb qv s) {i : Nat} (hi : i < s.n) : (qv i).ownBlock ≠ some nb ∧ (qv i).ownBlock ≠ some hb := by
  obtain ⟨l, _, h2, _⟩ := h.qs i hi
  constructor
  · intro e
    obtain ⟨c, h1⟩ := h2.type e
    obtain ⟨c', h3, _⟩ := h.net
    rw [h1] at h3; cases h3
  · intro e
    obtain ⟨c, h1⟩ := h2.type e
    obtain ⟨c', h3, _⟩ := h.hos
    rw [h1] at h3; cases h3
/-- What is done elsewhere. -/
theorem IsNet.keep {bb bb' : Nat → Prop} {w w' : World} {nb hb : Nat} {qv : Nat → Value} {s : Nt} {S : Nat → Prop} (h : IsNet bb w nb hb qv s) (hf : Fr w w' S) (h1 : ∀ k, S k → ¬ NB nb hb s.n qv k) (h2 : ∀ k cur, S k → bb k → w.heap[k]? ≠ some (.cells cur 5 (0, 0))) (h3 : ∀ k, bb k → k < w.heap.size → bb' k) : IsNet bb' w' nb hb qv s := by
  have hB : ∀ k, NB nb hb s.n qv k → w'.heap[k]? = w.heap[k]? := fun k hk => hf.block k (h.lt hk) (fun e => h1 k e hk)
  exact ⟨h.net.of_block (hB nb (.inl rfl)), h.hos.of_block (hB hb (.inr (.inl rfl))), fun i hi => (h.qs i hi).keep (fun b hb' => hB b (.inr (.inr ⟨i, hi, hb'⟩))) (fun b cur hbb hc => ⟨hf.block b (lt_of hc) (fun e => h2 b cur e hbb hc), h3 b hbb (lt_of hc)⟩), h.apart, h.n1, h.n16⟩
theorem IsNet.below {bb : Nat → Prop} {w w' : World} {nb hb : Nat} {qv : Nat → Value} {s : Nt} (h : IsNet bb w nb hb qv s) (hb' : Below w.heap.size w w') : IsNet bb w' nb hb qv s :=
  h.keep (S := fun _ => False) (Fr.of_below hb') (fun _ e => e.elim) (fun _ _ e => e.elim) (fun _ e _ => e)
theorem IsNet.drew {bb : Nat → Prop} {w : World} {nb hb : Nat} {qv : Nat → Value} {s : Nt} (h : IsNet bb w nb hb qv s) : IsNet bb w.drew nb hb qv s := h.below (Below.refl _ _).drew
theorem IsNet.drewN {bb : Nat → Prop} {w : World} {nb hb : Nat} {qv : Nat → Value} {s : Nt} (h : IsNet bb w nb hb qv s) (n : Nat) : IsNet bb (w.drewN n) nb hb qv s := h.below (pw_below_drewN (Below.refl _ _) n)
theorem IsNet.alloc {bb : Nat → Prop} {w : World} {nb hb : Nat} {qv : Nat → Value} {s : Nt} (h : IsNet bb w nb hb qv s) (o : Obj) : IsNet bb (w.alloc o) nb hb qv s := h.below ((Below.refl _ _).alloc (Nat.le_refl _) o)
/-- A cell of the hosts' block is written. -/
theorem IsNet.setHo {bb : Nat → Prop} {w : World} {nb hb : Nat} {qv qv' : Nat → Value} {s s' : Nt} (h : IsNet bb w nb hb qv s) (j : Nat) (v : Value) (hn : s'.n = s.n) (hnow : s'.now = s.now) (hc : ∀ k, k < s.n * 14 → (if k = j then v else hosCell qv s k) = hosCell qv' s' k)
    (hq : ∀ i, i < s.n → qv' i = qv i ∧ (s'.h i).q = (s.h i).q ∨ qv' i = .slice none 0 0 ∧ (s'.h i).q = []) : IsNet bb (w.setCell ⟨hb, j, none⟩ v) nb hb qv' s' := by
  have hfr : Fr w (w.setCell ⟨hb, j, none⟩ v) (fun k => k = hb) := (Fr.refl w (fun k => k = hb)).set (a := ⟨hb, j, none⟩) (.inl rfl) v
  refine ⟨?_, ?_, ?_, ?_, by rw [hn]; exact h.n1, by rw [hn]; exact h.n16⟩
  · refine (h.net.of_block (hfr.block nb h.net.lt h.nb_hb)).congr (fun i hi => ?_)
    match i, hi with
    | 0, _ => show Value.int .i64 s.now = Value.int .i64 s'.now; rw [hnow]
    | 1, _ => show Value.slice _ s.n s.n = Value.slice _ s'.n s'.n; rw [hn]
  · rw [hn]; exact (h.hos.set j v).congr hc
  · intro i hi
    rw [hn] at hi
    rcases hq i hi with ⟨e1, e2⟩ | ⟨e1, e2⟩
    · rw [e1, e2]
      refine (h.qs i hi).keep (fun b hb' => hfr.block b (h.lt (.inr (.inr ⟨i, hi, hb'⟩))) (fun e => (h.nb_q hi).2 (by rw [hb', e]))) (fun b cur hbb hc' => ⟨hfr.block b (lt_of hc') (fun e => ?_), hbb⟩)
      exact h.no_bytes (.inr (.inl e)) cur hc'
    · rw [e1, e2]; exact QIs.nil _ _
  · intro i j' k hi hj hki hkj
    rw [hn] at hi hj
    rcases hq i hi with ⟨e1, _⟩ | ⟨e1, _⟩
    · rcases hq j' hj with ⟨e2, _⟩ | ⟨e2, _⟩
      · rw [e1] at hki; rw [e2] at hkj; exact h.apart i j' k hi hj hki hkj
      · rw [e2] at hkj; cases hkj
    · rw [e1] at hki; cases hki
end Go.Proofs.YtpfpdbbgiimnmaaDoor.Net
