/- BYTES IN MEMORY: as they may be read; rows of one's own; what stays of the rest; copies; bytes as arguments. Conditions: none. -/
import Derived.Test.YtfcofokbhhnfkaaDoorEr
import Derived.Test.YtfcofokbhhnfkaaDoorWWords
import Derived.Test.YtfcofokbhhnfkaaDoorWLast
import Derived.WalkKit
import Derived.ProofKit
import Derived.OpenShut
import Derived.SizedLaws
import Derived.Deep.OwnRows
import Derived.Deep.Heap
import Derived.Deep.Slices
import Derived.Lib.Hide
import Derived.ArgAppend
import Derived.Deep.LoopGhost
import Derived.Deep.DeepCutAuto
import Derived.Deep.CutBlock
import Derived.Deep.QuietTactic
import Derived.BigQuiet
import Derived.RowKit3
import Derived.Tactics
import Derived.Deep.Upon
import Derived.Deep.DeepAppendWide
import Derived.Laws.Tables
import Derived.Laws.BytesArg
import Derived.Laws.BitsAllLaws
import Derived.Shelf.Bytes.SlSmallAll
import Derived.Lib.SmallJoins
namespace Go.Proofs.YtfcofokbhhnfkaaDoor.Byt
set_option linter.unusedSimpArgs false
set_option linter.unusedVariables false
open Go.ChangeShapes Go.WideShapes Go.RowKit Go.Deep Go.Proofs.YtfcofokbhhnfkaaDoor.Er Go.Proofs.YtfcofokbhhnfkaaDoorW.PrintWords Go.Proofs.YtfcofokbhhnfkaaDoorW.PrintLast
structure Fr (w w' : World) (S : Nat → Prop) : Prop where
  os : w'.os = w.os
  tape : w'.tape = w.tape
  output : w'.output = w.output
  size : w.heap.size ≤ w'.heap.size
  block : ∀ k, k < w.heap.size → ¬ S k → w'.heap[k]? = w.heap[k]?
theorem Fr.refl (w : World) (S : Nat → Prop) : Fr w w S := ⟨rfl, rfl, rfl, Nat.le_refl _, fun _ _ _ => rfl⟩
theorem Fr.trans {w w' w'' : World} {S T : Nat → Prop} (h : Fr w w' S) (k : Fr w' w'' T) (hT : ∀ i, i < w.heap.size → T i → S i) : Fr w w'' S :=
  ⟨k.os.trans h.os, k.tape.trans h.tape, k.output.trans h.output, Nat.le_trans h.size k.size, fun i hi hs => (k.block i (Nat.lt_of_lt_of_le hi h.size) (fun e => hs (hT i hi e))).trans (h.block i hi hs)⟩
theorem Fr.of_below {w w' : World} {S : Nat → Prop} (h : Below w.heap.size w w') : Fr w w' S := ⟨h.os, h.tape, h.output, h.size, fun k hk _ => h.block k hk⟩
theorem Fr.and {w w' w'' : World} {S : Nat → Prop} (h : Fr w w' S) (k : Below w'.heap.size w' w'') : Fr w w'' S := h.trans (Fr.of_below (S := S) k) (fun _ _ e => e)
theorem Fr.alloc {w w' : World} {S : Nat → Prop} (h : Fr w w' S) (o : Obj) : Fr w (w'.alloc o) S := h.and ((Below.refl _ _).alloc (Nat.le_refl _) o)
theorem Fr.drew {w w' : World} {S : Nat → Prop} (h : Fr w w' S) : Fr w w'.drew S := ⟨h.os, h.tape, h.output, h.size, h.block⟩
theorem Fr.drewN {w w' : World} {S : Nat → Prop} (h : Fr w w' S) (n : Nat) : Fr w (w'.drewN n) S := ⟨h.os, h.tape, h.output, h.size, h.block⟩
theorem Fr.set {w w' : World} {S : Nat → Prop} (h : Fr w w' S) {a : Addr} (ha : S a.block ∨ w.heap.size ≤ a.block) (v : Value) : Fr w (w'.setCell a v) S :=
  ⟨h.os, h.tape, h.output, by simpa using h.size, fun k hk hs => by
    have hne : k ≠ a.block := by
      rintro rfl
      rcases ha with ha | ha
      · exact hs ha
      · omega
    exact (Deep.blk_setCell_other _ _ _ _ hne).trans (h.block k hk hs)⟩
theorem Fr.grown {w w' w'' : World} {S : Nat → Prop} {row : Option Nat} (h : Fr w w' S) (hg : w'.grownBy w'' row) (hr : ∀ k, row = some k → S k ∨ w.heap.size ≤ k) : Fr w w'' S :=
  ⟨hg.os.trans h.os, hg.tape.trans h.tape, hg.output.trans h.output, Nat.le_trans h.size hg.size, fun k hk hs => (hg.block k (Nat.lt_of_lt_of_le hk h.size) (fun e => by
    rcases hr k e.symm with h | h
    · exact hs h
    · omega)).trans (h.block k hk hs)⟩
theorem Fr.mono {w w' : World} {S T : Nat → Prop} (h : Fr w w' S) (hT : ∀ k, S k → T k) : Fr w w' T := ⟨h.os, h.tape, h.output, h.size, fun k hk hs => h.block k hk (fun e => hs (hT k e))⟩
theorem Fr.below {w0 w w' : World} {S : Nat → Prop} {B : Nat} (h : Fr w w' S) (hb : Below B w0 w) (hB : B ≤ w.heap.size) (hS : ∀ k, S k → B ≤ k) : Below B w0 w' :=
  ⟨h.os.trans hb.os, h.tape.trans hb.tape, h.output.trans hb.output, Nat.le_trans hb.size h.size, fun k hk => (h.block k (Nat.lt_of_lt_of_le hk hB) (fun e => by have := hS k e; omega)).trans (hb.block k hk)⟩
theorem lt_of {w : World} {b : Nat} {o : Obj} (h : w.heap[b]? = some o) : b < w.heap.size := by
  rcases Nat.lt_or_ge b w.heap.size with h2 | h2
  · exact h2
  · rw [Array.getElem?_eq_none h2] at h; cases h

/-- A slice that reads as bytes, in a block of bytes that satisfies bb. -/
def RB (bb : Nat → Prop) (w : World) (v : Value) (l : List Int) : Prop :=
  ∃ A c, v = .slice A l.length c ∧ l.length ≤ c ∧ l.length ≤ 140737488355328 ∧ (∀ x ∈ l, 0 ≤ x ∧ x < 256) ∧ (l ≠ [] → ∃ (b : Nat) (cur : Array Value), A = some ⟨b, 0, none⟩ ∧ bb b ∧ w.heap[b]? = some (.cells cur 5 (0, 0)) ∧ ∀ (j : Nat) (x : Int), l[j]? = some x → cur[j]? = some (Value.int .u8 x))
theorem RB.keep {bb bb' : Nat → Prop} {w w' : World} {v : Value} {l : List Int} (h : RB bb w v l) (hk : ∀ b cur, bb b → w.heap[b]? = some (.cells cur 5 (0, 0)) → w'.heap[b]? = w.heap[b]? ∧ bb' b) : RB bb' w' v l := by
  obtain ⟨A, c, h1, h2, h3, h4, h5⟩ := h
  refine ⟨A, c, h1, h2, h3, h4, fun hne => ?_⟩
  obtain ⟨b, cur, e, hb, hc, hx⟩ := h5 hne
  obtain ⟨k1, k2⟩ := hk b cur hb hc
  exact ⟨b, cur, e, k2, k1.trans hc, hx⟩
/-- Bytes, wherever they lie in blocks of D. -/
def RdB (D : Nat → Prop) (w : World) (v : Value) (l : List Int) : Prop :=
  ∃ A c, v = .slice A l.length c ∧ l.length ≤ c ∧ l.length ≤ 140737488355328 ∧ (∀ x ∈ l, 0 ≤ x ∧ x < 256) ∧ (l ≠ [] → ∃ a : Addr, A = some a ∧ D a.block ∧ ∀ (j : Nat) (x : Int), l[j]? = some x → w.cell? (a.add j) = some (.int .u8 x))
theorem cell_blk {w w' : World} {a : Addr} (h : w'.heap[a.block]? = w.heap[a.block]?) : w'.cell? a = w.cell? a := World.cell?_of_block h
theorem add_block (a : Addr) (n : Nat) : (a.add n).block = a.block := by unfold Addr.add; split <;> rfl
theorem RdB.keep {D : Nat → Prop} {w w' : World} {v : Value} {l : List Int} (h : RdB D w v l) (hk : ∀ k, D k → w'.heap[k]? = w.heap[k]?) : RdB D w' v l := by
  obtain ⟨A, c, h1, h2, h3, h4, h5⟩ := h
  refine ⟨A, c, h1, h2, h3, h4, fun hne => ?_⟩
  obtain ⟨a, e, hD, hx⟩ := h5 hne
  exact ⟨a, e, hD, fun j x hj => (cell_blk (by rw [add_block]; exact hk _ hD)).trans (hx j x hj)⟩
theorem infoU : (Tryd.prog.info? 5).map (fun i => (i.zero, i.size, i.bytes)) = some (some (.int .u8 0), 1, 1) := by kernel_rfl
theorem info_parts {t : TypeId} {z : Value} {n b : Nat} (h : (Tryd.prog.info? t).map (fun i => (i.zero, i.size, i.bytes)) = some (some z, n, b)) : ∃ i, Tryd.prog.info? t = some i ∧ i.zero = some z ∧ i.size = n ∧ i.bytes = b := by
  cases hi : Tryd.prog.info? t with
  | none => rw [hi] at h; cases h
  | some i =>
    rw [hi] at h
    simp only [Option.map_some, Option.some.injEq, Prod.mk.injEq] at h
    exact ⟨i, rfl, h.1, h.2.1, h.2.2⟩
theorem Fr.setRow {w w' : World} {S : Nat → Prop} (h : Fr w w' S) {g : Nat} (hg : S g ∨ w.heap.size ≤ g) (cs : Array Value) : Fr w (w'.setRow g cs) S :=
  ⟨h.os, h.tape, h.output, by simpa using h.size, fun k hk hs => by
    have hne : k ≠ g := by
      rintro rfl
      rcases hg with hg | hg
      · exact hs hg
      · omega
    exact (setRow_other _ _ _ _ hne).trans (h.block k hk hs)⟩
/-- Bytes, copied behind an empty slice. -/
theorem RdB.copy {D : Nat → Prop} {w : World} {v : Value} {l : List Int} (h : RdB D w v l) (ty : TypeId) (g : Addr) (bb : Nat → Prop) (hbb : ∀ k, w.heap.size ≤ k → bb k) :
    ∃ v' w', (Builtin.append_ #[22, 22] ty #[.slice (some g) 0 0, v]).run Tryd.prog w = .ok v' w' ∧ RB bb w' v' l ∧ Below w.heap.size w w' := by
  obtain ⟨i, hi, hz0, hz1, hz2⟩ := info_parts infoU
  obtain ⟨A, c, rfl, h1, h2, h3, h4⟩ := h
  by_cases hl : l = []
  · subst hl
    refine ⟨.slice (some g) 0 0, w, ?_, ⟨some g, 0, rfl, Nat.le_refl _, by simp, by simp, fun e => absurd rfl e⟩, Below.refl _ _⟩
    refine run_append_nothing (P := Tryd.prog) w _ _ ty 5 i Tryd.underlying22 hi (some g) 0 0 (Nat.le_refl _) _ ?_
    cases A with
    | none => exact Src.ofNil (P := Tryd.prog) w Tryd.underlying22 c
    | some a => exact Src.ofSlice (P := Tryd.prog) w Tryd.underlying22 a 0 c [] (by simp) (by simp) (by simp)
  · obtain ⟨a, rfl, _, hx⟩ := h4 hl
    have hpos : 0 < l.length := List.length_pos_iff.2 hl
    obtain ⟨v', w', hr, ho, hg⟩ := run_append_arg_grows (P := Tryd.prog) w 22 ty 5 i _ 1 1 Tryd.underlying22 hi hz0 hz1 hz2 rfl (by decide) g 0 0 [] rfl (by simp) a l.length c (l.map fun x => .int .u8 x) (by simp) (fun j u hu => by
      rw [List.getElem?_map] at hu
      cases e : l[j]? with
      | none => rw [e] at hu; cases hu
      | some x => rw [e] at hu; cases hu; exact hx j x e) (by omega) (by simp only [maxLen]; omega) (by omega)
    refine ⟨v', w', hr, ?_, ⟨hg.os, hg.tape, hg.output, hg.size, fun k hk => hg.block k hk (by simp)⟩⟩
    obtain ⟨e1, e2⟩ := ho
    rw [Nat.zero_add] at e2
    rcases e2 with ⟨_, e⟩ | ⟨b, cap, cur, rfl, hb, hcur, k1, k2, k3, k4⟩
    · omega
    · refine ⟨_, cap, rfl, k1, by omega, h3, fun _ => ⟨b, cur, rfl, hbb b hb, hcur, fun j x hj => ?_⟩⟩
      have hjl : j < l.length := (List.getElem?_eq_some_iff.1 hj).1
      have e : (cur.toList.take (l.length * 1))[j]? = some (.int .u8 x) := by rw [k4, List.nil_append, List.getElem?_map, hj]; rfl
      rw [Nat.mul_one, List.getElem?_take, if_pos hjl] at e
      simpa using e
theorem run_app {a : Act} {o : Oper} {s x : Operand} {t : TypeId} {W W' : World} {v' sv xv : Value} (ho : o.op = .call { callee := .builtin .append, args := #[s, x], argTypes := #[t, t] }) (hs : a.eval s = sv) (hx : a.eval x = xv) (hr : (Builtin.append_ #[t, t] o.type #[sv, xv]).run Tryd.prog W = .ok v' W') : (execOp a.eval o).run Tryd.prog W = .ok (.value v') W' := by
  simp [execOp, ho, resolve, invoke, builtin, hs, hx, hr, Result.andThen]
theorem RB.rd {bb : Nat → Prop} {w : World} {v : Value} {l : List Int} (h : RB bb w v l) (hl : l.length ≤ 140737488355328) : RdB bb w v l := by
  obtain ⟨A, c, h1, h2, h3, h4, h5⟩ := h
  refine ⟨A, c, h1, h2, hl, h4, fun hne => ?_⟩
  obtain ⟨b, cur, e, hb, hc, hx⟩ := h5 hne
  refine ⟨_, e, hb, fun j x hj => ?_⟩
  have hadd : (⟨b, 0, none⟩ : Addr).add j = ⟨b, j, none⟩ := by unfold Addr.add; split <;> simp_all
  rw [hadd]
  simp [World.cell?, hc, hx j x hj]
/-- Bytes that a law has made. -/
theorem rd_lit {D : Nat → Prop} {w : World} {b : Nat} {l : List Int} {t : TypeId} (h : w.heap[b]? = some (.cells (l.map (Value.int .u8)).toArray t (0, 0))) (hD : D b) (hl : l.length ≤ 140737488355328) (hx : ∀ x ∈ l, 0 ≤ x ∧ x < 256) : RdB D w (.slice (some ⟨b, 0, none⟩) l.length l.length) l := by
  refine ⟨_, _, rfl, Nat.le_refl _, hl, hx, fun _ => ⟨_, rfl, hD, fun j x hj => ?_⟩⟩
  have hadd : (⟨b, 0, none⟩ : Addr).add j = ⟨b, j, none⟩ := by unfold Addr.add; split <;> simp_all
  rw [hadd]
  simp [World.cell?, h, hj]
theorem RdB.str {D : Nat → Prop} {w : World} {v : Value} {l : List Int} (h : RdB D w v l) : (convert 22 9 v).run Tryd.prog w = .ok (.string (strOfNums l)) w := by
  obtain ⟨A, c, rfl, h1, h2, h3, h4⟩ := h
  by_cases hl : l = []
  · subst hl
    have := run_convert_bytes_zero (P := Tryd.prog) w 22 5 Tryd.underlying22 Tryd.underlying5 A c 9 Tryd.underlying9
    exact this
  · obtain ⟨⟨b, o, sp⟩, rfl, _, hx⟩ := h4 hl
    have c0 : ∀ (j : Nat) (x : Int), l[j]? = some x → w.cell? ⟨b, o + j, none⟩ = some (.int .u8 x) ∧ sp = none := by
      have hs : sp = none := by
        cases l with
        | nil => exact absurd rfl hl
        | cons y ys =>
          have := hx 0 y rfl
          have e : (⟨b, o, sp⟩ : Addr).add 0 = ⟨b, o, sp⟩ := rfl
          rw [e] at this
          unfold World.cell? at this
          cases sp
          · rfl
          · simp at this; split at this <;> simp_all
      subst hs
      intro j x hj
      have hadd : (⟨b, o, none⟩ : Addr).add j = ⟨b, o + j, none⟩ := by unfold Addr.add; split <;> simp_all
      exact ⟨by rw [← hadd]; exact hx j x hj, rfl⟩
    obtain rfl : sp = none := by
      cases l with
      | nil => exact absurd rfl hl
      | cons y ys => exact (c0 0 y rfl).2
    exact run_convert_bytes_arg (P := Tryd.prog) w 22 5 Tryd.underlying22 Tryd.underlying5 b o l.length c l rfl (fun i hi => by
      rw [(c0 i (l[i]'hi) (List.getElem?_eq_getElem _)).1, List.getD_eq_getElem?_getD, List.getElem?_eq_getElem hi]
      rfl) 9 Tryd.underlying9
theorem own_keep {w w' : World} {B e sz : Nat} {v : Value} {n : Nat} {xs : List Value} (h : w.ownsRow B e sz v n xs) (hk : ∀ b, v.ownBlock = some b → w'.heap[b]? = w.heap[b]?) : w'.ownsRow B e sz v n xs := by
  obtain ⟨h1, h2⟩ := h
  refine ⟨h1, ?_⟩
  rcases h2 with h2 | ⟨b, cap, cur, e1, hb, hc, h3⟩
  · exact .inl h2
  · exact .inr ⟨b, cap, cur, e1, hb, (hk b (by rw [e1]; rfl)).trans hc, h3⟩
theorem own_at {w : World} {B e sz : Nat} {v : Value} {n : Nat} {xs : List Value} (h : w.ownsRow B e sz v n xs) {b : Nat} (hb : v.ownBlock = some b) : B ≤ b ∧ ∃ cur, w.heap[b]? = some (.cells cur e (0, 0)) := by
  rcases h.2 with ⟨rfl, _⟩ | ⟨b', cap, cur, rfl, hB, hc, _⟩
  · cases hb
  · cases hb; exact ⟨hB, cur, hc⟩
theorem own_below {w w' : World} {B e sz : Nat} {v : Value} {n : Nat} {xs : List Value} (h : w.ownsRow B e sz v n xs) (hb : Below w.heap.size w w') : w'.ownsRow B e sz v n xs :=
  own_keep h (fun b e => by obtain ⟨_, cur, hc⟩ := own_at h e; exact hb.block b (lt_of hc))
theorem own_other {w w' : World} {B B' e e' sz sz' : Nat} {v u : Value} {n n' : Nat} {xs xs' : List Value} (h : w.ownsRow B e sz v n xs) (k : w.ownsRow B' e' sz' u n' xs') (he : e ≠ e') (hg : w.grownBy w' u.ownBlock) : w'.ownsRow B e sz v n xs :=
  own_keep h (fun b eb => by
    obtain ⟨_, cur, hc⟩ := own_at h eb
    refine hg.block b (lt_of hc) (fun e2 => ?_)
    obtain ⟨_, cur', hc'⟩ := own_at k e2.symm
    rw [hc] at hc'; cases hc'; exact he rfl)
theorem below_grown {w w' w0 : World} {B : Nat} {row : Option Nat} (h : Below B w0 w) (hg : w.grownBy w' row) (hB : B ≤ w.heap.size) (hr : ∀ k, row = some k → B ≤ k) : Below B w0 w' :=
  ⟨hg.os.trans h.os, hg.tape.trans h.tape, hg.output.trans h.output, Nat.le_trans h.size hg.size, fun k hk => (hg.block k (Nat.lt_of_lt_of_le hk hB) (fun e => by have := hr k e.symm; omega)).trans (h.block k hk)⟩
theorem cells_new (w : World) (cs : List Value) (t : TypeId) (b : Nat) (hb : b = w.heap.size) : ∀ j u, cs[j]? = some u → (w.alloc (.cells cs.toArray t)).cell? ((⟨b, 0, none⟩ : Addr).add j) = some u := by
  intro j u hu
  subst hb
  have hadd : (⟨w.heap.size, 0, none⟩ : Addr).add j = ⟨w.heap.size, j, none⟩ := by unfold Addr.add; split <;> simp_all
  rw [hadd, World.cell?_alloc_at _ _ _ _ rfl]
  simpa using hu
theorem RdB.drewN {D : Nat → Prop} {w : World} {v : Value} {l : List Int} (h : RdB D w v l) (n : Nat) : RdB D (w.drewN n) v l := h
/-- The bytes of one place of what was taken, and of one datagram. -/
def StrAt (w : World) (v : Value) (l : List Int) : Prop := ∀ n, (convert 22 9 v).run Tryd.prog (w.drewN n) = .ok (.string (strOfNums l)) (w.drewN n)
theorem RdB.strs {D : Nat → Prop} {w : World} {v : Value} {l : List Int} (h : RdB D w v l) : StrAt w v l := fun n => (h.drewN n).str
/-- append([]byte{}, v...) in a plain region. -/
theorem wp_copy {ops : Array Oper} {rest : List Oper} {o : Oper} {a : Act} {Q : Exit → Act → World → Prop} {w : World} {D : Nat → Prop} {v : Value} {l : List Int} {g : Addr} (hgd : o.guard = none) (s x : Operand) (ho : o.op = .call { callee := .builtin .append, args := #[s, x], argTypes := #[22, 22] }) (hs : a.eval s = .slice (some g) 0 0) (hx : a.eval x = v) (h : RdB D w v l)
    (k : ∀ (A' : Option Addr) (c' : Nat) (w' : World), RB (fun k => w.heap.size ≤ k) w' (.slice A' l.length c') l → Below w.heap.size w w' → wpList Tryd.prog ops Q rest (a.put o.dst (.slice A' l.length c')) w') : wpList Tryd.prog ops Q (o :: rest) a w := by
  obtain ⟨v8, w8, hr, hRB, hB⟩ := h.copy o.type g (fun k => w.heap.size ≤ k) (fun k hk => hk)
  obtain ⟨A8, c8, rfl, _⟩ : ∃ A8 c8, v8 = .slice A8 l.length c8 ∧ True := by obtain ⟨A8, c8, e, _⟩ := hRB; exact ⟨A8, c8, e, trivial⟩
  refine wpList_plain hgd fun K hK => ?_
  unfold Oper.wp
  rw [run_app ho hs hx hr]
  exact hK _ _ (k A8 c8 w8 hRB hB)
theorem RB.rdt {bb : Nat → Prop} {w : World} {v : Value} {l : List Int} (h : RB bb w v l) : RdB (fun _ => True) w v l := by
  obtain ⟨A, c, h1, h2, h3, h4, h5⟩ := h.rd (by obtain ⟨_, _, _, _, h3, _⟩ := h; exact h3)
  exact ⟨A, c, h1, h2, h3, h4, fun hne => by obtain ⟨a, e, _, q⟩ := h5 hne; exact ⟨a, e, trivial, q⟩⟩
theorem RB.below {bb : Nat → Prop} {w w' : World} {v : Value} {l : List Int} (h : RB bb w v l) (hb : Below w.heap.size w w') : RB bb w' v l := h.keep (fun b cur e1 e2 => ⟨hb.block b (lt_of e2), e1⟩)
theorem RdB.below {w w' : World} {v : Value} {l : List Int} (h : RdB (fun _ => True) w v l) (hb : Below w.heap.size w w') : RdB (fun _ => True) w' v l := by
  obtain ⟨A2, c2, k1, k2, k3, k4, k5⟩ := h
  refine ⟨A2, c2, k1, k2, k3, k4, fun hne => ?_⟩
  obtain ⟨a, q1, _, q3⟩ := k5 hne
  exact ⟨a, q1, trivial, fun j x hj => (hb.cell (World.block_lt_of_cell? w _ (q3 j x hj))).trans (q3 j x hj)⟩
theorem RB.mono {bb bb' : Nat → Prop} {w : World} {v : Value} {l : List Int} (h : RB bb w v l) (hb : ∀ k, bb k → bb' k) : RB bb' w v l := h.keep (fun b cur e1 e2 => ⟨rfl, hb b e1⟩)
theorem RB.rdlt {bb : Nat → Prop} {w : World} {v : Value} {l : List Int} (h : RB bb w v l) : RdB (fun k => k < w.heap.size) w v l := by
  obtain ⟨A, c, h1, h2, h3, h4, h5⟩ := h
  refine ⟨A, c, h1, h2, h3, h4, fun hne => ?_⟩
  obtain ⟨b, cur, e, hb, hc, hx⟩ := h5 hne
  refine ⟨_, e, lt_of hc, fun j x hj => ?_⟩
  have hadd : (⟨b, 0, none⟩ : Addr).add j = ⟨b, j, none⟩ := by unfold Addr.add; split <;> simp_all
  rw [hadd]
  simp [World.cell?, hc, hx j x hj]
theorem weightsAll_mem {H : Type} {P : Program} {e : TypeId} : ∀ {l : List (DataW H)} {d : DataW H}, d ∈ l → ∀ n ∈ d.weights P e, n ∈ DataW.weightsAll P e l
  | x :: l, d, hd, n, hn => by
    show n ∈ x.weights P e ++ DataW.weightsAll P e l
    rcases List.mem_cons.1 hd with rfl | hd
    · exact List.mem_append.2 (.inl hn)
    · exact List.mem_append.2 (.inr (weightsAll_mem hd n hn))
theorem bytesU8 : Tryd.prog.bytesOf 5 = 1 := by kernel_rfl
theorem celU8 : Tryd.prog.cellsOf 5 = 1 := by kernel_rfl
theorem celI : Tryd.prog.cellsOf 3 = 1 := by kernel_rfl
theorem celBs : Tryd.prog.cellsOf 22 = 1 := by kernel_rfl
set_option linter.constructorNameAsVariable false in
set_option maxRecDepth 100000 in
theorem bs_arg {H : Type} {enc : TypeId × Value → H} {W : World} {fuel : Nat} {A : Option Addr} {L C : Nat} {d : DataW H} {ps : List MemPlace} (hf : DataW.trod enc Tryd.prog W 0 (fun _ => true) true fuel 22 [.slice A L C] = some (d, ps))
    (hw : ∀ n ∈ d.weights Tryd.prog 22, n ≤ reachBytes) : ∃ l : List Int, L = l.length ∧ RdB (fun k => k < W.heap.size) W (.slice A L C) l := by
  rcases open_ints Tryd.underlying22 Tryd.underlying5 celU8 hf with ⟨hcs, hx⟩ | ⟨a, len, cap, zs, hcs, hb, hl, hm, hz, hx, hcell, hwf⟩
  · simp only [List.cons.injEq, Value.slice.injEq, and_true] at hcs
    obtain ⟨rfl, rfl, rfl⟩ := hcs
    exact ⟨[], rfl, none, 0, rfl, Nat.le_refl _, by simp, by simp, fun e => absurd rfl e⟩
  · simp only [List.cons.injEq, Value.slice.injEq, and_true] at hcs
    obtain ⟨rfl, rfl, rfl⟩ := hcs
    simp only [if_true] at hz
    have hlen : (zs.take L).length = L := by rw [List.length_take]; omega
    have hd := (Prod.mk.inj hx).1
    have hW : L ≤ 140737488355328 := by
      have h1 := hw ((L + (C - L)) * Tryd.prog.bytesOf 5) (by
        rw [hd]
        simp only [DataW.weights, Tryd.underlying22]
        refine List.mem_cons.2 (.inl ?_)
        simp only [lits, List.length_map, List.length_take, List.length_drop, hz, Nat.min_eq_left hl])
      rw [bytesU8] at h1
      have := reachBytes_lt
      omega
    refine ⟨zs.take L, hlen.symm, some a, C, by rw [hlen], by rw [hlen]; exact hl, by rw [hlen]; exact hW, fun x hx => ?_, fun hne => ⟨a, rfl, ?_, fun j x hj => ?_⟩⟩
    · have := bounds_u8 (hwf x (List.mem_of_mem_take hx))
      omega
    · have hpos : 0 < zs.length := by
        rcases Nat.eq_zero_or_pos zs.length with e | e
        · exfalso; apply hne; rw [List.length_eq_zero_iff.1 e]; exact List.take_nil
        · exact e
      have := World.block_lt_of_cell? W _ (hcell 0 hpos)
      rw [add_block] at this
      exact this
    · have hj1 : j < L := by rw [← hlen]; exact (List.getElem?_eq_some_iff.1 hj).1
      rw [hcell j (by omega)]
      rw [List.getElem?_take, if_pos hj1] at hj
      rw [List.getD_eq_getElem?_getD, hj]
      rfl
theorem one_of {cs : List Value} {o : Nat} {v : Value} (h : (cs.drop o).take 1 = [v]) : cs[o]? = some v := by
  have e := congrArg (fun l => l[0]?) h
  simpa [List.getElem?_take, List.getElem?_drop] using e
set_option linter.constructorNameAsVariable false in
set_option maxRecDepth 100000 in
/-- Bytes that come in. -/
theorem bs_open {H : Type} {enc : TypeId × Value → H} {W : World} {base : Nat} {v : Value} {d : DataW H} {ps : List MemPlace} {ts : List TypeId} {ds : List (DataW H)} {j : Nat} (hsz : (DataW.weightsEach Tryd.prog ts ds).all (· ≤ reachBytes) = true) (ht : ts[j]? = some 22) (hd : ds[j]? = some d)
    (hv : Value.okWide Tryd.prog W .any base 22 v) (h : DataW.Trod enc Tryd.prog W 0 (fun _ => true) true 22 v d ps) : ∃ (A : Option Addr) (L C : Nat) (l : List Int), v = .slice A L C ∧ RdB (fun k => k < W.heap.size) W (.slice A L C) l := by
  obtain ⟨A, L, C, rfl⟩ := okWide_slice Tryd.underlying22 hv
  obtain ⟨fuel, hf⟩ := h
  obtain ⟨l, h1, h2⟩ := bs_arg (by simpa [Value.cells] using hf) (fun n hn => by
    have := List.all_eq_true.1 hsz _ (DataW.weights_mem_each ht hd n hn)
    simpa using this)
  exact ⟨A, L, C, l, rfl, h2⟩
end Go.Proofs.YtfcofokbhhnfkaaDoor.Byt
