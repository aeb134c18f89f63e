/- AN ACCOUNT AS IT LIES IN MEMORY: its block, its layers' maps (each a set of places), what stays of it, and what reading and writing it does. Conditions: none. -/
import Derived.Test.YtbjojkocmmcpgaaDoorEr
import Derived.Test.YtbjojkocmmcpgaaDoorMod
import Derived.Maps.OwnSet
import Derived.Maps.Ext
import Derived.WalkKit
import Derived.Deep.OwnRows
import Derived.Deep.Heap
import Derived.Lib.Hide
namespace Go.Proofs.YtbjojkocmmcpgaaDoor.Acc
open Go.RowKit Go.Maps Go.Proofs.YtbjojkocmmcpgaaDoor.Er Go.Proofs.YtbjojkocmmcpgaaDoor.Mod

/-! ### what has turned -/
/-- w' is w but for the blocks of S, and for new ones. -/
structure Fr (w w' : World) (S : Nat → Prop) : Prop where
  os : w'.os = w.os
  tape : w'.tape = w.tape
  output : w'.output = w.output
  size : w.heap.size ≤ w'.heap.size
  block : ∀ k, k < w.heap.size → ¬ S k → w'.heap[k]? = w.heap[k]?
theorem Fr.refl (w : World) (S : Nat → Prop) : Fr w w S := ⟨rfl, rfl, rfl, Nat.le_refl _, fun _ _ _ => rfl⟩
theorem Fr.trans {w w' w'' : World} {S : Nat → Prop} (h : Fr w w' S) (k : Fr w' w'' S) : Fr w w'' S :=
  ⟨k.os.trans h.os, k.tape.trans h.tape, k.output.trans h.output, Nat.le_trans h.size k.size, fun i hi hs => (k.block i (Nat.lt_of_lt_of_le hi h.size) hs).trans (h.block i hi hs)⟩
theorem Fr.of_below {w w' : World} {S : Nat → Prop} (h : Below w.heap.size w w') : Fr w w' S := ⟨h.os, h.tape, h.output, h.size, fun k hk _ => h.block k hk⟩
theorem Fr.drew {w w' : World} {S : Nat → Prop} (h : Fr w w' S) : Fr w w'.drew S := ⟨h.os, h.tape, h.output, h.size, h.block⟩
theorem Fr.drewN {w w' : World} {S : Nat → Prop} (h : Fr w w' S) (n : Nat) : Fr w (w'.drewN n) S := ⟨h.os, h.tape, h.output, h.size, h.block⟩
theorem Fr.alloc {w w' : World} {S : Nat → Prop} (h : Fr w w' S) (o : Obj) : Fr w (w'.alloc o) S :=
  h.trans (Fr.of_below ((Below.refl _ _).alloc (Nat.le_refl _) o))
theorem Fr.set {w w' : World} {S : Nat → Prop} (h : Fr w w' S) {a : Addr} (ha : S a.block ∨ w.heap.size ≤ a.block) (v : Value) : Fr w (w'.setCell a v) S :=
  ⟨h.os, h.tape, h.output, by simpa using h.size, fun k hk hs => by
    have hne : k ≠ a.block := by
      rintro rfl
      rcases ha with ha | ha
      · exact hs ha
      · omega
    exact (Deep.blk_setCell_other _ _ _ _ hne).trans (h.block k hk hs)⟩
theorem Fr.turned {w w' w'' : World} {S : Nat → Prop} {b : Nat} (h : Fr w w' S) (ht : w'.mapTurned w'' b) (hb : S b ∨ w.heap.size ≤ b) : Fr w w'' S := by
  have g := ht.grown
  refine ⟨g.os.trans h.os, g.tape.trans h.tape, g.output.trans h.output, Nat.le_trans h.size g.size, fun k hk hs => ?_⟩
  have hne : k ≠ b := by
    rintro rfl
    rcases hb with hb | hb
    · exact hs hb
    · omega
  exact (g.block k (Nat.lt_of_lt_of_le hk h.size) (by simpa using hne)).trans (h.block k hk hs)
theorem Fr.mono {w w' : World} {S T : Nat → Prop} (h : Fr w w' S) (hT : ∀ k, S k → T k) : Fr w w' T := ⟨h.os, h.tape, h.output, h.size, fun k hk hs => h.block k hk (fun e => hs (hT k e))⟩
theorem Fr.below {w0 w w' : World} {S : Nat → Prop} {B : Nat} (h : Fr w w' S) (hb : Below B w0 w) (hB : B ≤ w.heap.size) (hS : ∀ k, S k → B ≤ k) : Below B w0 w' :=
  ⟨h.os.trans hb.os, h.tape.trans hb.tape, h.output.trans hb.output, Nat.le_trans hb.size h.size, fun k hk => (h.block k (Nat.lt_of_lt_of_le hk hB) (fun e => by have := hS k e; omega)).trans (hb.block k hk)⟩

/-! ### a set of places -/
theorem plainElem_bool_inv {H : Type} {P : Program} {e : TypeId} (he : P.underlying e = some .bool) {v : Value} {z : DataW H × List MemPlace} (h : plainElem P e v = some z) : ∃ a, v = .bool a ∧ z = (.lit (.bool a), []) := by
  unfold plainElem at h
  rw [he] at h
  cases v <;> simp at h
  exact ⟨_, rfl, h.symm⟩
def key (x : Int) : Lit := .int .i64 x
theorem isKey (x : Int) : WideAt.IsKeyLit (key x) := trivial
theorem key_ne {x y : Int} (h : x ≠ y) : key x ≠ key y := fun e => h (by injection e)
theorem any_key (x : Int) : ∀ L : List Int, (L.map key).any (fun y => y.sameKey (key x)) = decide (x ∈ L)
  | [] => by simp
  | y :: L => by
    rw [List.map_cons, List.any_cons, any_key x L]
    by_cases e : x = y
    · subst e; rw [WideAt.sameKey_self (isKey x)]; simp
    · rw [sameKey_ne (key_ne (fun h => e h.symm))]; simp [e]
/-- Block b is a map that holds true at just the places of L. -/
def IsSet (w : World) (b : Nat) (L : List Int) : Prop := ∃ D : DataW Unit, w.ownsMap Tryd.prog 3 (plainElem Tryd.prog 4) b L.length D ∧ Maps.size D = L.length ∧ (∀ x, Maps.has D (key x) = decide (x ∈ L)) ∧ (∀ x, D.atKey (key x) (.lit (.bool false)) = .lit (.bool (decide (x ∈ L))))
theorem law : Keyed Tryd.prog 3 := int_keyed Tryd.underlying3
theorem zeroB (w : World) : (zeroValue 4).run Tryd.prog w = .ok (.bool false) w := by kernel_rfl
theorem tight {H : Type} {P : Program} {k : TypeId} {R : Value → Option (DataW H × List MemPlace)} {w : World} {b n : Nat} {D : DataW H} (h : w.ownsMap P k R b n D) : w.ownsMap P k R b (Maps.size D) D := by
  obtain ⟨es, clock, hb, F, _, rfl⟩ := h
  exact ⟨es, clock, hb, F, Nat.le_of_eq (by simp [Maps.size, length_sorted]), rfl⟩
theorem IsSet.lt {w : World} {b : Nat} {L : List Int} (h : IsSet w b L) : b < w.heap.size := by
  obtain ⟨D, h, _⟩ := h; exact h.lt
theorem IsSet.of_block {w w' : World} {b : Nat} {L : List Int} (h : IsSet w b L) (hb : w'.heap[b]? = w.heap[b]?) : IsSet w' b L := by
  obtain ⟨D, ⟨es, clock, h1, h2⟩, h⟩ := h
  exact ⟨D, ⟨es, clock, hb.trans h1, h2⟩, h⟩
theorem IsSet.new (w : World) : IsSet (w.alloc (.map #[] 0)) w.heap.size [] :=
  ⟨.map [], World.ownsMap_made _ _ _ _, rfl, fun _ => by simp [Maps.has], fun _ => by simp; rfl⟩
/-- Reading. -/
theorem IsSet.look {w : World} {b : Nat} {L : List Int} (h : IsSet w b L) (x : Int) (hx : (Lit.int .i64 x).wf = true) : (Instr.lookup 43 (.map (some b)) (.int .i64 x) false).run Tryd.prog w = .ok (.bool (decide (x ∈ L))) w := by
  obtain ⟨D, h, _, _, h3⟩ := h
  obtain ⟨v, ps, hrun, hv⟩ := h.lookup law Tryd.underlying43 (zeroB w) (plainElem_bool Tryd.underlying4 false) (keyOf_int_mk Tryd.underlying3 hx)
  rw [show Lit.int IntKind.i64 x = key x from rfl, h3 x] at hv
  obtain ⟨c, rfl, hc⟩ := plainElem_bool_inv Tryd.underlying4 hv
  simp only [Prod.mk.injEq, DataW.lit.injEq, Lit.bool.injEq] at hc
  rw [hrun, hc.1]
/-- How many. -/
theorem IsSet.len {w : World} {b : Nat} {L : List Int} (h : IsSet w b L) (ty : TypeId) : (Builtin.len_ #[43] ty #[.map (some b)]).run Tryd.prog w = .ok (.int .i64 (L.length : Int)) w := by
  obtain ⟨D, h, h1, _⟩ := h
  rw [h.len Tryd.underlying43 ty, h1]
/-- Writing. -/
theorem IsSet.put {w : World} {b : Nat} {L : List Int} (h : IsSet w b L) (x : Int) (hx : (Lit.int .i64 x).wf = true) (hn : L.length < maxLen) :
    ∃ w', (Instr.mapUpdate 43 (.map (some b)) (.int .i64 x) (.bool true)).run Tryd.prog w = .ok () w' ∧ IsSet w' b (if x ∈ L then L else L ++ [x]) ∧ w.mapTurned w' b := by
  obtain ⟨D, h, h1, h2, h3⟩ := h
  obtain ⟨w', hrun, ho, ht⟩ := h.store law Tryd.underlying43 hn (keyOf_int_mk Tryd.underlying3 hx) (plainElem_bool Tryd.underlying4 true)
  refine ⟨w', hrun, ⟨D.put (key x) (.lit (.bool true)), ?_, ?_, ?_, ?_⟩, ht⟩
  · have e : Maps.size (D.put (key x) (.lit (.bool true))) = (if x ∈ L then L else L ++ [x]).length := by
      rw [size_put (h.tidy law), h2 x, h1]
      by_cases e : x ∈ L <;> simp [e]
    rw [← e]
    exact tight ho
  · rw [size_put (h.tidy law), h2 x, h1]
    by_cases e : x ∈ L <;> simp [e]
  · intro y
    by_cases e : y = x
    · subst e; rw [has_put_same h.isMap (isKey y)]; by_cases e : y ∈ L <;> simp [e]
    · rw [has_put_other (key_ne e), h2 y]; by_cases e2 : x ∈ L <;> simp [e2, e]
  · intro y
    by_cases e : y = x
    · subst e; rw [atKey_put_same h.isMap (isKey y)]; by_cases e : y ∈ L <;> simp [e]
    · rw [atKey_put_other (key_ne e), h3 y]; by_cases e2 : x ∈ L <;> simp [e2, e]
/-- Clearing. -/
theorem IsSet.clear {w : World} {b : Nat} {L : List Int} (h : IsSet w b L) : ∃ w', (∀ ty, (Builtin.clear_ #[43] ty #[.map (some b)]).run Tryd.prog w = .ok (.tuple #[]) w') ∧ IsSet w' b [] ∧ w.mapTurned w' b := by
  obtain ⟨D, ⟨es, clock, hb, F, _⟩, h⟩ := h
  refine ⟨ChangeMaps.setBlock w b (.map #[] clock), fun ty => ?_, ⟨.map [], ⟨#[], clock, ChangeMaps.heap_setBlock_same hb _, ⟨by simp, MapKept.stamped_empty clock, by simp⟩, Nat.le_refl _, rfl⟩, rfl, fun _ => by simp [Maps.has], fun _ => by simp; rfl⟩, ⟨es, clock, #[], clock, hb, rfl⟩⟩
  simp [Builtin.clear_, run_underlying Tryd.underlying43, MapKept.run_getObj_map hb, MapKept.run_setObj_map _ hb, Result.andThen]
  rfl

/-! ### an account -/
/-- What the cells of its block hold. -/
def cellAt (M : Nat → Option Nat) (a : Acc) : Nat → Value
  | 0 => .int .i64 a.level
  | 1 => .bool a.has
  | 2 => .int .i64 a.tick
  | 3 => .bool a.first
  | 4 => .bool a.burst
  | 5 => .int .i64 a.sync
  | j + 6 => if j % 3 = 0 then .bool (a.L (j / 3)).heard else if j % 3 = 1 then .int .i64 (a.L (j / 3)).many else .map (M (j / 3))
theorem cell_heard (M : Nat → Option Nat) (a : Acc) (i : Nat) : cellAt M a (6 + i * 3) = .bool (a.L i).heard := by
  rw [show 6 + i * 3 = i * 3 + 6 by omega]
  show (if i * 3 % 3 = 0 then _ else _) = _
  rw [if_pos (by omega), show i * 3 / 3 = i by omega]
theorem cell_many (M : Nat → Option Nat) (a : Acc) (i : Nat) : cellAt M a (6 + i * 3 + 1) = .int .i64 (a.L i).many := by
  rw [show 6 + i * 3 + 1 = (i * 3 + 1) + 6 by omega]
  show (if (i * 3 + 1) % 3 = 0 then _ else if (i * 3 + 1) % 3 = 1 then _ else _) = _
  rw [if_neg (by omega), if_pos (by omega), show (i * 3 + 1) / 3 = i by omega]
theorem cell_map (M : Nat → Option Nat) (a : Acc) (i : Nat) : cellAt M a (6 + i * 3 + 2) = .map (M i) := by
  rw [show 6 + i * 3 + 2 = (i * 3 + 2) + 6 by omega]
  show (if (i * 3 + 2) % 3 = 0 then _ else if (i * 3 + 2) % 3 = 1 then _ else _) = _
  rw [if_neg (by omega), if_neg (by omega), show (i * 3 + 2) / 3 = i by omega]
theorem cell_ext {M : Nat → Option Nat} {a : Acc} {f : Nat → Value} (h0 : f 0 = cellAt M a 0) (h1 : f 1 = cellAt M a 1) (h2 : f 2 = cellAt M a 2) (h3 : f 3 = cellAt M a 3) (h4 : f 4 = cellAt M a 4) (h5 : f 5 = cellAt M a 5)
    (h : ∀ i, i < 8 → f (6 + i * 3) = .bool (a.L i).heard ∧ f (6 + i * 3 + 1) = .int .i64 (a.L i).many ∧ f (6 + i * 3 + 2) = .map (M i)) : ∀ j, j < 30 → f j = cellAt M a j := by
  intro j hj
  rcases (by omega : j = 0 ∨ j = 1 ∨ j = 2 ∨ j = 3 ∨ j = 4 ∨ j = 5 ∨ j = 6 + ((j - 6) / 3) * 3 ∨ j = 6 + ((j - 6) / 3) * 3 + 1 ∨ j = 6 + ((j - 6) / 3) * 3 + 2) with e | e | e | e | e | e | e | e | e
  · rw [e]; exact h0
  · rw [e]; exact h1
  · rw [e]; exact h2
  · rw [e]; exact h3
  · rw [e]; exact h4
  · rw [e]; exact h5
  · rw [e, cell_heard]; exact (h _ (by omega)).1
  · rw [e, cell_many]; exact (h _ (by omega)).2.1
  · rw [e, cell_map]; exact (h _ (by omega)).2.2
/-- The blocks of an account: its own, and its maps'. -/
def AS (g : Nat) (M : Nat → Nat) (k : Nat) : Prop := k = g ∨ ∃ i, i < 8 ∧ k = M i
structure IsAcc (w : World) (g : Nat) (M : Nat → Nat) (a : Acc) : Prop where
  row : w.rowIs g 48 30 (cellAt (fun i => some (M i)) a)
  sets : ∀ i, i < 8 → IsSet w (M i) (a.L i).pl
  apart : ∀ i j, i < 8 → j < 8 → M i = M j → i = j
theorem IsSet.ne_row {w : World} {b g t n : Nat} {f : Nat → Value} {L : List Int} (h : IsSet w b L) (hr : w.rowIs g t n f) : b ≠ g := by
  rintro rfl
  obtain ⟨D, ⟨es, clock, hb, _⟩, _⟩ := h
  obtain ⟨c, hc, _⟩ := hr
  rw [hb] at hc; cases hc
theorem IsAcc.of_fr {w w' : World} {g : Nat} {M : Nat → Nat} {a : Acc} {S : Nat → Prop} (h : IsAcc w g M a) (hf : Fr w w' S) (hS : ∀ k, S k → ¬ AS g M k) : IsAcc w' g M a :=
  ⟨h.row.of_block (hf.block _ h.row.lt (fun e => hS _ e (.inl rfl))), fun i hi => (h.sets i hi).of_block (hf.block _ (h.sets i hi).lt (fun e => hS _ e (.inr ⟨i, hi, rfl⟩))), h.apart⟩
theorem IsAcc.below {w w' : World} {g : Nat} {M : Nat → Nat} {a : Acc} (h : IsAcc w g M a) (hb : Below w.heap.size w w') : IsAcc w' g M a :=
  h.of_fr (S := fun _ => False) (Fr.of_below hb) (fun _ e => e.elim)
theorem IsAcc.alloc {w : World} {g : Nat} {M : Nat → Nat} {a : Acc} (h : IsAcc w g M a) (o : Obj) : IsAcc (w.alloc o) g M a := h.below ((Below.refl _ _).alloc (Nat.le_refl _) o)
theorem IsAcc.drew {w : World} {g : Nat} {M : Nat → Nat} {a : Acc} (h : IsAcc w g M a) : IsAcc w.drew g M a := h.below (Below.refl _ _).drew
theorem IsAcc.drewN {w : World} {g : Nat} {M : Nat → Nat} {a : Acc} (h : IsAcc w g M a) (n : Nat) : IsAcc (w.drewN n) g M a := ⟨h.row, h.sets, h.apart⟩
theorem IsAcc.lt {w : World} {g : Nat} {M : Nat → Nat} {a : Acc} (h : IsAcc w g M a) : ∀ k, AS g M k → k < w.heap.size := by
  rintro k (rfl | ⟨i, hi, rfl⟩)
  · exact h.row.lt
  · exact (h.sets i hi).lt
/-- A cell of its block is written. -/
theorem IsAcc.set {w : World} {g : Nat} {M : Nat → Nat} {a a' : Acc} (h : IsAcc w g M a) (j : Nat) (v : Value) (hc : ∀ k, k < 30 → (if k = j then v else cellAt (fun i => some (M i)) a k) = cellAt (fun i => some (M i)) a' k)
    (hp : ∀ i, i < 8 → (a'.L i).pl = (a.L i).pl) : IsAcc (w.setCell ⟨g, j, none⟩ v) g M a' :=
  ⟨(h.row.set j v).congr hc, fun i hi => by rw [hp i hi]; exact (h.sets i hi).of_block (Deep.blk_setCell_other _ _ _ _ ((h.sets i hi).ne_row h.row)), h.apart⟩
/-- One of its maps is written. -/
theorem IsAcc.turn {w w' : World} {g : Nat} {M : Nat → Nat} {a a' : Acc} (h : IsAcc w g M a) (i : Nat) (hi : i < 8) (ht : w.mapTurned w' (M i)) (hs : IsSet w' (M i) (a'.L i).pl) (hc : ∀ k, k < 30 → cellAt (fun i => some (M i)) a k = cellAt (fun i => some (M i)) a' k)
    (hp : ∀ j, j < 8 → j ≠ i → (a'.L j).pl = (a.L j).pl) : IsAcc w' g M a' := by
  have hg := ht.grown
  refine ⟨(h.row.of_block (hg.block _ h.row.lt (by simpa using fun e => (h.sets i hi).ne_row h.row e.symm))).congr hc, fun j hj => ?_, h.apart⟩
  by_cases e : j = i
  · subst e; exact hs
  · rw [hp j hj e]
    exact (h.sets j hj).of_block (hg.block _ (h.sets j hj).lt (by simpa using fun e2 => e (h.apart j i hj hi e2)))
end Go.Proofs.YtbjojkocmmcpgaaDoor.Acc
