/- geyserlaw22.MnetApart: it answers true. Conditions: acts as they may come in. -/
import Derived.Test.YtpfpdbbgiimnmaaTwo
namespace Go.Proofs.Ytpfpdbbgiimnmaa.Net
set_option linter.unusedSimpArgs false
set_option linter.unusedVariables false
open Go.ChangeShapes Go.WideShapes Go.RowKit Go.Deep Go.Proofs.Ytpfpdbbgiimnmaa.Er Go.Proofs.Ytpfpdbbgiimnmaa.Mod Go.Proofs.YtpfpdbbgiimnmaaW.PrintWords Go.Proofs.YtpfpdbbgiimnmaaW.PrintLast
def actCells (a : AV) (bv lv : Value) : List Value := [.int .i64 a.kind, .int .i64 a.host, .int .i64 a.n, .int .i64 a.m, .int .u32 a.mask, bv, lv]
theorem celAct : Try.prog.cellsOf 52 = 7 := by kernel_rfl
theorem celU32 : Try.prog.cellsOf 50 = 1 := by kernel_rfl
theorem celDs : Try.prog.cellsOf 22 = 1 := by kernel_rfl
set_option linter.constructorNameAsVariable false in
set_option maxRecDepth 100000 in
theorem act_at {H : Type} {enc : TypeId × Value → H} {W : World} {fuel : Nat} {cs : List Value} {x : DataW H × List MemPlace} (hf : DataW.trod enc Try.prog W 0 (fun _ => true) true fuel 52 cs = some x) (hw : ∀ n ∈ x.1.weights Try.prog 52, n ≤ reachBytes) :
    ∃ (a : AV) (bv lv : Value), (∀ (i : Nat) (u : Value), (actCells a bv lv)[i]? = some u → cs[i]? = some u) ∧ RdB (fun k => k < W.heap.size) W bv a.b ∧ DgIs (fun k => k < W.heap.size) W lv a.l ∧ a.Ok := by
  obtain ⟨xs, n', _, hx, _, hxs, hel⟩ := DataW.trod_struct Try.underlying52 hf
  have get : ∀ i, i < 7 → ∃ y, xs[i]? = some y := fun i hi => ⟨xs[i]'(by have : xs.length = 7 := hxs; omega), List.getElem?_eq_getElem _⟩
  obtain ⟨y0, g0⟩ := get 0 (by omega)
  obtain ⟨y1, g1⟩ := get 1 (by omega)
  obtain ⟨y2, g2⟩ := get 2 (by omega)
  obtain ⟨y3, g3⟩ := get 3 (by omega)
  obtain ⟨y4, g4⟩ := get 4 (by omega)
  obtain ⟨y5, g5⟩ := get 5 (by omega)
  obtain ⟨y6, g6⟩ := get 6 (by omega)
  have h0 : DataW.trod enc Try.prog W 0 (fun _ => true) true n' 3 ((cs.drop 0).take (Try.prog.cellsOf 3)) = some y0 := (hel 0 _ rfl).trans g0
  have h1 : DataW.trod enc Try.prog W 0 (fun _ => true) true n' 3 ((cs.drop 1).take (Try.prog.cellsOf 3)) = some y1 := (hel 1 _ rfl).trans g1
  have h2 : DataW.trod enc Try.prog W 0 (fun _ => true) true n' 3 ((cs.drop 2).take (Try.prog.cellsOf 3)) = some y2 := (hel 2 _ rfl).trans g2
  have h3 : DataW.trod enc Try.prog W 0 (fun _ => true) true n' 3 ((cs.drop 3).take (Try.prog.cellsOf 3)) = some y3 := (hel 3 _ rfl).trans g3
  have h4 : DataW.trod enc Try.prog W 0 (fun _ => true) true n' 50 ((cs.drop 4).take (Try.prog.cellsOf 50)) = some y4 := (hel 4 _ rfl).trans g4
  have h5 : DataW.trod enc Try.prog W 0 (fun _ => true) true n' 31 ((cs.drop 5).take (Try.prog.cellsOf 31)) = some y5 := (hel 5 _ rfl).trans g5
  have h6 : DataW.trod enc Try.prog W 0 (fun _ => true) true n' 22 ((cs.drop 6).take (Try.prog.cellsOf 22)) = some y6 := (hel 6 _ rfl).trans g6
  rw [celI] at h0 h1 h2 h3
  rw [celU32] at h4
  rw [celBs] at h5
  rw [celDs] at h6
  have wts : ∀ (i : Nat) (t : TypeId) (y : DataW H × List MemPlace), ([3, 3, 3, 3, 50, 31, 22] : List TypeId)[i]? = some t → xs[i]? = some y → ∀ n ∈ y.1.weights Try.prog t, n ≤ reachBytes := by
    intro i t y ht hy n hn
    refine hw n ?_
    rw [hx]
    simp only [DataW.weights, Try.underlying52, List.map_cons, List.map_nil]
    exact DataW.weights_mem_each ht (by rw [List.getElem?_map, hy]; rfl) n hn
  obtain ⟨a, e0, _, q0⟩ := DataW.trod_int Try.underlying3 h0
  obtain ⟨x, e1, _, q1⟩ := DataW.trod_int Try.underlying3 h1
  obtain ⟨n, e2, _, q2⟩ := DataW.trod_int Try.underlying3 h2
  obtain ⟨m, e3, _, q3⟩ := DataW.trod_int Try.underlying3 h3
  obtain ⟨k, e4, _, q4⟩ := DataW.trod_int Try.underlying50 h4
  obtain ⟨b1, b2, b3, e5⟩ := Joins.slice_form Try.underlying31 h5
  obtain ⟨l1, l2, l3, e6⟩ := Joins.slice_form Try.underlying22 h6
  rw [e5] at h5
  rw [e6] at h6
  obtain ⟨b, _, hb⟩ := bs_arg (d := y5.1) (ps := y5.2) h5 (wts 5 _ y5 rfl g5)
  obtain ⟨l, _, hl, _⟩ := dgs_arg (d := y6.1) (ps := y6.2) h6 (wts 6 _ y6 rfl g6)
  have Q4 := bounds_u32 q4
  refine ⟨⟨a, x, n, m, k, b, l⟩, .slice b1 b2 b3, .slice l1 l2 l3, fun i u hu => ?_, hb, hl, ⟨⟨Q4.1, by have := Q4.2; show k < _; omega⟩, bounds_i64 q3, bounds_i64 q0, bounds_i64 q1, bounds_i64 q2⟩⟩
  match i, hu with
  | 0, hu => cases hu; exact one_of e0
  | 1, hu => cases hu; exact one_of e1
  | 2, hu => cases hu; exact one_of e2
  | 3, hu => cases hu; exact one_of e3
  | 4, hu => cases hu; exact one_of e4
  | 5, hu => cases hu; exact one_of e5
  | 6, hu => cases hu; exact one_of e6
  | i + 7, hu => cases hu
/-- Acts, as they come in. -/
def ActsIs (W : World) (A : Option Addr) (L C : Nat) (l : List AV) : Prop := L = l.length ∧ L ≤ C ∧ C ≤ maxLen ∧ ∀ (j : Nat) (a : AV), l[j]? = some a → a.Ok ∧ ∃ ab ao bv lv, A = some ⟨ab, ao, none⟩ ∧ ab < W.heap.size ∧ (∀ (i : Nat) (u : Value), (actCells a bv lv)[i]? = some u → W.cell? ⟨ab, ao + j * 7 + i, none⟩ = some u) ∧ RdB (fun k => k < W.heap.size) W bv a.b ∧ DgIs (fun k => k < W.heap.size) W lv a.l
theorem acts_open {H : Type} {enc : TypeId × Value → H} {W : World} {base : Nat} {v : Value} {d : DataW H} {ps : List MemPlace} {ts : List TypeId} {ds : List (DataW H)} {j : Nat} (hsz : (DataW.weightsEach Try.prog ts ds).all (· ≤ reachBytes) = true) (ht : ts[j]? = some 41) (hd : ds[j]? = some d)
    (hv : Value.okWide Try.prog W .any base 41 v) (h : DataW.Trod enc Try.prog W 0 (fun _ => true) true 41 v d ps) : ∃ (A : Option Addr) (L C : Nat) (l : List AV), v = .slice A L C ∧ ActsIs W A L C l := by
  obtain ⟨A, L, C, rfl⟩ := okWide_slice Try.underlying41 hv
  obtain ⟨fuel, hf⟩ := h
  have hw : ∀ n ∈ d.weights Try.prog 41, n ≤ reachBytes := fun n hn => by
    have := List.all_eq_true.1 hsz _ (DataW.weights_mem_each ht hd n hn)
    simpa using this
  have hf' : DataW.trod enc Try.prog W 0 (fun _ => true) true fuel 41 [.slice A L C] = some (d, ps) := by simpa [Value.cells] using hf
  rcases open_slice Try.underlying41 hf' with ⟨hcs, _⟩ | ⟨x, len, cap, m, n, D, Pl, hcs, hb, hl, hm, hmm, hx, hrow⟩
  · simp only [List.cons.injEq, Value.slice.injEq, and_true] at hcs
    obtain ⟨rfl, rfl, rfl⟩ := hcs
    exact ⟨none, 0, 0, [], rfl, rfl, Nat.le_refl _, Nat.zero_le _, fun j a h => by cases h⟩
  · simp only [List.cons.injEq, Value.slice.injEq, and_true] at hcs
    obtain ⟨rfl, rfl, rfl⟩ := hcs
    simp only [if_true] at hmm
    have hmm' := hmm.symm
    subst hmm'
    have hd' := (Prod.mk.inj hx).1
    have each : ∀ i, i < L → ∃ y : AV × Value × Value, (∀ (c : Nat) (u : Value), (actCells y.1 y.2.1 y.2.2)[c]? = some u → W.cell? (x.add (i * 7 + c)) = some u) ∧ RdB (fun k => k < W.heap.size) W y.2.1 y.1.b ∧ DgIs (fun k => k < W.heap.size) W y.2.2 y.1.l ∧ y.1.Ok := by
      intro i hi
      obtain ⟨cs', h1, h2⟩ := hrow i (by omega)
      rw [celAct] at h1
      obtain ⟨_, hl', hc⟩ := World.cells?_some h1
      obtain ⟨a, bv, lv, k0, k1, k2, k3⟩ := act_at h2 (fun n hn => hw n (by
        rw [hd']
        simp only [DataW.weights, Try.underlying41]
        exact List.mem_cons.2 (.inr (List.mem_append.2 (.inl (weightsAll_mem (List.mem_map.2 ⟨i, List.mem_range.2 hi, rfl⟩) n hn))))))
      refine ⟨(a, bv, lv), fun c u hu => ?_, k1, k2, k3⟩
      have hc7 : c < 7 := (List.getElem?_eq_some_iff.1 hu).1
      have := hc c hc7
      rw [Go.Deep.add_add] at this
      exact this.trans (k0 c u hu)
    haveI : Inhabited (AV × Value × Value) := ⟨(⟨0, 0, 0, 0, 0, [], []⟩, .nilIface, .nilIface)⟩
    obtain ⟨z, hz⟩ := choose_lt each
    refine ⟨some x, L, C, (List.range L).map fun i => (z i).1, rfl, by simp, hl, hm, fun j a hj => ?_⟩
    have hj1 : j < L := by
      have := (List.getElem?_eq_some_iff.1 hj).1
      simpa using this
    obtain rfl : (z j).1 = a := by simpa [hj1] using hj
    obtain ⟨k0, k1, k2, k3⟩ := hz j hj1
    obtain ⟨b, o, sp⟩ := x
    have c0 := (hz 0 (by omega)).1 0 _ rfl
    obtain rfl : sp = none := by
      have e : (⟨b, o, sp⟩ : Addr).add (0 * 7 + 0) = ⟨b, o, sp⟩ := rfl
      rw [e] at c0
      unfold World.cell? at c0
      cases sp
      · rfl
      · simp at c0; split at c0 <;> simp_all
    have hadd : ∀ k, (⟨b, o, none⟩ : Addr).add k = ⟨b, o + k, none⟩ := fun k => by unfold Addr.add; split <;> simp_all
    refine ⟨k3, b, o, (z j).2.1, (z j).2.2, rfl, ?_, fun i u hu => ?_, k1, k2⟩
    · have := World.block_lt_of_cell? W _ c0
      rw [add_block] at this
      exact this
    · have := k0 i u hu
      rw [hadd] at this
      rw [Nat.add_assoc]; exact this
end Go.Proofs.Ytpfpdbbgiimnmaa.Net
