/- AN ACT AS AN ARGUMENT: what a value of its type is. Conditions: none. -/
import Derived.Test.YtpfpdbbgiimnmaaDoorNilL
import Derived.ProofKit
import Derived.OpenShut
import Derived.Lib.SmallJoins
namespace Go.Proofs.YtpfpdbbgiimnmaaDoor.Net
open Go.ChangeShapes Go.WideShapes Go.RowKit
theorem one_at {cs : List Value} {o : Nat} {v : Value} (h : (cs.drop o).take 1 = [v]) : cs[o]? = some v := by
  have e := congrArg (fun l => l[0]?) h
  simpa [List.getElem?_take, List.getElem?_drop] using e
theorem cAct : Tryd.prog.cellsOf 49 = 7 := by kernel_rfl
theorem cInt : Tryd.prog.cellsOf 3 = 1 := by kernel_rfl
theorem cU32 : Tryd.prog.cellsOf 23 = 1 := by kernel_rfl
theorem cBs : Tryd.prog.cellsOf 22 = 1 := by kernel_rfl
theorem cDs : Tryd.prog.cellsOf 47 = 1 := by kernel_rfl
set_option linter.constructorNameAsVariable false in
set_option maxRecDepth 100000 in
theorem act_open {H : Type} {enc : TypeId × Value → H} {W : World} {base : Nat} {v : Value} {d : DataW H} {ps : List MemPlace} (hv : Value.okWide Tryd.prog W .any base 49 v)
    (h : DataW.Trod enc Tryd.prog W 0 (fun _ => true) true 49 v d ps) : ∃ (a x n m k : Int) (b1 : Option Addr) (b2 b3 : Nat) (l1 : Option Addr) (l2 l3 : Nat), v = .agg (actCs a x n m k (.slice b1 b2 b3) (.slice l1 l2 l3)) ∧ True := by
  obtain ⟨cs, rfl, hsz⟩ := okWide_struct Tryd.underlying49 hv
  obtain ⟨fuel, hf⟩ := h
  obtain ⟨xs, n', _, _, _, hxs, hel⟩ := DataW.trod_struct Tryd.underlying49 hf
  dsimp only [Value.cells] at hel
  have get : ∀ i, i < 7 → ∃ y, xs[i]? = some y := fun i hi => ⟨xs[i]'(by have : xs.length = 7 := hxs; omega), List.getElem?_eq_getElem _⟩
  obtain ⟨y0, g0⟩ := get 0 (by omega)
  obtain ⟨y1, g1⟩ := get 1 (by omega)
  obtain ⟨y2, g2⟩ := get 2 (by omega)
  obtain ⟨y3, g3⟩ := get 3 (by omega)
  obtain ⟨y4, g4⟩ := get 4 (by omega)
  obtain ⟨y5, g5⟩ := get 5 (by omega)
  obtain ⟨y6, g6⟩ := get 6 (by omega)
  have h0 : DataW.trod enc Tryd.prog W 0 (fun _ => true) true n' 3 ((cs.toList.drop 0).take (Tryd.prog.cellsOf 3)) = some y0 := (hel 0 _ rfl).trans g0
  have h1 : DataW.trod enc Tryd.prog W 0 (fun _ => true) true n' 3 ((cs.toList.drop 1).take (Tryd.prog.cellsOf 3)) = some y1 := (hel 1 _ rfl).trans g1
  have h2 : DataW.trod enc Tryd.prog W 0 (fun _ => true) true n' 3 ((cs.toList.drop 2).take (Tryd.prog.cellsOf 3)) = some y2 := (hel 2 _ rfl).trans g2
  have h3 : DataW.trod enc Tryd.prog W 0 (fun _ => true) true n' 3 ((cs.toList.drop 3).take (Tryd.prog.cellsOf 3)) = some y3 := (hel 3 _ rfl).trans g3
  have h4 : DataW.trod enc Tryd.prog W 0 (fun _ => true) true n' 23 ((cs.toList.drop 4).take (Tryd.prog.cellsOf 23)) = some y4 := (hel 4 _ rfl).trans g4
  have h5 : DataW.trod enc Tryd.prog W 0 (fun _ => true) true n' 22 ((cs.toList.drop 5).take (Tryd.prog.cellsOf 22)) = some y5 := (hel 5 _ rfl).trans g5
  have h6 : DataW.trod enc Tryd.prog W 0 (fun _ => true) true n' 47 ((cs.toList.drop 6).take (Tryd.prog.cellsOf 47)) = some y6 := (hel 6 _ rfl).trans g6
  rw [cInt] at h0 h1 h2 h3
  rw [cU32] at h4
  rw [cBs] at h5
  rw [cDs] at h6
  obtain ⟨a, e0, _⟩ := DataW.trod_int Tryd.underlying3 h0
  obtain ⟨x, e1, _⟩ := DataW.trod_int Tryd.underlying3 h1
  obtain ⟨n, e2, _⟩ := DataW.trod_int Tryd.underlying3 h2
  obtain ⟨m, e3, _⟩ := DataW.trod_int Tryd.underlying3 h3
  obtain ⟨k, e4, _⟩ := DataW.trod_int Tryd.underlying23 h4
  obtain ⟨b1, b2, b3, e5⟩ := Joins.slice_form Tryd.underlying22 h5
  obtain ⟨l1, l2, l3, e6⟩ := Joins.slice_form Tryd.underlying47 h6
  refine ⟨a, x, n, m, k, b1, b2, b3, l1, l2, l3, ?_, trivial⟩
  have E0 := one_at e0
  have E1 := one_at e1
  have E2 := one_at e2
  have E3 := one_at e3
  have E4 := one_at e4
  have E5 := one_at e5
  have E6 := one_at e6
  unfold actCs
  congr 1
  apply Array.toList_inj.1
  apply List.ext_getElem?
  intro i
  rw [cAct] at hsz
  match i with
  | 0 => exact E0
  | 1 => exact E1
  | 2 => exact E2
  | 3 => exact E3
  | 4 => exact E4
  | 5 => exact E5
  | 6 => exact E6
  | i + 7 => rw [List.getElem?_eq_none (by rw [Array.length_toList, hsz]; omega), List.getElem?_eq_none (by simp)]
end Go.Proofs.YtpfpdbbgiimnmaaDoor.Net
