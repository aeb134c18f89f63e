/- A TICK AS AN ARGUMENT: what a value of its type is. Conditions: none. -/
import Derived.Test.YtbjojkocmmcpgaaAllA
import Derived.ProofKit
import Derived.OpenShut
import Derived.Lib.SmallJoins
namespace Go.Proofs.Ytbjojkocmmcpgaa.Acc
open Go.ChangeShapes Go.WideShapes Go.RowKit
theorem one_at {cs : List Value} {o : Nat} {v : Value} (h : (cs.drop o).take 1 = [v]) : cs[o]? = some v := by
  have e := congrArg (fun l => l[0]?) h
  simpa [List.getElem?_take, List.getElem?_drop] using e
theorem cA : Try.prog.cellsOf 40 = 8 := by kernel_rfl
theorem cT : Try.prog.cellsOf 42 = 11 := by kernel_rfl
theorem cI : Try.prog.cellsOf 3 = 1 := by kernel_rfl
theorem cU : Try.prog.cellsOf 5 = 1 := by kernel_rfl
theorem tick_open {H : Type} {enc : TypeId × Value → H} {W : World} {base : Nat} {v : Value} {d : DataW H} {ps : List MemPlace} (hv : Value.okWide Try.prog W .any base 42 v)
    (h : DataW.Trod enc Try.prog W 0 (fun _ => true) true 42 v d ps) : ∃ (x : Nat → Int) (t l b : Int), v = tkV x t l b ∧ ∀ i, 0 ≤ x i ∧ x i < 256 := by
  obtain ⟨cs, rfl, hsz⟩ := okWide_struct Try.underlying42 hv
  obtain ⟨fuel, hf⟩ := h
  obtain ⟨y0, y1, y2, y3, n, _, _, h0, h1, h2, h3⟩ := Joins.trod_struct4 Try.underlying42 hf
  dsimp only [Value.cells] at h0 h1 h2 h3
  rw [cI] at h0 h2 h3
  rw [cA] at h1
  obtain ⟨t, e0, _⟩ := DataW.trod_int Try.underlying3 h0
  obtain ⟨l, e2, _⟩ := DataW.trod_int Try.underlying3 h2
  obtain ⟨b, e3, _⟩ := DataW.trod_int Try.underlying3 h3
  obtain ⟨xs, m, _, _, _, hx, hel⟩ := DataW.trod_array Try.underlying40 h1
  rw [cU] at hel
  have each : ∀ i, i < 8 → ∃ z : Int, cs.toList[1 + i]? = some (.int .u8 z) ∧ 0 ≤ z ∧ z < 256 := by
    intro i hi
    obtain ⟨y, hy⟩ : ∃ y, xs[i]? = some y := ⟨xs[i]'(by omega), List.getElem?_eq_getElem _⟩
    obtain ⟨z, ez, _, wz⟩ := DataW.trod_int Try.underlying5 ((hel i hi).trans hy)
    have hb := bounds_u8 wz
    refine ⟨z, ?_, by omega, by omega⟩
    have e := one_at ez
    rw [List.getElem?_take, if_pos (by omega), List.getElem?_drop] at e
    simpa using e
  have E0 : cs.toList[0]? = some (.int .i64 t) := one_at e0
  have E2 : cs.toList[9]? = some (.int .i64 l) := one_at e2
  have E3 : cs.toList[10]? = some (.int .i64 b) := one_at e3
  obtain ⟨z, hz⟩ : ∃ z : Nat → Int, ∀ i, (i < 8 → cs.toList[1 + i]? = some (.int .u8 (z i))) ∧ 0 ≤ z i ∧ z i < 256 := by
    refine ⟨fun i => if h : i < 8 then (each i h).choose else 0, fun i => ?_⟩
    by_cases h : i < 8
    · have := (each i h).choose_spec
      simp only [h, dif_pos]
      exact ⟨fun _ => this.1, this.2⟩
    · simp only [h, dif_neg, not_false_eq_true]
      exact ⟨fun h2 => absurd h2 (by simp), by omega, by omega⟩
  refine ⟨z, t, l, b, ?_, fun i => (hz i).2⟩
  unfold tkV
  congr 1
  apply Array.toList_inj.1
  apply List.ext_getElem?
  intro i
  rw [cT] at hsz
  match i with
  | 0 => exact E0
  | 1 => exact (hz 0).1 (by omega)
  | 2 => exact (hz 1).1 (by omega)
  | 3 => exact (hz 2).1 (by omega)
  | 4 => exact (hz 3).1 (by omega)
  | 5 => exact (hz 4).1 (by omega)
  | 6 => exact (hz 5).1 (by omega)
  | 7 => exact (hz 6).1 (by omega)
  | 8 => exact (hz 7).1 (by omega)
  | 9 => exact E2
  | 10 => exact E3
  | i + 11 => rw [List.getElem?_eq_none (by rw [Array.length_toList, hsz]; omega), List.getElem?_eq_none (by simp)]
end Go.Proofs.Ytbjojkocmmcpgaa.Acc
