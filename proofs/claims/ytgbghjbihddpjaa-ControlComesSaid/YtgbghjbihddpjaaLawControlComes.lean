/- ControlComes (P21.5): where as much goes through as a level c has, a controller comes to c within the sum of one interval between sync points of each level below, and the first one, never goes above, and stays; and the program answers. Conditions: none. -/
import Derived.Test.YtgbghjbihddpjaaRows
import Derived.Test.YtgbghjbihddpjaaQControlComesx
import Derived.Test.YtgbghjbihddpjaaPureControlComes
import Derived.WalkKit
import Derived.ProofKit
import Derived.OpenShut
import Derived.ShutString
import Derived.ChangeOld
import Derived.Below
import Derived.SizedLaws
import Derived.Lib.SmallJoins
namespace Go.Proofs.Ytgbghjbihddpjaa.controlComes
open Go.ChangeShapes Go.WideShapes Go.ChangeAt Go.RowKit
open Go.ChangeMaps (open_string shut_string)
set_option linter.unusedVariables false
theorem own : ownKnob Try.prog.godebug = none := by kernel_rfl
theorem laidOut : laidOutB Try.prog = true := by kernel_rfl
theorem cM : Try.prog.cellsOf 37 = 4 := by kernel_rfl
theorem cI : Try.prog.cellsOf 3 = 1 := by kernel_rfl
set_option maxRecDepth 100000 in
theorem lifted (os : Os) (started : os.Started) (H : Type) (enc : TypeId × Value → H) :
    ReturnsInHanded {} Try.checked os 6 .any (Rows.controlComesSpec.pre6 enc Try.prog Try.f6 Rows.controlComesRow.domain false) (Rows.controlComesSpec.post enc Try.prog Try.f6 false true false false) := by
  refine returnsInHanded_of_change_sized (C := Try.checked) own started (by kernel_rfl) Try.func6
    (ChangeSpec.witness6 (enc := enc) (C := Try.checked) false ⟨#[], #[.agg #[.int .i64 0, .int .i64 0, .int .i64 0, .int .i64 0]], []⟩ 8 (by kernel_rfl) (by kernel_rfl) (by kernel_rfl) (by kernel_rfl)) ?_
  intro W base args ds gs before hval0 hW hcnd hsz0 _
  have hsz : (DataW.weightsEach Try.prog (Try.f6.params.toList ++ Rows.controlComesSpec.plain.varTypes Try.prog) (ds ++ gs)).all (· ≤ reachBytes) = true := hsz0
  have hval : ∀ (j : Nat) t v, Try.f6.params[j]? = some t → args[j]? = some v → Value.okWide Try.prog W .any base t v := hval0
  have hW' := hW
  obtain ⟨p, q, hA0, hV, rfl, hfz, hnd⟩ := hW
  have hA : DataW.TrodAll enc Try.prog W 0 (fun _ => true) true Try.f6.params.toList args.toList ds p := hA0
  rw [Try.params6] at hA hval hsz
  obtain ⟨v0, vs0, d0, ds0, p0, q0, hargs, rfl, rfl, h0, r0⟩ := trodAll_cons hA
  obtain ⟨rfl, rfl, rfl⟩ := trodAll_nil r0
  obtain rfl : args = #[v0] := by cases args; simp_all
  obtain ⟨rfl, rfl⟩ := trodVars_none hV
  obtain ⟨cs, rfl, hsz4⟩ := okWide_struct Try.underlying37 (hval 0 37 v0 rfl rfl)
  rw [cM] at hsz4
  obtain ⟨c0, c1, c2, c3, rfl⟩ := Joins.array4 hsz4
  have k0 := h0
  have lt0 : ∀ x ∈ p0, x.block < W.heap.size := by obtain ⟨m, hm⟩ := k0; exact DataW.trod_lt m _ _ _ hm
  obtain ⟨b0, b1, b2, y, rfl, rfl, rfl, rfl⟩ : ∃ (b0 b1 b2 y : Int), c0 = .int .i64 b0 ∧ c1 = .int .i64 b1 ∧ c2 = .int .i64 b2 ∧ c3 = .int .i64 y := by
    obtain ⟨fuel, hf⟩ := h0
    obtain ⟨y0, y1, y2, y3, n', _, _, t0, t1, t2, t3⟩ := Joins.trod_struct4 Try.underlying37 hf
    dsimp only at t0 t1 t2 t3
    rw [cI] at t0 t1 t2 t3
    obtain ⟨b0, e0, _⟩ := DataW.trod_int Try.underlying3 t0
    obtain ⟨b1, e1, _⟩ := DataW.trod_int Try.underlying3 t1
    obtain ⟨b2, e2, _⟩ := DataW.trod_int Try.underlying3 t2
    obtain ⟨i3, e3, _⟩ := DataW.trod_int Try.underlying3 t3
    refine ⟨b0, b1, b2, i3, ?_, ?_, ?_, ?_⟩
    · simpa [Value.cells] using e0
    · simpa [Value.cells] using e1
    · simpa [Value.cells] using e2
    · simpa [Value.cells] using e3
  clear hA0 hval0 hsz0 hsz
  obtain ⟨kk, hkk⟩ := Pure.ControlComes b0 b1 b2 y
  refine (QControlComes.geyserlaw21_ControlComes.calls kk b0 b1 b2 y true W rfl hkk).mono fun e W' ⟨he, bel⟩ => ?_
  subst he
  exact ⟨_, rfl, _, _, _, [], _, [], hW', trodAll_mk1 (shut_bool Try.underlying4 _), (trodAll_cons_mk (Below.trod laidOut (by kernel_rfl) (of_decide_eq_true (by kernel_rfl)) k0 bel lt0) trodAll_mk0), rfl, bel.frame _, fun h => by cases h⟩
theorem over : Rows.controlComesRow.holds Try.pinned (OpenSpec.ofChange Rows.controlComesSpec) :=
  OpenClaim.holds_of_wide 6 Try.f6 rfl rfl rfl rfl rfl rfl rfl ⟨rfl, rfl, rfl, rfl, rfl⟩ rfl rfl rfl rfl rfl (by kernel_rfl) Try.func6 (by kernel_rfl)
    (of_decide_eq_true (by kernel_rfl)) (by unfold Func.isWrapper; first | (rw [if_pos (by decide +kernel)]; kernel_rfl) | (rw [if_neg (by decide +kernel)]; exact ⟨rfl, rfl⟩))
    (fun os started H enc _ => lifted os started H enc)
theorem proved : Rows.ControlComesSaid := over
#print axioms proved
end Go.Proofs.Ytgbghjbihddpjaa.controlComes
namespace Go.Proofs.Ytgbghjbihddpjaa
/-- The row, under a short name, for the claim. -/
theorem controlComes_holds : Rows.ControlComesSaid := controlComes.proved
end Go.Proofs.Ytgbghjbihddpjaa
