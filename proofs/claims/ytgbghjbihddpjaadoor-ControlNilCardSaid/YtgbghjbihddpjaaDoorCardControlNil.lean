/- A nil controller: a mark is refused with its error, its level and what is clean are 0; and the program answers. -/
import Derived.Test.YtgbghjbihddpjaaDoorRows
import Derived.Test.YtgbghjbihddpjaaDoorNilControlNil
import Derived.WalkKit
import Derived.ProofKit
import Derived.OpenShut
import Derived.ShutString
import Derived.ChangeOld
import Derived.Below
import Derived.SizedLaws
import Derived.Test.YtgbghjbihddpjaaDoorLaid
import Derived.Test.YtgbghjbihddpjaaDoorCards
import Derived.Test.YtgbghjbihddpjaaDoorTie
import Derived.SevenTiedAt
import Derived.Lib.SmallJoins
namespace Go.Proofs.YtgbghjbihddpjaaDoor.controlNil
open Go.ChangeShapes Go.WideShapes Go.ChangeAt Go.RowKit
open Go.ChangeMaps (open_string shut_string)
set_option linter.unusedVariables false
theorem laidOut : laidOutB Tryd.prog = true := by kernel_rfl
theorem cM : Tryd.prog.cellsOf 36 = 4 := by kernel_rfl
theorem cB : Tryd.prog.cellsOf 4 = 1 := by kernel_rfl
theorem cI : Tryd.prog.cellsOf 3 = 1 := by kernel_rfl
set_option maxRecDepth 100000 in
theorem lifted (os : Os) (started : os.Started) (H : Type) (enc : TypeId × Value → H) :
    ReturnsInHanded {} Tryd.checked os 4 .any (fun w args => (Rows.controlNilSpec.pre enc Tryd.prog Tryd.f4 [] false w args ∧ laidMetH Tryd.prog Laid.laid w) ∧ sizedMet enc Tryd.prog Tryd.f4 (OpenSpec.ofChange Rows.controlNilSpec) false w args) (Rows.controlNilSpec.post enc Tryd.prog Tryd.f4 false true false false) := by
  refine returnsInHanded_of_change_and (C := Tryd.checked) (X := fun w _ => laidMetH Tryd.prog Laid.laid w) (fun _ _ _ hh h => h.of_heap hh) Laid.own started (by kernel_rfl) Tryd.func4
    (ChangeSpec.witness_at (enc := enc) (C := Tryd.checked) (os := os) (X := fun w _ => laidMetH Tryd.prog Laid.laid w) false (Laid.laidWorld os) #[.agg #[.bool false, .bool false, .bool false, .int .i64 0]] 8 rfl (by kernel_rfl) (by kernel_rfl) (by kernel_rfl) (by kernel_rfl) (by kernel_rfl) (Laid.laidWorld_met os _)) ?_
  intro W base args ds gs before hval0 hW hcnd hsz0 hL _
  have hsz : (DataW.weightsEach Tryd.prog (Tryd.f4.params.toList ++ Rows.controlNilSpec.plain.varTypes Tryd.prog) (ds ++ gs)).all (· ≤ reachBytes) = true := hsz0
  have hval : ∀ (j : Nat) t v, Tryd.f4.params[j]? = some t → args[j]? = some v → Value.okWide Tryd.prog W .any base t v := hval0
  have hW' := hW
  obtain ⟨p, q, hA0, hV, rfl, hfz, hnd⟩ := hW
  have hA : DataW.TrodAll enc Tryd.prog W 0 (fun _ => true) true Tryd.f4.params.toList args.toList ds p := hA0
  rw [Tryd.params4] at hA hval hsz
  obtain ⟨v0, vs0, d0, ds0, p0, q0, hargs, rfl, rfl, h0, r0⟩ := trodAll_cons hA
  obtain ⟨rfl, rfl, rfl⟩ := trodAll_nil r0
  obtain rfl : args = #[v0] := by cases args; simp_all
  obtain ⟨rfl, rfl⟩ := trodVars_none hV
  obtain ⟨cs, rfl, hsz4⟩ := okWide_struct Tryd.underlying36 (hval 0 36 v0 rfl rfl)
  rw [cM] at hsz4
  obtain ⟨c0, c1, c2, c3, rfl⟩ := Joins.array4 hsz4
  have k0 := h0
  have lt0 : ∀ x ∈ p0, x.block < W.heap.size := by obtain ⟨m, hm⟩ := k0; exact DataW.trod_lt m _ _ _ hm
  obtain ⟨b0, b1, b2, y, rfl, rfl, rfl, rfl⟩ : ∃ (b0 b1 b2 : Bool) (y : Int), c0 = .bool b0 ∧ c1 = .bool b1 ∧ c2 = .bool b2 ∧ c3 = .int .i64 y := by
    obtain ⟨fuel, hf⟩ := h0
    obtain ⟨y0, y1, y2, y3, n', _, _, t0, t1, t2, t3⟩ := Joins.trod_struct4 Tryd.underlying36 hf
    dsimp only at t0 t1 t2 t3
    rw [cB] at t0 t1 t2
    rw [cI] at t3
    obtain ⟨b0, e0, _⟩ := DataW.trod_bool Tryd.underlying4 t0
    obtain ⟨b1, e1, _⟩ := DataW.trod_bool Tryd.underlying4 t1
    obtain ⟨b2, e2, _⟩ := DataW.trod_bool Tryd.underlying4 t2
    obtain ⟨i3, e3, _⟩ := DataW.trod_int Tryd.underlying3 t3
    refine ⟨b0, b1, b2, i3, ?_, ?_, ?_, ?_⟩
    · simpa [Value.cells] using e0
    · simpa [Value.cells] using e1
    · simpa [Value.cells] using e2
    · simpa [Value.cells] using e3
  clear hA0 hval0 hsz0 hsz
  refine (Nil.law.walk Pure.ControlNil b0 b1 b2 y W (Laid.handle_of_laid hL)).mono fun e W' ⟨he, bel⟩ => ?_
  subst he
  exact ⟨_, rfl, _, _, _, [], _, [], hW', trodAll_mk1 (shut_bool Tryd.underlying4 _), (trodAll_cons_mk (Below.trod laidOut (by kernel_rfl) (of_decide_eq_true (by kernel_rfl)) k0 bel lt0) trodAll_mk0), rfl, bel.frame _, fun h => by cases h⟩
theorem over : Rows.controlNilRow.holds Tryd.pinned (OpenSpec.ofChange Rows.controlNilSpec) :=
  OpenClaim.holds_of_wide 4 Tryd.f4 rfl rfl rfl rfl rfl rfl rfl ⟨rfl, rfl, rfl, rfl, rfl⟩ rfl rfl rfl rfl rfl (by kernel_rfl) Tryd.func4 (by kernel_rfl)
    (of_decide_eq_true (by kernel_rfl)) (by unfold Func.isWrapper; first | (rw [if_pos (by decide +kernel)]; kernel_rfl) | (rw [if_neg (by decide +kernel)]; exact ⟨rfl, rfl⟩))
    (fun os started H enc _ => lifted os started H enc)
theorem proved : Rows.ControlNilSaid := over
theorem card : Rows.ControlNilCardSaid :=
  Claim7.holds_tied_plain_at .later [] [.handle] true (true, "2de63790d398abcf125b0559ee082b29503949e11b9a8cd30745f522050bee3d") true
    proved (fun _ h => by cases h) (by kernel_rfl) (fun _ h => by cases h) controlNil_row_tie rfl ⟨rfl, rfl⟩ (by kernel_rfl) rfl
    (fun f fn hf hfn => by
      obtain rfl : f = 4 := Option.some.inj ((show Tryd.prog.funcNamed "geyser/geyserlaw21.ControlNil" = some 4 by kernel_rfl).symm.trans hf) |>.symm
      obtain rfl : fn = Tryd.f4 := (Option.some.inj (Tryd.func4.symm.trans hfn)).symm
      exact ⟨by kernel_rfl, fun j t ht => by
        rw [Tryd.params4] at ht
        rcases j with _ | j
        · obtain rfl : 36 = t := by simpa using ht
          exact (show Tryd.prog.wantsStandIn 36 = false by kernel_rfl)
        · simp at ht⟩)
    (by kernel_rfl)
#print axioms card
end Go.Proofs.YtgbghjbihddpjaaDoor.controlNil
namespace Go.Proofs.YtgbghjbihddpjaaDoor
/-- The card, under a short name, for the claim. -/
theorem controlNil_card : Rows.ControlNilCardSaid := controlNil.card
end Go.Proofs.YtgbghjbihddpjaaDoor
