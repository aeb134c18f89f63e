/- ParamsOfs (P8.2): of any number of source symbols, params.Of answers as the reference does, or ErrRange just where it is not from 1 to 128; each of the 128 is computed. Conditions: none. -/
import Derived.Test.YtnlkeeaoknbmbaaDoorParParamsOfs
import Derived.Test.YtnlkeeaoknbmbaaDoorTells08
namespace Go.Proofs.YtnlkeeaoknbmbaaDoor.Pure
open Go.RowKit Go.Proofs.YtnlkeeaoknbmbaaDoor.QParamsOfs Go.Proofs.YtnlkeeaoknbmbaaDoorW.PrintWords Go.Proofs.YtnlkeeaoknbmbaaDoorW.PrintLast Go.Proofs.YtnlkeeaoknbmbaaDoorW.PrintMore Go.Proofs.YtnlkeeaoknbmbaaDoor.Kit Go.Proofs.YtnlkeeaoknbmbaaDoor.Er Go.Proofs.YtnlkeeaoknbmbaaDoor.ParParamsOfs Go.Proofs.YtnlkeeaoknbmbaaDoor.Tells

theorem tells_one (w : ByteArray) : tells.f (some ([w], 1)) 1 w = some true := by
  unfold tells.f
  rw [if_neg (by decide)]
  simp
def ofW : ByteArray := ⟨#[112, 97, 114, 97, 109, 115, 46, 79, 102]⟩
set_option maxRecDepth 100000 in
theorem each : (List.range 128).all (fun q => geyserlaw08_ParamsOfs.f 700 ((q : Int) + 1) == some true) = true := by decide +kernel
theorem of_bad {n : Int} (h : n < 1 ∨ n > 128) : Ev (fun k => params_Of.f k n) (0, 0, 0, 0, 0, some ([ofW], 1)) := by
  have hj : Ev (fun k => params_Of.j0 k n true) (0, 0, 0, 0, 0, some ([ofW], 1)) := Ev.step (fun k => params_Of.j0.eq_2 n true k) (EvT rfl (EvC rfl (EvK rfl)))
  unfold params_Of.f
  by_cases h1 : n < 1
  · exact EvT h1 hj
  · refine EvF h1 ?_
    rw [decide_eq_true (by omega)]
    exact hj
theorem ParamsOfs : geyserlaw08_ParamsOfs.Pure := by
  intro n _
  by_cases h : n < 1 ∨ n > 128
  · refine Ev.rounds ?_
    unfold geyserlaw08_ParamsOfs.f
    have hj : Ev (fun k => geyserlaw08_ParamsOfs.j0 k n (some ([ofW], 1)) true 0 0 0 0 0) true :=
      Ev.step (fun k => geyserlaw08_ParamsOfs.j0.eq_2 n (some ([ofW], 1)) true 0 0 0 0 0 k) (EvT rfl (EvC (tells_one _) (EvT rfl (EvT rfl (Ev.bind awake_ev (Ev.now true))))))
    refine Ev.bind (of_bad h) ?_
    by_cases h1 : n < 1
    · exact EvT h1 hj
    · refine EvF h1 ?_
      rw [decide_eq_true (by omega)]
      exact hj
  · refine ⟨700, ?_⟩
    have := List.all_eq_true.1 each (n - 1).toNat (List.mem_range.2 (by omega))
    rw [Int.toNat_of_nonneg (by omega), show n - 1 + 1 = n by omega] at this
    exact beq_iff_eq.1 this
end Go.Proofs.YtnlkeeaoknbmbaaDoor.Pure
