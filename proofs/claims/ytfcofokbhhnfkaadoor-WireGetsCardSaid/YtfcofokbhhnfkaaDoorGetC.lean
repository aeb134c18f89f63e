/- wire.Get, by its contract, of whatever bytes. Conditions: bytes as they may be read. -/
import Derived.Test.YtfcofokbhhnfkaaDoorGetD
import Derived.Test.YtfcofokbhhnfkaaDoorGetA
import Derived.Test.YtfcofokbhhnfkaaDoorGetO
namespace Go.Proofs.YtfcofokbhhnfkaaDoor.Byt
set_option linter.unusedSimpArgs false
set_option linter.unusedVariables false
open Go.RowKit Go.Deep Go.Proofs.YtfcofokbhhnfkaaDoor.Er Go.Proofs.YtfcofokbhhnfkaaDoorW.PrintWords Go.Proofs.YtfcofokbhhnfkaaDoorW.PrintLast Go.Proofs.YtfcofokbhhnfkaaDoorW.PrintMore
theorem Get_calls {D : Nat → Prop} (w : World) (v : Value) (l : List Int) (hl : RdB D w v l) (hD : ∀ k, D k → k < w.heap.size) :
    Calls Tryd.prog 14 #[v] w fun e w' => ∃ v' ev, e = .returned (.tuple #[pkV (getP l) v', ev]) ∧ ErR w' ev (getR l) ∧ OB w.heap.size w' v' (getP l).data ∧ Below w.heap.size w w' := by
  by_cases h : takeE l = 0
  · have e1 : getP l = (bodyG (takeL l)).1 := if_pos h
    have e2 : getR l = er getN (bodyG (takeL l)).2 := if_pos h
    have ht : er takeN (takeE l) = none ∧ takeL l = takeL l := ⟨er_none.2 h, rfl⟩
    rw [e1, e2]
    by_cases k1 : nxtV (takeL l) 1 = 1
    · exact Get_data w v l _ hl hD ht k1
    · by_cases k2 : nxtV (takeL l) 1 = 2
      · exact Get_ann w v l _ hl hD ht k2
      · exact Get_other w v l _ hl hD ht k1 k2
  · have e1 : getP l = pk0 := if_neg h
    have e2 : getR l = some ([getN, takeN], takeE l) := if_neg h
    rw [e1, e2]
    exact Get_no w v l hl hD h
end Go.Proofs.YtfcofokbhhnfkaaDoor.Byt
