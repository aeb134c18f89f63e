/- What the reference's powers of 2 are, for CheckSpoils. No memory in sight. -/
import Derived.Test.YtdiimfldkbpagaaDoorCheCheckSpoils
namespace Go.Proofs.YtdiimfldkbpagaaDoor.PowCheckSpoils
open Go.RowKit Go.Proofs.YtdiimfldkbpagaaDoor.QCheckSpoils Go.Proofs.YtdiimfldkbpagaaDoorW.PrintWords Go.Proofs.YtdiimfldkbpagaaDoorW.PrintLast Go.Proofs.YtdiimfldkbpagaaDoorW.PrintMore Go.Proofs.YtdiimfldkbpagaaDoor.Kit Go.Proofs.YtdiimfldkbpagaaDoor.Er Go.Proofs.YtdiimfldkbpagaaDoor.CrcM Go.Proofs.YtdiimfldkbpagaaDoor.CheCheckSpoils

theorem pow_all : (List.range 32).all (fun t => geyserref15_power.f 40 (t : Int) == some ((2 : Int) ^ t)) = true := by decide +kernel
theorem pow_ev (t : Nat) (h : t < 32) : Ev (fun k => geyserref15_power.f k (t : Int)) (((2 ^ t : Nat)) : Int) := by
  have := List.all_eq_true.1 pow_all t (List.mem_range.2 h)
  rw [beq_iff_eq] at this
  refine Ev.of (geyserref15_power.mono (t : Int)) (this.trans ?_)
  congr 1
end Go.Proofs.YtdiimfldkbpagaaDoor.PowCheckSpoils
