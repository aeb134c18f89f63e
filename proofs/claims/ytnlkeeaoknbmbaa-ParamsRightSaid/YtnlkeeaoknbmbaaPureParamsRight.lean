/- ParamsRight (P8.5): of any number of source symbols (cut to 1 to 127): S is a prime, H the least that is enough, L all of them, P the prime, and one symbol more has no fewer of any. Each of the 127 is computed. Conditions: none. -/
import Derived.Test.YtnlkeeaoknbmbaaQParamsRightx
import Derived.Test.YtnlkeeaoknbmbaaKit
namespace Go.Proofs.Ytnlkeeaoknbmbaa.Pure
open Go.RowKit Go.Proofs.Ytnlkeeaoknbmbaa.QParamsRight Go.Proofs.YtnlkeeaoknbmbaaW.PrintWords Go.Proofs.YtnlkeeaoknbmbaaW.PrintLast Go.Proofs.YtnlkeeaoknbmbaaW.PrintMore Go.Proofs.Ytnlkeeaoknbmbaa.Kit Go.Proofs.Ytnlkeeaoknbmbaa.Er

set_option maxRecDepth 100000 in
theorem each : (List.range 127).all (fun q => geyserlaw08_ParamsRight.f 200 (q : Int) == some true) = true := by decide +kernel
theorem ParamsRight : geyserlaw08_ParamsRight.Pure := by
  intro a _
  obtain ⟨q, hq, h1, h2⟩ := utm a 127 (by omega) (by omega)
  have hself : wrap64 (Int.tmod (IntKind.u64.wrap q) 127) = q := by
    rw [u64w (by omega), tmod_pos h1, w64 (by omega)]
    omega
  refine ⟨200, ?_⟩
  have e : geyserlaw08_ParamsRight.f 200 a = geyserlaw08_ParamsRight.f 200 q := by
    unfold geyserlaw08_ParamsRight.f
    rw [hq, hself]
  rw [e]
  have := List.all_eq_true.1 each q.toNat (List.mem_range.2 (by omega))
  rw [Int.toNat_of_nonneg h1] at this
  exact beq_iff_eq.1 this
end Go.Proofs.Ytnlkeeaoknbmbaa.Pure
