import Derived.Test.YtcopfdomcimhoaaDoorQFaultNewsx1
namespace Go.Proofs.YtcopfdomcimhoaaDoor.Pure
open Go.RowKit Go.Proofs.YtcopfdomcimhoaaDoor.QFaultNews Go.Proofs.YtcopfdomcimhoaaDoor.ErP Go.Proofs.YtcopfdomcimhoaaDoor.Flt Go.Proofs.YtcopfdomcimhoaaDoorW.PrintWords Go.Proofs.YtcopfdomcimhoaaDoorW.PrintLast
theorem FaultNews.awake : geyserlaw01_awake.f = some true := by decide +kernel
theorem FaultNews : geyserlaw01_FaultNews.Pure := by
  intro c n _ _
  unfold geyserlaw01_FaultNews.f
  have hA := FaultNews.awake
  by_cases h : n = 0
  · subst h
    simp [fault_New.f, hA]
  · simp [fault_New.f, h, is.f, isC, hA]
end Go.Proofs.YtcopfdomcimhoaaDoor.Pure
