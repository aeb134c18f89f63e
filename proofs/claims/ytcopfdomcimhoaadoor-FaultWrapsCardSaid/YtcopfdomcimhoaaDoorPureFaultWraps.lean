/- FaultWraps: for every number and every list of calls the law answers true. No memory in sight. -/
import Derived.Test.YtcopfdomcimhoaaDoorQFaultWrapsx
import Derived.Test.YtcopfdomcimhoaaDoorKit
namespace Go.Proofs.YtcopfdomcimhoaaDoor.Pure
open Go.RowKit Go.Proofs.YtcopfdomcimhoaaDoor.QFaultWraps Go.Proofs.YtcopfdomcimhoaaDoor.ErP Go.Proofs.YtcopfdomcimhoaaDoor.Flt Go.Proofs.YtcopfdomcimhoaaDoorW.PrintWords Go.Proofs.YtcopfdomcimhoaaDoorW.PrintLast Go.Proofs.YtcopfdomcimhoaaDoorW.PrintMore Go.Proofs.YtcopfdomcimhoaaDoor.Kit
theorem FaultWraps.awake : geyserlaw01_awake.f = some true := by decide +kernel
theorem FaultWraps.cut (l : List ByteArray) : geyserlaw01_cut.f l = some (l.take 60) := by
  unfold geyserlaw01_cut.f
  by_cases h : (l.length : Int) > 60
  · rw [if_pos h, if_pos (by omega)]
  · rw [if_neg h, List.take_of_length_le (by omega)]
theorem FaultWraps (c : ByteArray) (n : Int) (l : List ByteArray) : geyserlaw01_FaultWraps.f c n l = some true := by
  unfold geyserlaw01_FaultWraps.f
  rw [FaultWraps.cut]
  have hA := FaultWraps.awake
  generalize l.take 60 = t
  by_cases h : n = 0
  · subst h
    simp [made.f, madeOf, fault_Wrap.f, wrapE, hA]
  · simp [made.f, madeOf, fault_Wrap.f, wrapE, h, is.f, isC, hA]
end Go.Proofs.YtcopfdomcimhoaaDoor.Pure
