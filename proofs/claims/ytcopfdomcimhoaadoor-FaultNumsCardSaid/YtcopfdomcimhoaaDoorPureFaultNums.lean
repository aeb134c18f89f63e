/- FaultNums: for every number and every list of calls the law answers true. No memory in sight. -/
import Derived.Test.YtcopfdomcimhoaaDoorQFaultNumsx
import Derived.Test.YtcopfdomcimhoaaDoorKit
namespace Go.Proofs.YtcopfdomcimhoaaDoor.Pure
open Go.RowKit Go.Proofs.YtcopfdomcimhoaaDoor.QFaultNums Go.Proofs.YtcopfdomcimhoaaDoor.ErP Go.Proofs.YtcopfdomcimhoaaDoor.Flt Go.Proofs.YtcopfdomcimhoaaDoorW.PrintWords Go.Proofs.YtcopfdomcimhoaaDoorW.PrintLast Go.Proofs.YtcopfdomcimhoaaDoorW.PrintMore Go.Proofs.YtcopfdomcimhoaaDoor.Kit
theorem FaultNums.awake : geyserlaw01_awake.f = some true := by decide +kernel
theorem FaultNums.cut (l : List ByteArray) : geyserlaw01_cut.f l = some (l.take 60) := by
  unfold geyserlaw01_cut.f
  by_cases h : (l.length : Int) > 60
  · rw [if_pos h, if_pos (by omega)]
  · rw [if_neg h, List.take_of_length_le (by omega)]
theorem refCall (n : Int) (l : List ByteArray) (hl : l.length ≤ 60) : geyserref01_Call.f n l = some (callOf (madeOf n l)) := by
  unfold geyserref01_Call.f
  by_cases h : n = 0
  · rw [if_pos h, madeOf, if_pos h]; rfl
  · rw [if_neg h, madeOf, if_neg h]
    by_cases h2 : (l.length : Int) = 0
    · obtain rfl : l = [] := List.eq_nil_of_length_eq_zero (by omega)
      rfl
    · rw [if_neg h2, w64 ⟨by omega, by omega⟩, if_pos (by omega), if_pos (by omega)]
      obtain ⟨m, hm⟩ : ∃ m, l.length = m + 1 := ⟨l.length - 1, by omega⟩
      have e1 : ((l.length : Int) - 1) = (m : Int) := by omega
      rw [e1]
      have hml : m < l.length := by omega
      have hne : l ≠ [] := by intro h; rw [h] at hm; cases hm
      have hg : l.getLast hne = l[m] := by rw [List.getLast_eq_getElem]; congr 1; omega
      have hr : l.reverse.headD ⟨#[]⟩ = l[m] := by
        rw [← hg, List.headD_eq_head?_getD, List.head?_reverse, List.getLast?_eq_some_getLast hne]; rfl
      rw [show callOf (some (l.reverse, n)) = l.reverse.headD ⟨#[]⟩ from rfl, hr]
      simp [rdOf, hml]
theorem FaultNums (n : Int) (l : List ByteArray) : Ev (fun k => geyserlaw01_FaultNums.f k n l) true := by
  unfold geyserlaw01_FaultNums.f
  rw [FaultNums.cut]
  have hl : (l.take 60).length ≤ 60 := by simp; omega
  generalize l.take 60 = t at hl
  refine EvC rfl (EvC (show made.f n t = some (madeOf n t) from rfl) (EvC (show fault_Num.f none = some 0 from rfl) (EvT rfl (EvC (show fault_Call.f none = some ⟨#[]⟩ from rfl) (EvT (by decide +kernel) (EvC (show fault_Chain.f none = some [] from rfl) (EvT rfl (EvC (show fault_Is.f none 2 = some false from rfl) ?_))))))))
  refine Ev.step (fun k => geyserlaw01_FaultNums.j0.eq_2 n t (madeOf n t) false k) ?_
  refine EvF (by decide) (EvC (show fault_Num.f (madeOf n t) = some (numOf (madeOf n t)) from rfl) (EvT ?_ (EvC (show fault_Call.f (madeOf n t) = some (callOf (madeOf n t)) from rfl) (EvC (refCall n t hl) (EvT rfl (EvC FaultNums.awake (EvK rfl)))))))
  unfold madeOf
  split
  · rename_i h; rw [h]; rfl
  · rfl
end Go.Proofs.YtcopfdomcimhoaaDoor.Pure
