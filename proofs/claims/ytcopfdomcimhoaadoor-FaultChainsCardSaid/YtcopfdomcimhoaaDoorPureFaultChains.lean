/- FaultChains: for every number and every list of calls the law answers true. No memory in sight. -/
import Derived.Test.YtcopfdomcimhoaaDoorQFaultChainsx
import Derived.Test.YtcopfdomcimhoaaDoorKit
namespace Go.Proofs.YtcopfdomcimhoaaDoor.Pure
open Go.RowKit Go.Proofs.YtcopfdomcimhoaaDoor.QFaultChains Go.Proofs.YtcopfdomcimhoaaDoor.ErP Go.Proofs.YtcopfdomcimhoaaDoor.Flt Go.Proofs.YtcopfdomcimhoaaDoorW.PrintWords Go.Proofs.YtcopfdomcimhoaaDoorW.PrintLast Go.Proofs.YtcopfdomcimhoaaDoorW.PrintMore Go.Proofs.YtcopfdomcimhoaaDoor.Kit
theorem FaultChains.awake : geyserlaw01_awake.f = some true := by decide +kernel
theorem FaultChains.cut (l : List ByteArray) : geyserlaw01_cut.f l = some (l.take 60) := by
  unfold geyserlaw01_cut.f
  by_cases h : (l.length : Int) > 60
  · rw [if_pos h, if_pos (by omega)]
  · rw [if_neg h, List.take_of_length_le (by omega)]
theorem chain_ev (n : Int) (hn : n ≠ 0) (l : List ByteArray) (hl : l.length ≤ 60) : ∀ (m : Nat) (acc : List ByteArray), m ≤ l.length → acc = (l.drop m).reverse →
    Ev (fun k => geyserref01_Chain.l0 k n l acc ((m : Int) - 1)) l.reverse
  | 0, acc, _, ha => by
    refine Ev.step (fun k => geyserref01_Chain.l0.eq_2 n l acc ((0 : Nat) - 1 : Int) k) ?_
    refine EvF (by omega) (EvK ?_)
    rw [ha, List.drop_zero]
  | m + 1, acc, hm, ha => by
    refine Ev.step (fun k => geyserref01_Chain.l0.eq_2 n l acc ((m + 1 : Nat) - 1 : Int) k) ?_
    have e1 : ((m + 1 : Nat) - 1 : Int) = (m : Int) := by omega
    rw [e1]
    refine EvT (by omega) (EvF hn (EvT (by omega) (EvT (by omega) (EvT ?_ ?_))))
    · rw [ha]; simp; omega
    · rw [w64 ⟨by omega, by omega⟩]
      refine chain_ev n hn l hl m _ (by omega) ?_
      have hml : m < l.length := hm
      rw [ha, show rdOf ByteArray.empty l (m : Int) = l[m] from by simp [rdOf, hml], ← List.reverse_cons, ← List.drop_eq_getElem_cons hml]
theorem same_ev (l : List ByteArray) (hl : l.length ≤ 60) : ∀ (m i : Nat), i + m = l.length → Ev (fun k => geyserref01_Same.l0 k l l (i : Int)) true
  | 0, i, hi => by
    refine Ev.step (fun k => geyserref01_Same.l0.eq_2 l l (i : Int) k) ?_
    exact EvF (by omega) (EvK rfl)
  | m + 1, i, hi => by
    refine Ev.step (fun k => geyserref01_Same.l0.eq_2 l l (i : Int) k) ?_
    refine EvT (by omega) (EvT (by omega) (EvT (by omega) (EvT rfl ?_)))
    rw [w64 ⟨by omega, by omega⟩]
    exact same_ev l hl m (i + 1) (by omega)
theorem refChain_ev (n : Int) (l : List ByteArray) (hl : l.length ≤ 60) : Ev (fun k => geyserref01_Chain.f k n l) (chainOf (madeOf n l)) := by
  unfold geyserref01_Chain.f
  rw [w64 ⟨by omega, by omega⟩]
  by_cases h : n = 0
  · rw [show chainOf (madeOf n l) = [] from by rw [madeOf, if_pos h]; rfl]
    refine Ev.step (fun k => geyserref01_Chain.l0.eq_2 n l [] ((l.length : Int) - 1) k) ?_
    by_cases h1 : (l.length : Int) - 1 ≥ 0
    · exact EvT h1 (EvT h (EvK rfl))
    · exact EvF h1 (EvK rfl)
  · rw [show chainOf (madeOf n l) = l.reverse from by rw [madeOf, if_neg h]; rfl]
    exact chain_ev n h l hl l.length [] (Nat.le_refl _) (by simp)
theorem FaultChains (n : Int) (l : List ByteArray) : Ev (fun k => geyserlaw01_FaultChains.f k n l) true := by
  unfold geyserlaw01_FaultChains.f
  rw [FaultChains.cut]
  have hl : (l.take 60).length ≤ 60 := by simp; omega
  generalize l.take 60 = t at hl
  have hc : (chainOf (madeOf n t)).length ≤ 60 := by
    unfold madeOf
    split
    · simp [chainOf]
    · simpa [chainOf] using hl
  refine EvC rfl (EvC (show made.f n t = some (madeOf n t) from rfl) (EvC (show fault_Chain.f (madeOf n t) = some (chainOf (madeOf n t)) from if_pos (by omega)) (Ev.bind (refChain_ev n t hl) (Ev.bind (a := true) ?_ ?_))))
  · unfold geyserref01_Same.f
    exact EvT rfl (same_ev _ hc _ 0 (Nat.zero_add _))
  · exact EvT rfl (EvC FaultChains.awake (EvK rfl))
end Go.Proofs.YtcopfdomcimhoaaDoor.Pure
