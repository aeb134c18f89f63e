/- MixBelow (P6.2): for every x, salt and bound, mix.Below tells the mix below the bound as the reference does, or ErrRange of mix.Below, just where the reference refuses the bound. Conditions: none. -/
import Derived.Test.YtakhbcmhfgjocaaDoorMixMixBelow
namespace Go.Proofs.YtakhbcmhfgjocaaDoor.Pure
open Go.RowKit Go.Proofs.YtakhbcmhfgjocaaDoor.QMixBelow Go.Proofs.YtakhbcmhfgjocaaDoorW.PrintWords Go.Proofs.YtakhbcmhfgjocaaDoorW.PrintLast Go.Proofs.YtakhbcmhfgjocaaDoorW.PrintMore Go.Proofs.YtakhbcmhfgjocaaDoor.MixM Go.Proofs.YtakhbcmhfgjocaaDoor.Kit Go.Proofs.YtakhbcmhfgjocaaDoor.Er Go.Proofs.YtakhbcmhfgjocaaDoor.Tells Go.Proofs.YtakhbcmhfgjocaaDoor.MixMixBelow

theorem tells_ok (w : ByteArray) : tells.f none 0 w = some true := rfl
theorem tells_bad : tells.f (some ([belowW], 1)) 1 belowW = some true := by decide +kernel
theorem MixBelow : geyserlaw06_MixBelow.Pure := by
  intro a0 a1 m w0 w1 _
  obtain ⟨x, rfl, hx⟩ := nat_of_u32 w0
  obtain ⟨s, rfl, hs⟩ := nat_of_u32 w1
  refine Ev.rounds ?_
  unfold geyserlaw06_MixBelow.f
  by_cases h : m < 1 ∨ m > 1048576
  · exact Ev.bind (below_bad _ _ m h) (EvC (check_bad h) (EvC tells_bad (EvT rfl (EvF (by decide) (EvT rfl (Ev.bind awake_ev (Ev.now true)))))))
  · have h3 := Int.emod_nonneg ((nmix x s : Nat) : Int) (b := m) (by omega)
    have h4 := Int.emod_lt_of_pos ((nmix x s : Nat) : Int) (b := m) (by omega)
    exact Ev.bind (below_ok x s m (by omega) (by omega)) (EvC (check_ok (by omega) (by omega)) (EvC (tells_ok _) (EvT rfl (EvT rfl (EvC (ref_below x s m hx hs (by omega) (by omega)) (EvT rfl (EvT h3 (EvT h4 (Ev.bind awake_ev (Ev.now true))))))))))
end Go.Proofs.YtakhbcmhfgjocaaDoor.Pure
