/- CheckAdds (P15.1, P15.3): any bytes with their sum are the reference's, and back again. Conditions: none. -/
import Derived.Test.YtdiimfldkbpagaaRadCheckAdds
namespace Go.Proofs.Ytdiimfldkbpagaa.Pure
open Go.RowKit Go.Proofs.Ytdiimfldkbpagaa.QCheckAdds Go.Proofs.YtdiimfldkbpagaaW.PrintWords Go.Proofs.YtdiimfldkbpagaaW.PrintLast Go.Proofs.YtdiimfldkbpagaaW.PrintMore Go.Proofs.Ytdiimfldkbpagaa.Kit Go.Proofs.Ytdiimfldkbpagaa.Er Go.Proofs.Ytdiimfldkbpagaa.CrcM Go.Proofs.Ytdiimfldkbpagaa.CheCheckAdds Go.Proofs.Ytdiimfldkbpagaa.RefCheckAdds Go.Proofs.Ytdiimfldkbpagaa.RadCheckAdds

theorem loop (N : List Nat) (hN : ∀ x ∈ N, x < 256) (hl : N.length + 4 < 140737488355328) : ∀ (d p : Nat) (X : List Int), X.length = p + d → p + d ≤ 140737488355328 →
    Ev (fun k => geyserlaw15_CheckAdds.l0 k (li N) X (li (add N)) (p : Int)) true
  | 0, p, X, hX, _ => by
    have hA := add_lt hN
    have ht := take_long (add N) hA (by rw [add_len]; omega) (by rw [add_len]; omega)
    have he : (add N).take ((add N).length - 4) = N := by
      rw [add_len, Nat.add_sub_cancel]
      unfold add
      rw [List.take_append_of_le_length (Nat.le_refl _), List.take_length]
    rw [he, if_pos rfl] at ht
    exact Ev.step (fun k => geyserlaw15_CheckAdds.l0.eq_2 (li N) X (li (add N)) (p : Int) k) (EvF (by omega) (Ev.bind ht (Ev.bind (ref_add N hN hl) (EvT rfl (EvT rfl (EvT rfl (Ev.bind awake_ev (Ev.now true))))))))
  | d + 1, p, X, hX, hp => by
    refine Ev.step (fun k => geyserlaw15_CheckAdds.l0.eq_2 (li N) X (li (add N)) (p : Int) k) (EvT (by omega) (EvT (by omega) ?_))
    rw [w64 (n := (p : Int) + 1) (by omega)]
    exact loop N hN hl d (p + 1) _ (by rw [List.length_set]; omega) (by omega)
theorem CheckAdds : geyserlaw15_CheckAdds.Pure := by
  intro l _ h1 h2
  obtain ⟨N, rfl, hN⟩ := li_of h2
  rw [li_len] at h1
  refine Ev.rounds ?_
  unfold geyserlaw15_CheckAdds.f
  rw [li_len, w64 (n := (N.length : Int) + 16) (by omega)]
  refine EvT (by omega) (EvT (by omega) (EvC rfl (EvT (by simp; omega) (EvC rfl (Ev.bind (add_ev N hN (by omega)) ?_)))))
  have := loop N hN (by omega) N.length 0 (li N) (by rw [li_len]; omega) (by omega)
  exact this
end Go.Proofs.Ytdiimfldkbpagaa.Pure
