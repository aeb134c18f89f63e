/- CheckBursts (P15.4): bytes with their sum that were spoilt, in whatever 32 neighbouring bits, are none with their sum. Conditions: none. -/
import Derived.Test.YtdiimfldkbpagaaDoorSpoCheckBursts
import Derived.Test.YtdiimfldkbpagaaDoorTells15
namespace Go.Proofs.YtdiimfldkbpagaaDoor.Pure
open Go.RowKit Go.Proofs.YtdiimfldkbpagaaDoor.QCheckBursts Go.Proofs.YtdiimfldkbpagaaDoorW.PrintWords Go.Proofs.YtdiimfldkbpagaaDoorW.PrintLast Go.Proofs.YtdiimfldkbpagaaDoorW.PrintMore Go.Proofs.YtdiimfldkbpagaaDoor.Kit Go.Proofs.YtdiimfldkbpagaaDoor.Er Go.Proofs.YtdiimfldkbpagaaDoor.Tells Go.Proofs.YtdiimfldkbpagaaDoor.CrcM Go.Proofs.YtdiimfldkbpagaaDoor.CheCheckBursts Go.Proofs.YtdiimfldkbpagaaDoor.SpoCheckBursts

theorem tells_six : tells.f (some ([takeW], 6)) 6 takeW = some true := by decide +kernel
theorem CheckBursts : geyserlaw15_CheckBursts.Pure := by
  intro l a m _ h1 h2 _ h4
  obtain ⟨N, rfl, hN⟩ := li_of h2
  rw [li_len] at h1
  have hm := bounds_u32 h4
  have hA := add_lt hN
  refine Ev.rounds ?_
  unfold geyserlaw15_CheckBursts.f
  refine Ev.bind (add_ev N hN (by omega)) (Ev.bind (spoil_ev (add N) hA (by rw [add_len]; omega) a m (by omega)) ?_)
  cases hs : spoil (add N) a m with
  | none => exact EvF (by simp [out]) (EvT rfl (Ev.bind awake_ev (Ev.now true)))
  | some Y =>
    unfold spoil at hs
    split at hs
    · cases hs
    rename_i c
    have hYl := spo_len hs
    have hYb := spo_lt hA hs
    have hYc := spo_crc (s := M) (by omega) (by omega) rfl hs
    have hne : ¬ add (Y.take (Y.length - 4)) = Y := fun e => by
      refine burst (l := N) (q := Y) (b := Y.take (Y.length - 4)) (at_ := a.toNat) (mask := m.toNat) hN (take_lt hYb _) (by omega) (by omega) (by omega) ?_ e.symm
      rw [hYc, Nat.pow_zero, Nat.div_one, Nat.add_zero]
    have ht := take_long Y hYb (by rw [hYl, add_len]; omega) (by rw [hYl, add_len]; omega)
    rw [if_neg hne] at ht
    exact EvT rfl (Ev.bind ht (EvC tells_six (EvT rfl (EvT rfl (Ev.bind awake_ev (Ev.now true))))))
end Go.Proofs.YtdiimfldkbpagaaDoor.Pure
