/- ParamsTriangle (P8.4): of any row and place (cut to their ranges) the ways to choose are symmetric and each is the sum of the two above it. Conditions: none. -/
import Derived.Test.YtnlkeeaoknbmbaaParParamsTriangle
namespace Go.Proofs.Ytnlkeeaoknbmbaa.Pure
open Go.RowKit Go.Proofs.Ytnlkeeaoknbmbaa.QParamsTriangle Go.Proofs.YtnlkeeaoknbmbaaW.PrintWords Go.Proofs.YtnlkeeaoknbmbaaW.PrintLast Go.Proofs.YtnlkeeaoknbmbaaW.PrintMore Go.Proofs.Ytnlkeeaoknbmbaa.Kit Go.Proofs.Ytnlkeeaoknbmbaa.Er Go.Proofs.Ytnlkeeaoknbmbaa.ParParamsTriangle

theorem tri (n j : Nat) (h : j ≤ n + 1) (hn : n ≤ 59) : ∃ c d : Int, Choose.f (n : Int) ((j : Int) - 1) = some (c, none) ∧ Choose.f (n : Int) (j : Int) = some (d, none) ∧ Choose.R (n + 1) j = wrap64 (c + d) := by
  by_cases h0 : j = 0
  · subst h0
    refine ⟨0, Choose.R n 0, choose_out n _ (by omega) (by omega) (.inl (by omega)), choose_ok n 0 (by omega) (by omega), ?_⟩
    rw [R_first, R_first]
    exact (w64 (by omega)).symm
  · have e1 : Choose.f (n : Int) ((j : Int) - 1) = some (Choose.R n (j - 1), none) := by
      rw [show (j : Int) - 1 = ((j - 1 : Nat) : Int) by omega]
      exact choose_ok n (j - 1) (by omega) (by omega)
    by_cases h1 : j = n + 1
    · subst h1
      refine ⟨_, 0, e1, choose_out n _ (by omega) (by omega) (.inr (by omega)), ?_⟩
      rw [Choose.R_succ n (n + 1) (by omega), if_neg (by omega), Choose.R_out n (n + 1) (by omega), Int.add_comm]
    · refine ⟨_, Choose.R n j, e1, choose_ok n j (by omega) (by omega), ?_⟩
      rw [Choose.R_succ n j h, if_neg h0, Int.add_comm]
theorem ParamsTriangle : geyserlaw08_ParamsTriangle.Pure := by
  intro a0 a1 _ _
  refine Ev.rounds ?_
  unfold geyserlaw08_ParamsTriangle.f
  obtain ⟨q, hq, h1, h2⟩ := utm a0 60 (by omega) (by omega)
  rw [hq, w64 (n := 1 + q) (by omega), w64 (n := 1 + q + 1) (by omega), u64w (n := 1 + q + 1) (by omega)]
  obtain ⟨j, hj, h3, h4⟩ := utm a1 (1 + q + 1) (by omega) (by omega)
  rw [hj, w64 (n := 1 + q - j) (by omega), w64 (n := 1 + q - 1) (by omega), w64 (n := j - 1) (by omega)]
  obtain ⟨n, rfl⟩ : ∃ n : Nat, q = n := ⟨q.toNat, by omega⟩
  obtain ⟨i, rfl⟩ : ∃ i : Nat, j = i := ⟨j.toNat, by omega⟩
  rw [show 1 + (n : Int) - 1 = n by omega, show 1 + (n : Int) = ((n + 1 : Nat) : Int) by omega, show ((n + 1 : Nat) : Int) - (i : Int) = ((n + 1 - i : Nat) : Int) by omega]
  obtain ⟨c, d, e1, e2, e3⟩ := tri n i (by omega) (by omega)
  refine EvF (by omega) (EvC (choose_ok (n + 1) i (by omega) (by omega)) (EvC (choose_ok (n + 1) (n + 1 - i) (by omega) (by omega)) (EvC e1 (EvC e2 ?_))))
  exact EvT rfl (EvT rfl (EvT rfl (EvT rfl (EvT (R_sym (n + 1) i (by omega)) (EvT e3 (Ev.bind awake_ev (Ev.now true)))))))
end Go.Proofs.Ytnlkeeaoknbmbaa.Pure
