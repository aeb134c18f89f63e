/- ParamsLeast (P8.3): from any number on up to the prime that is told there is no prime, and nothing below that prime but 1 divides it. Conditions: none. -/
import Derived.Test.YtnlkeeaoknbmbaaParParamsLeast
namespace Go.Proofs.Ytnlkeeaoknbmbaa.Pure
open Go.RowKit Go.Proofs.Ytnlkeeaoknbmbaa.QParamsLeast Go.Proofs.YtnlkeeaoknbmbaaW.PrintWords Go.Proofs.YtnlkeeaoknbmbaaW.PrintLast Go.Proofs.YtnlkeeaoknbmbaaW.PrintMore Go.Proofs.Ytnlkeeaoknbmbaa.Kit Go.Proofs.Ytnlkeeaoknbmbaa.Er Go.Proofs.Ytnlkeeaoknbmbaa.ParParamsLeast

theorem l1_ok (a q : Int) (hq : P q) (ha : a ≤ q) (d : Nat) : ∀ i : Int, 2 ≤ i → i + d = q → Ev (fun k => geyserlaw08_ParamsLeast.l1 k a q i) true := by
  induction d with
  | zero =>
    intro i h2 hi
    exact Ev.step (fun k => geyserlaw08_ParamsLeast.l1.eq_2 a q i k) (EvF (by omega) (EvT (by omega) (EvT (by omega) (Ev.bind awake_ev (Ev.now true)))))
  | succ d ih =>
    intro i h2 hi
    have h3 := hq.2.1
    refine Ev.step (fun k => geyserlaw08_ParamsLeast.l1.eq_2 a q i k) (EvT (by omega) (EvF (by omega) (EvF ?_ ?_)))
    · rw [tmod_pos (by omega)]
      exact hq.2.2 i h2 (by omega)
    · rw [w64 (by omega)]
      exact ih (i + 1) (by omega) (by omega)
theorem l0_ok (a q : Int) (hq : P q) (ha : a ≤ q) (h0 : -1000 ≤ a) (hn : ∀ i, a ≤ i → i < q → ¬ P i) (d : Nat) : ∀ i : Int, a ≤ i → i + d = q → Ev (fun k => geyserlaw08_ParamsLeast.l0 k a q i) true := by
  have h3 := hq.2.1
  have h4 := hq.1
  induction d with
  | zero =>
    intro i h2 hi
    exact Ev.step (fun k => geyserlaw08_ParamsLeast.l0.eq_2 a q i k) (EvF (by omega) (l1_ok a q hq ha (q - 2).toNat 2 (by omega) (by omega)))
  | succ d ih =>
    intro i h2 hi
    refine Ev.step (fun k => geyserlaw08_ParamsLeast.l0.eq_2 a q i k) (EvT (by omega) (EvC (isPrime_no (hn i h2 (by omega))) (EvF (by decide) ?_)))
    rw [w64 (by omega)]
    exact ih (i + 1) (by omega) (by omega)
theorem ParamsLeast : geyserlaw08_ParamsLeast.Pure := by
  intro a _
  refine Ev.rounds ?_
  unfold geyserlaw08_ParamsLeast.f
  by_cases h : a ≤ 65521
  · obtain ⟨q, e, h1, h2, h3, h4, h5⟩ := prime_ok h
    refine Ev.bind e (EvT rfl ?_)
    by_cases h0 : a < -1000
    · rw [decide_eq_true h0]
      refine Ev.step (fun k => geyserlaw08_ParamsLeast.j0.eq_2 a q none true k) (EvT rfl (EvT rfl (EvT ?_ (Ev.bind awake_ev (Ev.now true)))))
      rw [decide_eq_true h]
      rfl
    · rw [decide_eq_false h0]
      exact Ev.step (fun k => geyserlaw08_ParamsLeast.j0.eq_2 a q none false k) (EvF (by decide) (l0_ok a q h4 h2 (by omega) h5 (q - a).toNat a (by omega) (by omega)))
  · refine Ev.bind (prime_bad (by omega)) (EvF (by decide) ?_)
    refine Ev.step (fun k => geyserlaw08_ParamsLeast.j0.eq_2 a 0 (some ([primeW], 1)) true k) (EvT rfl (EvF (by decide) (EvT ?_ (Ev.bind awake_ev (Ev.now true)))))
    rw [decide_eq_false h]
    rfl
end Go.Proofs.Ytnlkeeaoknbmbaa.Pure
