/- ControlFalls (P21.4): the level falls only by a tick that is no burst's, of which something was lost; and by each such one, till it is 0. Conditions: none. -/
import Derived.Test.YtgbghjbihddpjaaConControlFalls
namespace Go.Proofs.Ytgbghjbihddpjaa.Pure
open Go.RowKit Go.Proofs.Ytgbghjbihddpjaa.QControlFalls Go.Proofs.YtgbghjbihddpjaaW.PrintWords Go.Proofs.YtgbghjbihddpjaaW.PrintLast Go.Proofs.YtgbghjbihddpjaaW.PrintMore Go.Proofs.Ytgbghjbihddpjaa.Kit Go.Proofs.Ytgbghjbihddpjaa.Er Go.Proofs.Ytgbghjbihddpjaa.ConControlFalls

theorem loop (l : List S32) (T N : Int) (hT : T ≤ 7) (hN : 1 ≤ N) : ∀ (d i : Nat) (L C : Int) (S : Bool), i + d = 200 → 0 ≤ L → L ≤ T → 0 ≤ C → C ≤ i →
    Ev (fun k => geyserlaw21_ControlFalls.l0 k l (i : Int) L T N C S) true := by
  have stop : ∀ (i : Nat) (L C : Int) (S : Bool), Ev (fun k => geyserlaw21_ControlFalls.j1 k l (i : Int) false L T N C S) true := fun i L C S =>
    Ev.step (fun k => geyserlaw21_ControlFalls.j1.eq_2 l (i : Int) false L T N C S k) (EvF (by decide) (Ev.bind awake_ev (Ev.now true)))
  intro d
  induction d with
  | zero =>
    intro i L C S hi h1 h2 h3 h4
    refine Ev.step (fun k => geyserlaw21_ControlFalls.l0.eq_2 l (i : Int) L T N C S k) ?_
    by_cases c : (i : Int) < (l.length : Int)
    · refine EvT c ?_
      rw [decide_eq_false (by omega)]
      exact stop i L C S
    · exact EvF c (stop i L C S)
  | succ d ih =>
    intro i L C S hi h1 h2 h3 h4
    refine Ev.step (fun k => geyserlaw21_ControlFalls.l0.eq_2 l (i : Int) L T N C S k) ?_
    by_cases c : (i : Int) < (l.length : Int)
    · refine EvT c ?_
      rw [decide_eq_true (by omega)]
      refine Ev.step (fun k => geyserlaw21_ControlFalls.j1.eq_2 l (i : Int) true L T N C S k) (EvT rfl (EvT (by omega) (EvT c ?_)))
      generalize rd_T32 l (i : Int) = m
      obtain ⟨full, burst, lost, y⟩ := m
      obtain ⟨z, hz, z1, z2⟩ := fit_ok y
      have hp := mark_props L T N C S full burst lost z ⟨h1, by omega⟩ ⟨h3, by omega⟩ ⟨h2, hT⟩ hN
      have hm := mark_ev L T N C S full burst lost z z1 z2
      generalize markP L T N C S full burst lost z = m at hp hm
      obtain ⟨m1, m2, m3, m4⟩ := m
      dsimp only at hp hm ⊢
      unfold geyserlaw21_fit.f
      rw [hz]
      have next : Ev (fun k => geyserlaw21_ControlFalls.l0 k l (wrap64 ((i : Int) + 1)) m2 T N m3 m4) true := by
        rw [w64 (n := (i : Int) + 1) (by omega)]
        exact ih (i + 1) m2 m3 m4 (by omega) (by omega) (by omega) (by omega) (by omega)
      refine EvC rfl (EvC rfl (Ev.bind hm (EvT rfl ?_)))
      have h5 := hp.2.2.1
      cases burst with
      | true =>
        refine EvT rfl (EvF ?_ next)
        rw [show decide (m1 < 0) = false from decide_eq_false (fun h => absurd (h5.1 h).1 (by decide))]; decide
      | false =>
        refine EvF Bool.false_ne_true ?_
        cases lost with
        | true =>
          refine EvT rfl (EvF ?_ next)
          by_cases c2 : 0 < L
          · rw [show decide (m1 < 0) = true from decide_eq_true (h5.2 ⟨rfl, rfl, c2⟩)]
            show ¬ ((true != decide (L > 0)) = true)
            rw [decide_eq_true (show L > 0 from c2)]; decide
          · rw [show decide (m1 < 0) = false from decide_eq_false (fun h => c2 (h5.1 h).2.2)]
            show ¬ ((false != decide (L > 0)) = true)
            rw [decide_eq_false (show ¬ L > 0 from c2)]; decide
        | false =>
          refine EvF Bool.false_ne_true (EvF ?_ next)
          rw [show decide (m1 < 0) = false from decide_eq_false (fun h => absurd (h5.1 h).2.1 (by decide))]; decide
    · exact EvF c (stop i L C S)
theorem ControlFalls (a b : Int) (l : List S32) : ∃ k, geyserlaw21_ControlFalls.f k a b l = some true := by
  obtain ⟨q, hq, q1, q2⟩ := utm a 8 (by omega) (by omega)
  obtain ⟨p, hp, p1, p2⟩ := utm b 5 (by omega) (by omega)
  refine Ev.rounds ?_
  unfold geyserlaw21_ControlFalls.f geyserlaw21_begin.f
  rw [hq, hp, w64 (n := 1 + p) (by omega)]
  exact EvC rfl (EvT rfl (loop l q (1 + p) (by omega) (by omega) 200 0 0 0 false (by omega) (by omega) (by omega) (by omega) (by omega)))
end Go.Proofs.Ytgbghjbihddpjaa.Pure
