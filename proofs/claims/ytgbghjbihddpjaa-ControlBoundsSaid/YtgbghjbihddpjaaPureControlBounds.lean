/- ControlBounds (P21.2): the level is always from 0 to top, and changes by at most one with a mark. Conditions: none. -/
import Derived.Test.YtgbghjbihddpjaaConControlBounds
namespace Go.Proofs.Ytgbghjbihddpjaa.Pure
open Go.RowKit Go.Proofs.Ytgbghjbihddpjaa.QControlBounds Go.Proofs.YtgbghjbihddpjaaW.PrintWords Go.Proofs.YtgbghjbihddpjaaW.PrintLast Go.Proofs.YtgbghjbihddpjaaW.PrintMore Go.Proofs.Ytgbghjbihddpjaa.Kit Go.Proofs.Ytgbghjbihddpjaa.Er Go.Proofs.Ytgbghjbihddpjaa.ConControlBounds

theorem loop (l : List S32) (T N : Int) (hT : T ≤ 7) (hN : 1 ≤ N) : ∀ (d i : Nat) (L C : Int) (S : Bool), i + d = 200 → 0 ≤ L → L ≤ T → 0 ≤ C → C ≤ i →
    Ev (fun k => geyserlaw21_ControlBounds.l0 k l T (i : Int) L T N C S) true := by
  have stop : ∀ (i : Nat) (L C : Int) (S : Bool), Ev (fun k => geyserlaw21_ControlBounds.j1 k l T (i : Int) false L T N C S) true := fun i L C S =>
    Ev.step (fun k => geyserlaw21_ControlBounds.j1.eq_2 l T (i : Int) false L T N C S k) (EvF (by decide) (Ev.bind awake_ev (Ev.now true)))
  intro d
  induction d with
  | zero =>
    intro i L C S hi h1 h2 h3 h4
    refine Ev.step (fun k => geyserlaw21_ControlBounds.l0.eq_2 l T (i : Int) L T N C S k) ?_
    by_cases c : (i : Int) < (l.length : Int)
    · refine EvT c ?_
      rw [decide_eq_false (by omega)]
      exact stop i L C S
    · exact EvF c (stop i L C S)
  | succ d ih =>
    intro i L C S hi h1 h2 h3 h4
    refine Ev.step (fun k => geyserlaw21_ControlBounds.l0.eq_2 l T (i : Int) L T N C S k) ?_
    by_cases c : (i : Int) < (l.length : Int)
    · refine EvT c ?_
      rw [decide_eq_true (by omega)]
      obtain ⟨z, hz, z1, z2⟩ := fit_ok (rd_T32 l (i : Int)).f3
      have hp := mark_props L T N C S (rd_T32 l (i : Int)).f0 (rd_T32 l (i : Int)).f1 (rd_T32 l (i : Int)).f2 z ⟨h1, by omega⟩ ⟨h3, by omega⟩ ⟨h2, hT⟩ hN
      have hm := mark_ev L T N C S (rd_T32 l (i : Int)).f0 (rd_T32 l (i : Int)).f1 (rd_T32 l (i : Int)).f2 z z1 z2
      generalize markP L T N C S (rd_T32 l (i : Int)).f0 (rd_T32 l (i : Int)).f1 (rd_T32 l (i : Int)).f2 z = m at hp hm
      obtain ⟨m1, m2, m3, m4⟩ := m
      dsimp only at hp hm
      refine Ev.step (fun k => geyserlaw21_ControlBounds.j1.eq_2 l T (i : Int) true L T N C S k) (EvT rfl (EvC rfl (EvT (by omega) (EvT c ?_))))
      unfold geyserlaw21_fit.f
      rw [hz]
      refine EvC rfl (Ev.bind hm (EvT rfl (EvF (by omega) (EvF (by omega) (EvC rfl (EvT ?_ (EvC rfl (EvF (show ¬ m2 < 0 by omega) (EvC rfl (EvF (show ¬ m2 > T by omega) ?_))))))))))
      · rw [w64 ⟨by omega, by omega⟩]; exact hp.1.1
      · rw [w64 (n := (i : Int) + 1) (by omega)]
        exact ih (i + 1) m2 m3 m4 (by omega) (by omega) (by omega) (by omega) (by omega)
    · exact EvF c (stop i L C S)
theorem ControlBounds (a b : Int) (l : List S32) : ∃ k, geyserlaw21_ControlBounds.f k a b l = some true := by
  obtain ⟨q, hq, q1, q2⟩ := utm a 8 (by omega) (by omega)
  obtain ⟨p, hp, p1, p2⟩ := utm b 5 (by omega) (by omega)
  refine Ev.rounds ?_
  unfold geyserlaw21_ControlBounds.f geyserlaw21_begin.f
  rw [hq, hp, w64 (n := 1 + p) (by omega)]
  exact EvC rfl (EvT rfl (loop l q (1 + p) (by omega) (by omega) 200 0 0 0 false (by omega) (by omega) (by omega) (by omega) (by omega)))
end Go.Proofs.Ytgbghjbihddpjaa.Pure
