/- ControlRises (P21.3): the level rises only at a sync point of its own level, behind as many ticks of a burst as it is long, in a row, of none of which anything was lost. Conditions: none. -/
import Derived.Test.YtgbghjbihddpjaaConControlRises
namespace Go.Proofs.Ytgbghjbihddpjaa.Pure
open Go.RowKit Go.Proofs.Ytgbghjbihddpjaa.QControlRises Go.Proofs.YtgbghjbihddpjaaW.PrintWords Go.Proofs.YtgbghjbihddpjaaW.PrintLast Go.Proofs.YtgbghjbihddpjaaW.PrintMore Go.Proofs.Ytgbghjbihddpjaa.Kit Go.Proofs.Ytgbghjbihddpjaa.Er Go.Proofs.Ytgbghjbihddpjaa.ConControlRises

theorem loop (l : List S32) (T N : Int) (hT : T ≤ 7) (hN : 1 ≤ N) : ∀ (d i : Nat) (cl L C : Int) (S : Bool), i + d = 200 → 0 ≤ L → L ≤ T → 0 ≤ C → C ≤ cl → cl ≤ i →
    Ev (fun k => geyserlaw21_ControlRises.l0 k l N cl (i : Int) L T N C S) true := by
  have stop : ∀ (i : Nat) (cl L C : Int) (S : Bool), Ev (fun k => geyserlaw21_ControlRises.j1 k l N cl (i : Int) false L T N C S) true := fun i cl L C S =>
    Ev.step (fun k => geyserlaw21_ControlRises.j1.eq_2 l N cl (i : Int) false L T N C S k) (EvF (by decide) (Ev.bind awake_ev (Ev.now true)))
  intro d
  induction d with
  | zero =>
    intro i cl L C S hi h1 h2 h3 h4 h5
    refine Ev.step (fun k => geyserlaw21_ControlRises.l0.eq_2 l N cl (i : Int) L T N C S k) ?_
    by_cases c : (i : Int) < (l.length : Int)
    · refine EvT c ?_
      rw [decide_eq_false (by omega)]
      exact stop i cl L C S
    · exact EvF c (stop i cl L C S)
  | succ d ih =>
    intro i cl L C S hi h1 h2 h3 h4 h5
    refine Ev.step (fun k => geyserlaw21_ControlRises.l0.eq_2 l N cl (i : Int) L T N C S k) ?_
    by_cases c : (i : Int) < (l.length : Int)
    · refine EvT c ?_
      rw [decide_eq_true (by omega)]
      refine Ev.step (fun k => geyserlaw21_ControlRises.j1.eq_2 l N cl (i : Int) true L T N C S k) (EvT rfl (EvT (by omega) (EvT c ?_)))
      generalize rd_T32 l (i : Int) = m
      obtain ⟨full, burst, lost, y⟩ := m
      obtain ⟨z, hz, z1, z2⟩ := fit_ok y
      have hp := mark_props L T N C S full burst lost z ⟨h1, by omega⟩ ⟨h3, by omega⟩ ⟨h2, hT⟩ hN
      have hm := mark_ev L T N C S full burst lost z z1 z2
      generalize markP L T N C S full burst lost z = m at hp hm
      obtain ⟨m1, m2, m3, m4⟩ := m
      dsimp only at hp hm ⊢
      unfold geyserlaw21_fit.f
      rw [hz]
      obtain ⟨⟨p1, p2, p3, p4, p5⟩, ⟨r1, r2, r3, r4⟩, _, p6⟩ := hp
      -- what follows a mark
      have fin : ∀ cl' : Int, 0 ≤ cl' → cl' ≤ cl + 1 → m3 ≤ cl' → (m1 > 0 → N ≤ cl') → Ev (fun k => geyserlaw21_ControlRises.j3 k l N cl' (i : Int) L L T N C S full burst lost z) true := by
        intro cl' g0 g1 g2 g3
        have j4 : Ev (fun k => geyserlaw21_ControlRises.j4 k l N cl' (i : Int) false m2 T N m3 m4 full burst lost z) true := by
          refine Ev.step (fun k => geyserlaw21_ControlRises.j4.eq_2 l N cl' (i : Int) false m2 T N m3 m4 full burst lost z k) (EvF (by decide) ?_)
          rw [w64 (n := (i : Int) + 1) (by omega)]
          by_cases c2 : z ≥ 0
          · exact EvT c2 (ih (i + 1) 0 m2 m3 m4 (by omega) (by omega) (by omega) (by omega) (by have := r3 c2; omega) (by omega))
          · exact EvF c2 (ih (i + 1) cl' m2 m3 m4 (by omega) (by omega) (by omega) (by omega) g2 (by omega))
        refine Ev.step (fun k => geyserlaw21_ControlRises.j3.eq_2 l N cl' (i : Int) L L T N C S full burst lost z k) (Ev.bind hm (EvT rfl ?_))
        by_cases c3 : m1 > 0
        · obtain ⟨q1, q2, _⟩ := p6 c3
          refine EvT c3 (EvF (by omega) (EvF (by have := g3 c3; omega) ?_))
          rw [q2] at j4 ⊢
          exact j4
        · exact EvF c3 j4
      have j2t : Ev (fun k => geyserlaw21_ControlRises.j2 k l N cl (i : Int) L (burst && full && !lost) L T N C S full burst lost z) true := by
        refine Ev.step (fun k => geyserlaw21_ControlRises.j2.eq_2 l N cl (i : Int) L (burst && full && !lost) L T N C S full burst lost z k) ?_
        cases burst with
        | true =>
          cases full with
          | true =>
            cases lost with
            | true =>
              refine EvF (by decide) (EvT rfl (fin 0 (by omega) (by omega) ?_ (fun h => absurd (p6 h).2.1 (by decide))))
              rcases r4 with ⟨_, _, _, h⟩ | h | ⟨_, h, _⟩
              · exact absurd h (by decide)
              · omega
              · exact absurd h (by decide)
            | false =>
              refine EvT rfl ?_
              rw [w64 (n := cl + 1) (by omega)]
              refine fin (cl + 1) (by omega) (by omega) (by omega) (fun h => ?_)
              rcases (p6 h).2.2 with h7 | h7
              · omega
              · exact absurd h7.1 (by decide)
          | false =>
            refine EvF (by simp) (EvT rfl (fin 0 (by omega) (by omega) ?_ (fun h => ?_)))
            · rcases r4 with ⟨_, _, h, _⟩ | h | ⟨_, h, _⟩
              · exact absurd h (by decide)
              · omega
              · exact absurd h (by decide)
            · rcases (p6 h).2.2 with h7 | h7
              · exact absurd h7.2.1 (by decide)
              · exact absurd h7.1 (by decide)
        | false =>
          refine EvF (by simp) (EvF (by decide) ?_)
          cases lost with
          | true =>
            refine EvT rfl (fin 0 (by omega) (by omega) ?_ (fun h => absurd (p6 h).2.1 (by decide)))
            rcases r4 with ⟨_, h, _⟩ | h | ⟨_, _, h⟩
            · exact absurd h (by decide)
            · omega
            · exact absurd h (by decide)
          | false =>
            refine EvF (by decide) (fin cl (by omega) (by omega) ?_ (fun h => ?_))
            · rcases r4 with ⟨_, h, _⟩ | h | ⟨h, _⟩
              · exact absurd h (by decide)
              · omega
              · omega
            · rcases (p6 h).2.2 with h7 | h7
              · exact absurd h7.1 (by decide)
              · omega
      refine EvC rfl (EvC rfl ?_)
      cases burst with
      | true =>
        cases full with
        | true => exact EvT rfl (EvT rfl j2t)
        | false => exact EvT rfl (EvF Bool.false_ne_true j2t)
      | false => exact EvF Bool.false_ne_true j2t
    · exact EvF c (stop i cl L C S)
theorem ControlRises (a b : Int) (l : List S32) : ∃ k, geyserlaw21_ControlRises.f k a b l = some true := by
  obtain ⟨q, hq, q1, q2⟩ := utm a 8 (by omega) (by omega)
  obtain ⟨p, hp, p1, p2⟩ := utm b 5 (by omega) (by omega)
  refine Ev.rounds ?_
  unfold geyserlaw21_ControlRises.f geyserlaw21_begin.f
  rw [hq, hp, w64 (n := 1 + p) (by omega)]
  exact EvC rfl (EvT rfl (loop l q (1 + p) (by omega) (by omega) 200 0 0 0 0 false (by omega) (by omega) (by omega) (by omega) (by omega) (by omega)))
end Go.Proofs.Ytgbghjbihddpjaa.Pure
