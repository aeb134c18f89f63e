/- ControlPlays (P21.1): any marks of any controller: by how much the level changes, and what is known behind it, as the reference says. Conditions: none. -/
import Derived.Test.YtgbghjbihddpjaaDoorConControlPlays
import Derived.Test.YtgbghjbihddpjaaDoorTells21
namespace Go.Proofs.YtgbghjbihddpjaaDoor.Pure
open Go.RowKit Go.Proofs.YtgbghjbihddpjaaDoor.QControlPlays Go.Proofs.YtgbghjbihddpjaaDoorW.PrintWords Go.Proofs.YtgbghjbihddpjaaDoorW.PrintLast Go.Proofs.YtgbghjbihddpjaaDoorW.PrintMore Go.Proofs.YtgbghjbihddpjaaDoor.Kit Go.Proofs.YtgbghjbihddpjaaDoor.Er Go.Proofs.YtgbghjbihddpjaaDoor.Tells Go.Proofs.YtgbghjbihddpjaaDoor.ConControlPlays

def markW : ByteArray := ⟨#[99, 111, 110, 116, 114, 111, 108, 46, 77, 97, 114, 107]⟩
def newW : ByteArray := ⟨#[99, 111, 110, 116, 114, 111, 108, 46, 78, 101, 119]⟩
theorem tells_ok (w : ByteArray) : tells.f none 0 w = some true := rfl
theorem tells_one : tells.f (some ([markW], 1)) 1 markW = some true := by decide +kernel
theorem mark_bad (L T N C : Int) (S full burst lost : Bool) (y : Int) (h : y < -1 ∨ y > 7) : Ev (fun k => control_Controller_Mark.f k L T N C S full burst lost y) (0, some ([markW], 1), L, T, N, C, S) := by
  unfold control_Controller_Mark.f
  by_cases c : y < -1
  · exact EvT c (Ev.step (fun k => control_Controller_Mark.j0.eq_2 true L T N C S full burst lost y k) (EvT rfl (EvC rfl (EvK rfl))))
  · refine EvF c ?_
    rw [decide_eq_true (by omega)]
    exact Ev.step (fun k => control_Controller_Mark.j0.eq_2 true L T N C S full burst lost y k) (EvT rfl (EvC rfl (EvK rfl)))
theorem ref_bad (L T N C : Int) (S full burst lost : Bool) (y : Int) (h : y < -1 ∨ y > 7) : Ev (fun k => geyserref21_Mark.f k L T N C S full burst lost y) (L, T, N, C, S, 0, 1) := by
  unfold geyserref21_Mark.f
  by_cases c : y < -1
  · exact EvT c (Ev.step (fun k => geyserref21_Mark.j0.eq_2 true L T N C S full burst lost y k) (EvT rfl (EvK rfl)))
  · refine EvF c ?_
    rw [decide_eq_true (by omega)]
    exact Ev.step (fun k => geyserref21_Mark.j0.eq_2 true L T N C S full burst lost y k) (EvT rfl (EvK rfl))
theorem j1_ev (b L T N C : Int) (S full burst lost : Bool) (y : Int) : Ev (fun k => geyserref21_Mark.j1 k b L T N C S full burst lost y)
    (if y ≥ 0 then (if b = 0 ∧ y ≥ L ∧ L < T ∧ C ≥ N then (wrap64 (L + 1), T, N, 0, false, 1, 0) else (wrap64 (L + b), T, N, 0, false, b, 0)) else (wrap64 (L + b), T, N, C, S, b, 0)) := by
  refine Ev.step (fun k => geyserref21_Mark.j1.eq_2 b L T N C S full burst lost y k) ?_
  by_cases c0 : y ≥ 0
  · refine EvT c0 ?_
    rw [if_pos c0]
    by_cases c1 : b = 0
    · refine EvT c1 ?_
      by_cases c2 : y ≥ L
      · refine EvT c2 ?_
        by_cases c3 : L < T
        · refine EvT c3 ?_
          by_cases c4 : C ≥ N
          · refine EvT c4 ?_
            rw [if_pos ⟨c1, c2, c3, c4⟩]; exact EvK rfl
          · refine EvF c4 ?_
            rw [if_neg (fun h => c4 h.2.2.2)]; exact EvK rfl
        · refine EvF c3 ?_
          rw [if_neg (fun h => c3 h.2.2.1)]; exact EvK rfl
      · refine EvF c2 ?_
        rw [if_neg (fun h => c2 h.2.1)]; exact EvK rfl
    · refine EvF c1 ?_
      rw [if_neg (fun h => c1 h.1)]; exact EvK rfl
  · refine EvF c0 ?_
    rw [if_neg c0]; exact EvK rfl
theorem burst_ev (L T N C : Int) (S full burst lost : Bool) (y : Int) : Ev (fun k => geyserref21_burst.f k L T N C S full burst lost y) (L, T, N, (if (full && !lost && !S) = true then wrap64 (C + 1) else 0), (if (full && !lost && !S) = true then S else true)) := by
  refine Ev.of (geyserref21_burst.mono L T N C S full burst lost y) (show geyserref21_burst.f 1 L T N C S full burst lost y = _ from ?_)
  unfold geyserref21_burst.f
  cases full <;> cases lost <;> cases S <;> simp [geyserref21_burst.j0]
theorem join (L T N y t1 t2 t3 : Int) (t4 : Bool) (h1 : wrap64 (L + t1) = t2) (h2 : t1 = 0 → t2 = L) (M : Int × Int × Int × Bool)
    (hM : M = if y < 0 then (t1, t2, t3, t4) else if t1 = 0 ∧ y ≥ t2 ∧ t2 < T ∧ t3 ≥ N then (1, wrap64 (t2 + 1), 0, false) else (t1, t2, 0, false)) :
    (if y ≥ 0 then (if t1 = 0 ∧ y ≥ L ∧ L < T ∧ t3 ≥ N then (wrap64 (L + 1), T, N, 0, false, 1, 0) else (wrap64 (L + t1), T, N, 0, false, t1, 0)) else (wrap64 (L + t1), T, N, t3, t4, t1, (0 : Int))) = (M.2.1, T, N, M.2.2.1, M.2.2.2, M.1, 0) := by
  subst hM
  rw [h1]
  by_cases c0 : y ≥ 0
  · rw [if_pos c0, if_neg (show ¬ y < 0 by omega)]
    by_cases c1 : t1 = 0
    · have e := h2 c1
      subst e
      by_cases c2 : t1 = 0 ∧ y ≥ t2 ∧ t2 < T ∧ t3 ≥ N
      · rw [if_pos c2, if_pos c2]
      · rw [if_neg c2, if_neg c2]
    · rw [if_neg (fun h => c1 h.1), if_neg (fun h => c1 h.1)]
  · rw [if_neg c0, if_pos (show y < 0 by omega)]
theorem ref_ok (L T N C : Int) (S full burst lost : Bool) (y : Int) (h1 : -1 ≤ y) (h2 : y ≤ 7) (hL : 0 ≤ L ∧ L ≤ 7) : Ev (fun k => geyserref21_Mark.f k L T N C S full burst lost y)
    ((markP L T N C S full burst lost y).2.1, T, N, (markP L T N C S full burst lost y).2.2.1, (markP L T N C S full burst lost y).2.2.2, (markP L T N C S full burst lost y).1, 0) := by
  have w0 : wrap64 (L + 0) = L := by rw [Int.add_zero]; exact w64 ⟨by omega, by omega⟩
  have wm : wrap64 (-L) = -L := w64 ⟨by omega, by omega⟩
  unfold geyserref21_Mark.f
  refine EvF (by omega) ?_
  rw [decide_eq_false (by omega)]
  refine Ev.step (fun k => geyserref21_Mark.j0.eq_2 false L T N C S full burst lost y k) (EvF (by decide) ?_)
  have done : ∀ (t1 t2 t3 : Int) (t4 : Bool), tickP L C S full burst lost = (t1, t2, t3, t4) → wrap64 (L + t1) = t2 → (t1 = 0 → t2 = L) → Ev (fun k => geyserref21_Mark.j1 k t1 L T N t3 t4 full burst lost y)
      ((markP L T N C S full burst lost y).2.1, T, N, (markP L T N C S full burst lost y).2.2.1, (markP L T N C S full burst lost y).2.2.2, (markP L T N C S full burst lost y).1, 0) := by
    intro t1 t2 t3 t4 e g1 g2
    have j := j1_ev t1 L T N t3 t4 full burst lost y
    rw [join L T N y t1 t2 t3 t4 g1 g2 (markP L T N C S full burst lost y) (by unfold markP; rw [e])] at j
    exact j
  cases burst with
  | true =>
    refine EvT rfl (Ev.bind (burst_ev L T N C S full true lost y) ?_)
    refine done 0 L _ _ ?_ w0 (fun _ => rfl)
    unfold tickP
    by_cases c : (full && !lost && !S) = true
    · simp only [Bool.true_and, c, if_true]
    · simp only [Bool.true_and, c, if_true]
      rfl
  | false =>
    refine EvF Bool.false_ne_true ?_
    cases lost with
    | true =>
      refine EvT rfl ?_
      by_cases c : L > 0
      · have hb : mx (-1) (wrap64 (-L)) = -1 := by rw [wm]; unfold mx; split <;> omega
        rw [hb]
        refine done (-1) (wrap64 (L - 1)) 0 S ?_ (by congr 1) (fun h => absurd h (by decide))
        unfold tickP
        simp [c]
      · have hb : mx (-1) (wrap64 (-L)) = 0 := by rw [wm]; unfold mx; split <;> omega
        rw [hb]
        refine done 0 L 0 S ?_ w0 (fun _ => rfl)
        unfold tickP
        simp [c]
    | false =>
      refine EvF Bool.false_ne_true ?_
      refine done 0 L C S ?_ w0 (fun _ => rfl)
      unfold tickP
      simp
theorem loop (l : List S36) (T N : Int) (hT : T ≤ 7) (hN : 1 ≤ N) : ∀ (d i : Nat) (L C : Int) (S : Bool), i + d = 200 → 0 ≤ L → L ≤ T → 0 ≤ C → C ≤ i →
    Ev (fun k => geyserlaw21_ControlPlays.l0 k l (i : Int) L T N C S L T N C S) true := by
  have stop : ∀ (i : Nat) (L C : Int) (S : Bool), Ev (fun k => geyserlaw21_ControlPlays.j2 k l (i : Int) false L T N C S L T N C S) true := fun i L C S =>
    Ev.step (fun k => geyserlaw21_ControlPlays.j2.eq_2 l (i : Int) false L T N C S L T N C S k) (EvF (by decide) (Ev.bind awake_ev (Ev.now true)))
  intro d
  induction d with
  | zero =>
    intro i L C S hi h1 h2 h3 h4
    refine Ev.step (fun k => geyserlaw21_ControlPlays.l0.eq_2 l (i : Int) L T N C S L T N C S k) ?_
    by_cases c : (i : Int) < (l.length : Int)
    · refine EvT c ?_
      rw [decide_eq_false (by omega)]
      exact stop i L C S
    · exact EvF c (stop i L C S)
  | succ d ih =>
    intro i L C S hi h1 h2 h3 h4
    refine Ev.step (fun k => geyserlaw21_ControlPlays.l0.eq_2 l (i : Int) L T N C S L T N C S k) ?_
    by_cases c : (i : Int) < (l.length : Int)
    · refine EvT c ?_
      rw [decide_eq_true (by omega)]
      refine Ev.step (fun k => geyserlaw21_ControlPlays.j2.eq_2 l (i : Int) true L T N C S L T N C S k) (EvT rfl (EvT (by omega) (EvT c ?_)))
      generalize rd_T36 l (i : Int) = m
      obtain ⟨full, burst, lost, y⟩ := m
      dsimp only
      by_cases cy : y < -1 ∨ y > 7
      · refine Ev.bind (ref_bad L T N C S full burst lost y cy) (Ev.bind (mark_bad L T N C S full burst lost y cy) (EvT rfl (EvC tells_one (EvT rfl (EvC rfl (EvT rfl (EvC rfl (EvT rfl ?_))))))))
        rw [w64 (n := (i : Int) + 1) (by omega)]
        exact ih (i + 1) L C S (by omega) h1 h2 h3 (by omega)
      · have hp := mark_props L T N C S full burst lost y ⟨h1, by omega⟩ ⟨h3, by omega⟩ ⟨h2, hT⟩ hN
        have hm := mark_ev L T N C S full burst lost y (by omega) (by omega)
        have hr := ref_ok L T N C S full burst lost y (by omega) (by omega) ⟨h1, by omega⟩
        generalize markP L T N C S full burst lost y = m at hp hm hr
        obtain ⟨m1, m2, m3, m4⟩ := m
        dsimp only at hp hm hr
        refine Ev.bind hr (Ev.bind hm (EvT rfl (EvC (tells_ok _) (EvT rfl (EvC rfl (EvT rfl (EvC rfl (EvT rfl ?_))))))))
        rw [w64 (n := (i : Int) + 1) (by omega)]
        exact ih (i + 1) m2 m3 m4 (by omega) (by omega) (by omega) (by omega) (by omega)
    · exact EvF c (stop i L C S)
theorem ControlPlays (t n : Int) (l : List S36) (h : 0 ≤ t ∧ t < 8 ∧ 1 ≤ n ∧ n ≤ 4095) : ∃ k, geyserlaw21_ControlPlays.f k t n l = some true := by
  refine Ev.rounds ?_
  unfold geyserlaw21_ControlPlays.f
  refine EvC (show control_New.f t n = some (0, t, n, 0, false, none) from if_pos h) (EvC (show geyserref21_Check.f t n = some 0 from ?_) (EvC (tells_ok _) (EvT rfl ?_)))
  · unfold geyserref21_Check.f
    rw [if_neg (by omega), if_neg (by omega), if_neg (by omega), if_neg (by omega)]
  · refine Ev.step (fun k => geyserlaw21_ControlPlays.j0.eq_2 t n l 0 _ 0 t n 0 false k) (EvF (by decide) (EvT rfl ?_))
    exact loop l t n (by omega) (by omega) 200 0 0 0 false (by omega) (by omega) (by omega) (by omega) (by omega)
end Go.Proofs.YtgbghjbihddpjaaDoor.Pure
