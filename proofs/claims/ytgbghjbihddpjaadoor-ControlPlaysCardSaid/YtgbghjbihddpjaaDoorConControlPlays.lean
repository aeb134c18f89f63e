/- What control's functions answer, for ControlPlays: a mark's effect on a controller. No memory in sight. -/
import Derived.Test.YtgbghjbihddpjaaDoorQControlPlaysx
import Derived.Test.YtgbghjbihddpjaaDoorKit
import Derived.Test.YtgbghjbihddpjaaDoorFor
namespace Go.Proofs.YtgbghjbihddpjaaDoor.ConControlPlays
open Go.RowKit Go.Proofs.YtgbghjbihddpjaaDoor.QControlPlays Go.Proofs.YtgbghjbihddpjaaDoorW.PrintWords Go.Proofs.YtgbghjbihddpjaaDoorW.PrintLast Go.Proofs.YtgbghjbihddpjaaDoorW.PrintMore Go.Proofs.YtgbghjbihddpjaaDoor.Kit Go.Proofs.YtgbghjbihddpjaaDoor.Er

set_option maxRecDepth 100000 in
theorem awake_ev : Ev (fun k => geyserlaw21_awake.f k) true := Ev.of geyserlaw21_awake.mono (show geyserlaw21_awake.f 40 = some true by decide +kernel)
/-- By how much the level changes; the level, what was clean, whether it is spoilt. -/
def tickP (L C : Int) (S full burst lost : Bool) : Int × Int × Int × Bool :=
  if (burst && full && !lost && !S) = true then (0, L, wrap64 (C + 1), S) else if burst = true then (0, L, 0, true) else if lost = true then (if L > 0 then (-1, wrap64 (L - 1), 0, S) else (0, L, 0, S)) else (0, L, C, S)
theorem tick1 (L T N C : Int) (S full burst lost : Bool) (y : Int) : control_Controller_tick.f 1 L T N C S full burst lost y =
    some ((tickP L C S full burst lost).1, (tickP L C S full burst lost).2.1, T, N, (tickP L C S full burst lost).2.2.1, (tickP L C S full burst lost).2.2.2) := by
  unfold control_Controller_tick.f tickP
  cases burst <;> cases full <;> cases lost <;> cases S <;> simp [control_Controller_tick.j0] <;> by_cases h : 0 < L <;> simp [h]
def markP (L T N C : Int) (S full burst lost : Bool) (y : Int) : Int × Int × Int × Bool :=
  if y < 0 then tickP L C S full burst lost
  else if (tickP L C S full burst lost).1 = 0 ∧ y ≥ (tickP L C S full burst lost).2.1 ∧ (tickP L C S full burst lost).2.1 < T ∧ (tickP L C S full burst lost).2.2.1 ≥ N then (1, wrap64 ((tickP L C S full burst lost).2.1 + 1), 0, false)
  else ((tickP L C S full burst lost).1, (tickP L C S full burst lost).2.1, 0, false)
theorem mark2 (L T N C : Int) (S full burst lost : Bool) (y : Int) (h1 : -1 ≤ y) (h2 : y ≤ 7) : control_Controller_Mark.f 2 L T N C S full burst lost y =
    some ((markP L T N C S full burst lost y).1, none, (markP L T N C S full burst lost y).2.1, T, N, (markP L T N C S full burst lost y).2.2.1, (markP L T N C S full burst lost y).2.2.2) := by
  unfold control_Controller_Mark.f
  rw [if_neg (by omega), decide_eq_false (by omega), control_Controller_Mark.j0, if_neg (by decide), tick1, Option.bind_some]
  unfold markP
  generalize tickP L C S full burst lost = t
  obtain ⟨t1, t2, t3, t4⟩ := t
  dsimp only
  by_cases c0 : y < 0
  · rw [if_pos c0, if_pos c0]
  rw [if_neg c0, if_neg c0]
  by_cases c1 : t1 = 0
  · rw [if_pos c1]
    by_cases c2 : y ≥ t2
    · rw [if_pos c2]
      by_cases c3 : t2 < T
      · rw [if_pos c3]
        by_cases c4 : t3 ≥ N
        · rw [if_pos c4, if_pos ⟨c1, c2, c3, c4⟩]
        · rw [if_neg c4, if_neg (fun h => c4 h.2.2.2)]
      · rw [if_neg c3, if_neg (fun h => c3 h.2.2.1)]
    · rw [if_neg c2, if_neg (fun h => c2 h.2.1)]
  · rw [if_neg c1, if_neg (fun h => c1 h.1)]
theorem mark_ev (L T N C : Int) (S full burst lost : Bool) (y : Int) (h1 : -1 ≤ y) (h2 : y ≤ 7) : Ev (fun k => control_Controller_Mark.f k L T N C S full burst lost y)
    ((markP L T N C S full burst lost y).1, none, (markP L T N C S full burst lost y).2.1, T, N, (markP L T N C S full burst lost y).2.2.1, (markP L T N C S full burst lost y).2.2.2) :=
  Ev.of (control_Controller_Mark.mono L T N C S full burst lost y) (mark2 L T N C S full burst lost y h1 h2)
/-- What a tick says, in one sentence. -/
theorem tick_props (L C : Int) (S full burst lost : Bool) (hL : 0 ≤ L ∧ L ≤ 7) (hC : 0 ≤ C ∧ C ≤ 1000) :
    ((tickP L C S full burst lost).1 = 0 ∧ (tickP L C S full burst lost).2.1 = L ∧ (burst = true ∨ lost = false ∨ L = 0) ∨ (tickP L C S full burst lost).1 = -1 ∧ (tickP L C S full burst lost).2.1 = L - 1 ∧ 0 < L ∧ burst = false ∧ lost = true) ∧
    ((tickP L C S full burst lost).2.2.1 = C + 1 ∧ burst = true ∧ full = true ∧ lost = false ∨ (tickP L C S full burst lost).2.2.1 = 0 ∨ (tickP L C S full burst lost).2.2.1 = C ∧ burst = false ∧ lost = false) := by
  have h1 : wrap64 (C + 1) = C + 1 := w64 ⟨by omega, by omega⟩
  have h2 : wrap64 (L - 1) = L - 1 := w64 ⟨by omega, by omega⟩
  unfold tickP
  by_cases c : 0 < L
  · cases burst <;> cases full <;> cases lost <;> cases S <;> simp [h1, h2, c] <;> omega
  · obtain rfl : L = 0 := by omega
    cases burst <;> cases full <;> cases lost <;> cases S <;> simp [h1]
theorem mark_props (L T N C : Int) (S full burst lost : Bool) (y : Int) (hL : 0 ≤ L ∧ L ≤ 7) (hC : 0 ≤ C ∧ C ≤ 1000) (hT : L ≤ T ∧ T ≤ 7) (hN : 1 ≤ N) :
    ((markP L T N C S full burst lost y).2.1 = L + (markP L T N C S full burst lost y).1 ∧ 0 ≤ (markP L T N C S full burst lost y).2.1 ∧ (markP L T N C S full burst lost y).2.1 ≤ T ∧ -1 ≤ (markP L T N C S full burst lost y).1 ∧ (markP L T N C S full burst lost y).1 ≤ 1) ∧
    (0 ≤ (markP L T N C S full burst lost y).2.2.1 ∧ (markP L T N C S full burst lost y).2.2.1 ≤ C + 1 ∧ (0 ≤ y → (markP L T N C S full burst lost y).2.2.1 = 0) ∧
      ((markP L T N C S full burst lost y).2.2.1 = C + 1 ∧ burst = true ∧ full = true ∧ lost = false ∨ (markP L T N C S full burst lost y).2.2.1 = 0 ∨ (markP L T N C S full burst lost y).2.2.1 = C ∧ burst = false ∧ lost = false)) ∧
    ((markP L T N C S full burst lost y).1 < 0 ↔ burst = false ∧ lost = true ∧ 0 < L) ∧
    ((markP L T N C S full burst lost y).1 > 0 → L ≤ y ∧ lost = false ∧ ((burst = true ∧ full = true ∧ lost = false ∧ N ≤ C + 1) ∨ (burst = false ∧ lost = false ∧ N ≤ C))) := by
  have ht := tick_props L C S full burst lost hL hC
  unfold markP
  generalize tickP L C S full burst lost = t at *
  obtain ⟨t1, t2, t3, t4⟩ := t
  dsimp only at *
  obtain ⟨ha, hb⟩ := ht
  have hw : -8 ≤ t2 ∧ t2 ≤ 8 → wrap64 (t2 + 1) = t2 + 1 := fun h => w64 ⟨by omega, by omega⟩
  by_cases c0 : y < 0
  · rw [if_pos c0]
    dsimp only
    rcases ha with ⟨h1, h2, h3⟩ | ⟨h1, h2, h3, h4, h5⟩
    · refine ⟨⟨by omega, by omega, by omega, by omega, by omega⟩, ⟨by omega, by omega, by omega, hb⟩, ⟨by omega, fun h => ?_⟩, by omega⟩
      rcases h3 with h3 | h3 | h3
      · rw [h3] at h; exact absurd h.1 (by decide)
      · rw [h3] at h; exact absurd h.2.1 (by decide)
      · omega
    · exact ⟨⟨by omega, by omega, by omega, by omega, by omega⟩, ⟨by omega, by omega, by omega, hb⟩, ⟨fun _ => ⟨h4, h5, h3⟩, by omega⟩, by omega⟩
  rw [if_neg c0]
  by_cases c1 : t1 = 0 ∧ y ≥ t2 ∧ t2 < T ∧ t3 ≥ N
  · rw [if_pos c1]
    dsimp only
    obtain ⟨d1, d2, d3, d4⟩ := c1
    rcases ha with ⟨h1, h2, h3⟩ | ⟨h1, _⟩
    · rw [hw (by omega)]
      refine ⟨⟨by omega, by omega, by omega, by omega, by omega⟩, ⟨by omega, by omega, fun _ => rfl, .inr (.inl rfl)⟩, ⟨by omega, fun h => ?_⟩, fun _ => ?_⟩
      · rcases h3 with h3 | h3 | h3
        · rw [h3] at h; exact absurd h.1 (by decide)
        · rw [h3] at h; exact absurd h.2.1 (by decide)
        · omega
      · rcases hb with ⟨e1, e2, e3, e4⟩ | e1 | ⟨e1, e2, e3⟩
        · exact ⟨by omega, e4, .inl ⟨e2, e3, e4, by omega⟩⟩
        · omega
        · exact ⟨by omega, e3, .inr ⟨e2, e3, by omega⟩⟩
    · omega
  · rw [if_neg c1]
    dsimp only
    rcases ha with ⟨h1, h2, h3⟩ | ⟨h1, h2, h3, h4, h5⟩
    · refine ⟨⟨by omega, by omega, by omega, by omega, by omega⟩, ⟨by omega, by omega, fun _ => rfl, .inr (.inl rfl)⟩, ⟨by omega, fun h => ?_⟩, by omega⟩
      rcases h3 with h3 | h3 | h3
      · rw [h3] at h; exact absurd h.1 (by decide)
      · rw [h3] at h; exact absurd h.2.1 (by decide)
      · omega
    · exact ⟨⟨by omega, by omega, by omega, by omega, by omega⟩, ⟨by omega, by omega, fun _ => rfl, .inr (.inl rfl)⟩, ⟨fun _ => ⟨h4, h5, h3⟩, by omega⟩, by omega⟩
theorem fit_ok (y : Int) : ∃ z : Int, wrap64 ((wrap64 (Int.tmod (IntKind.u64.wrap y) 9)) - 1) = z ∧ -1 ≤ z ∧ z ≤ 7 := by
  obtain ⟨q, hq, q1, q2⟩ := utm y 9 (by omega) (by omega)
  exact ⟨q - 1, by rw [hq]; exact w64 ⟨by omega, by omega⟩, by omega, by omega⟩
end Go.Proofs.YtgbghjbihddpjaaDoor.ConControlPlays
