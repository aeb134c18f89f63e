/- WHAT THE CALENDAR'S FUNCTIONS ANSWER, read off their printed forms: bad, why, Burst, Sync, and the law's own awake, for CalendarRows. No memory in sight. -/
import Derived.Test.YtnhelpbchfeadaaDoorQCalendarRowsx2
import Derived.Test.YtnhelpbchfeadaaDoorKit
namespace Go.Proofs.YtnhelpbchfeadaaDoor.CalCalendarRows
open Go.RowKit Go.Proofs.YtnhelpbchfeadaaDoor.QCalendarRows Go.Proofs.YtnhelpbchfeadaaDoorW.PrintWords Go.Proofs.YtnhelpbchfeadaaDoorW.PrintLast Go.Proofs.YtnhelpbchfeadaaDoorW.PrintMore Go.Proofs.YtnhelpbchfeadaaDoor.Kit Go.Proofs.YtnhelpbchfeadaaDoor.Er

theorem bad_no {b t : Int} (h1 : 2 ≤ b) (h2 : b ≤ 4096) (h3 : 0 ≤ t) (h4 : t < 1099511627776) : calendar_bad.f b t = some false := by
  unfold calendar_bad.f
  rw [if_neg (by omega), if_neg (by omega), if_neg (by omega), if_neg (by omega)]
theorem pow_le7 (n : Nat) (h : n ≤ 7) : (2 : Int) ^ n ≤ 128 ∧ (1 : Int) ≤ 2 ^ n := by
  have : n = 0 ∨ n = 1 ∨ n = 2 ∨ n = 3 ∨ n = 4 ∨ n = 5 ∨ n = 6 ∨ n = 7 := by omega
  rcases this with rfl | rfl | rfl | rfl | rfl | rfl | rfl | rfl <;> decide
theorem shlB {b l : Int} (h1 : 2 ≤ b) (h2 : b ≤ 4096) (h3 : 0 ≤ l) (h4 : l ≤ 7) : shl .i64 b l = b * 2 ^ l.toNat ∧ 1 ≤ b * 2 ^ l.toNat ∧ b * 2 ^ l.toNat ≤ 524288 := by
  obtain ⟨p1, p2⟩ := pow_le7 l.toNat (by omega)
  generalize hp : (2 : Int) ^ l.toNat = p at *
  have e1 : b * p ≤ 4096 * 128 := Int.mul_le_mul h2 p1 (by omega) (by omega)
  have e2 : 1 * 1 ≤ b * p := Int.mul_le_mul (by omega) p2 (by omega) (by omega)
  refine ⟨?_, by omega, by omega⟩
  rw [shl64 (by omega) (by omega) (by rw [hp]; omega), hp]
/-- The loop of Sync from a level on. -/
theorem sync_l0 (b g t : Int) (hb1 : 2 ≤ b) (hb2 : b ≤ 4096) (hg1 : 1 ≤ g) (hg2 : g ≤ 8) (ht1 : 0 < t) (d : Nat) : ∀ x : Int, -1 ≤ x → x ≤ g - 1 → g - 1 - x = d →
    ∃ v, Ev (fun k => calendar_Sync.l0 k b g t x) (v, none) ∧ x ≤ v ∧ v ≤ g - 1 ∧ ((∀ j : Nat, (j : Int) ≤ g - 1 → t % (b * 2 ^ j) = 0) → v = g - 1) := by
  induction d with
  | zero =>
    intro x h1 h2 hd
    refine ⟨x, Ev.step (fun k => calendar_Sync.l0.eq_2 b g t x k) (EvT (by omega) (EvF ?_ (EvK rfl))), by omega, by omega, fun _ => by omega⟩
    rw [w64 (by omega)]; omega
  | succ d ih =>
    intro x h1 h2 hd
    obtain ⟨e, p1, p2⟩ := shlB (l := x + 1) hb1 hb2 (by omega) (by omega)
    have ew : wrap64 (x + 1) = x + 1 := w64 (by omega)
    have eg : wrap64 (g - 1) = g - 1 := w64 (by omega)
    by_cases hz : t % (b * 2 ^ (x + 1).toNat) = 0
    · obtain ⟨v, hv, h3, h4, h5⟩ := ih (x + 1) (by omega) (by omega) (by omega)
      refine ⟨v, Ev.step (fun k => calendar_Sync.l0.eq_2 b g t x k) ?_, by omega, h4, h5⟩
      rw [ew, eg, e]
      exact EvT ht1 (EvT (by omega) (EvT (by omega) (EvF (by omega) (EvT (by rw [tmod_pos (by omega)]; exact hz) hv))))
    · refine ⟨x, Ev.step (fun k => calendar_Sync.l0.eq_2 b g t x k) ?_, by omega, h2, fun h => ?_⟩
      · rw [ew, eg, e]
        exact EvT ht1 (EvT (by omega) (EvT (by omega) (EvF (by omega) (EvF (by rw [tmod_pos (by omega)]; exact hz) (EvK rfl)))))
      · exact absurd (h (x + 1).toNat (by omega)) hz
theorem sync_f {b g t : Int} {r : Int × Option Er} (hb1 : 2 ≤ b) (hb2 : b ≤ 4096) (hg1 : 1 ≤ g) (hg2 : g ≤ 8) (ht1 : 0 < t) (ht2 : t < 1099511627776) (h : Ev (fun k => calendar_Sync.l0 k b g t (-1)) r) :
    Ev (fun k => calendar_Sync.f k b g t) r := by
  unfold calendar_Sync.f
  refine EvC (bad_no hb1 hb2 (by omega) ht2) (EvF (by simp) (EvF (by omega) ?_))
  refine Ev.step (fun k => calendar_Sync.j0.eq_2 b g t _ k) (EvF ?_ h)
  rw [decide_eq_true_iff]; omega
theorem awake_ev : Ev (fun k => geyserlaw18_awake.f k) true := Ev.of geyserlaw18_awake.mono (k := 20) (by decide +kernel)
end Go.Proofs.YtnhelpbchfeadaaDoor.CalCalendarRows
