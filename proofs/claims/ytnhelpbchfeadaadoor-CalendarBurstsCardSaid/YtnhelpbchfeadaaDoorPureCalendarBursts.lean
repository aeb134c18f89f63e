/- CalendarBursts (P18.1): of any base, burst and tick, calendar.Burst and calendar.Check answer as the reference does, or ErrRange of the call just where the reference refuses. Conditions: none. -/
import Derived.Test.YtnhelpbchfeadaaDoorCalDCalendarBursts
namespace Go.Proofs.YtnhelpbchfeadaaDoor.Pure
open Go.RowKit Go.Proofs.YtnhelpbchfeadaaDoor.QCalendarBursts Go.Proofs.YtnhelpbchfeadaaDoorW.PrintWords Go.Proofs.YtnhelpbchfeadaaDoorW.PrintLast Go.Proofs.YtnhelpbchfeadaaDoorW.PrintMore Go.Proofs.YtnhelpbchfeadaaDoor.Kit Go.Proofs.YtnhelpbchfeadaaDoor.Er Go.Proofs.YtnhelpbchfeadaaDoor.CalCalendarBursts

theorem why_ok {b c t : Int} (h : Ok b c t) : calendar_why.f b c t = some 0 := by
  obtain ⟨h1, h2, h3, h4, h5, h6⟩ := h
  unfold calendar_why.f
  refine bindE (bad_no h1 h2 h5 h6) ?_
  rw [if_neg (by simp), if_neg (by omega), if_neg (by omega)]
theorem why_bad {b c t : Int} (h : ¬ Ok b c t) : calendar_why.f b c t = some 1 := by
  unfold calendar_why.f
  by_cases h0 : 2 ≤ b ∧ b ≤ 4096 ∧ 0 ≤ t ∧ t < 1099511627776
  · refine bindE (bad_no h0.1 h0.2.1 h0.2.2.1 h0.2.2.2) ?_
    rw [if_neg (by simp)]
    by_cases h1 : c < 1
    · rw [if_pos h1]
    · rw [if_neg h1, if_pos]
      apply Int.not_lt.1
      intro h6
      exact h ⟨h0.1, h0.2.1, by omega, h6, h0.2.2⟩
  · refine bindE (bad_yes h0) ?_
    rw [if_pos rfl]
def burstW : ByteArray := ⟨#[99, 97, 108, 101, 110, 100, 97, 114, 46, 66, 117, 114, 115, 116]⟩
def checkW : ByteArray := ⟨#[99, 97, 108, 101, 110, 100, 97, 114, 46, 67, 104, 101, 99, 107]⟩
theorem burst_ok {b c t : Int} (h : Ok b c t) : calendar_Burst.f b c t = some (decide (Int.tmod t b ≥ wrap64 (b - c)), none) := by
  unfold calendar_Burst.f
  refine bindE (why_ok h) ?_
  rw [if_pos rfl, if_neg (by have := h.1; omega)]
theorem burst_bad {b c t : Int} (h : ¬ Ok b c t) : calendar_Burst.f b c t = some (false, some ([burstW], 1)) := by
  unfold calendar_Burst.f
  refine bindE (why_bad h) ?_
  rw [if_neg (by decide)]
  exact bindE rfl rfl
theorem check_tells (b c : Int) : ∃ e n, calendar_Check.f b c = some e ∧ geyserref18_Check.f b c 0 = some n ∧ Tells.tells.f e n checkW = some true := by
  by_cases h : Ok b c 0
  · exact ⟨none, 0, bindE (why_ok h) (bindE rfl rfl), chk_ok h, tells_ok _⟩
  · exact ⟨some ([checkW], 1), 1, bindE (why_bad h) (bindE rfl rfl), chk_bad h, tells_one _⟩
theorem CalendarBursts : geyserlaw18_CalendarBursts.Pure := by
  intro b c t _ _ _
  refine Ev.rounds ?_
  unfold geyserlaw18_CalendarBursts.f
  obtain ⟨e, n, he, hn, ht⟩ := check_tells b c
  by_cases h : Ok b c t
  · refine EvC (burst_ok h) (EvC (chk_ok h) (EvC (tells_ok _) (EvT rfl (EvC he (EvC hn (EvC ht ?_))))))
    refine Ev.step (fun k => geyserlaw18_CalendarBursts.j0.eq_2 b c t _ 0 _ k) (EvF (by decide) (EvT rfl (EvC (a := decide (Int.tmod t b ≥ wrap64 (b - c))) ?_ (EvT (by simp) (Ev.bind awake_ev (Ev.now true))))))
    unfold geyserref18_Burst.f
    rw [if_neg (by have := h.1; omega)]
  · refine EvC (burst_bad h) (EvC (chk_bad h) (EvC (tells_one _) (EvT rfl (EvC he (EvC hn (EvC ht ?_))))))
    exact Ev.step (fun k => geyserlaw18_CalendarBursts.j0.eq_2 b c t _ 1 _ k) (EvF (by decide) (EvF (by decide) (EvF (by decide) (Ev.bind awake_ev (Ev.now true)))))
end Go.Proofs.YtnhelpbchfeadaaDoor.Pure
