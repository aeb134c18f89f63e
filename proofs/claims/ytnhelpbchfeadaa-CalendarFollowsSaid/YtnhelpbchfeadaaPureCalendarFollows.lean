/- CalendarFollows (P18.2): of any base, burst and tick, a tick's steps follow those of the tick ahead, also where they begin anew. Conditions: none. -/
import Derived.Test.YtnhelpbchfeadaaQCalendarFollowsx2
import Derived.Test.YtnhelpbchfeadaaKit
namespace Go.Proofs.Ytnhelpbchfeadaa.Pure
open Go.RowKit Go.Proofs.Ytnhelpbchfeadaa.QCalendarFollows Go.Proofs.YtnhelpbchfeadaaW.PrintWords Go.Proofs.YtnhelpbchfeadaaW.PrintLast Go.Proofs.YtnhelpbchfeadaaW.PrintMore Go.Proofs.Ytnhelpbchfeadaa.Kit Go.Proofs.Ytnhelpbchfeadaa.Er

theorem awake_ev : Ev (fun k => geyserlaw18_awake.f k) true := Ev.of geyserlaw18_awake.mono (k := 20) (by decide +kernel)
theorem bad_no {b t : Int} (h1 : 2 ≤ b) (h2 : b ≤ 4096) (h3 : 0 ≤ t) (h4 : t < 1099511627776) : calendar_bad.f b t = some false := by
  unfold calendar_bad.f
  rw [if_neg (by omega), if_neg (by omega), if_neg (by omega), if_neg (by omega)]
def Ok (b c t : Int) : Prop := 2 ≤ b ∧ b ≤ 4096 ∧ 1 ≤ c ∧ c < b ∧ 0 ≤ t ∧ t < 1099511627776
theorem bad_yes {b t : Int} (h : ¬ (2 ≤ b ∧ b ≤ 4096 ∧ 0 ≤ t ∧ t < 1099511627776)) : calendar_bad.f b t = some true := by
  unfold calendar_bad.f
  by_cases h1 : b < 2
  · rw [if_pos h1]
  by_cases h2 : b > 4096
  · rw [if_neg h1, if_pos h2]
  by_cases h3 : t < 0
  · rw [if_neg h1, if_neg h2, if_pos h3]
  rw [if_neg h1, if_neg h2, if_neg h3, if_pos (by omega)]
theorem why_ok {b c t : Int} (h : Ok b c t) : calendar_why.f b c t = some 0 := by
  obtain ⟨h1, h2, h3, h4, h5, h6⟩ := h
  unfold calendar_why.f
  refine bindE (bad_no h1 h2 h5 h6) ?_
  rw [if_neg (by simp), if_neg (by omega), if_neg (by omega)]
theorem why_bad {b c t : Int} (h : ¬ Ok b c t) : calendar_why.f b c t = some 1 := by
  unfold calendar_why.f
  by_cases h0 : 2 ≤ b ∧ b ≤ 4096 ∧ 0 ≤ t ∧ t < 1099511627776
  · refine bindE (bad_no h0.1 h0.2.1 h0.2.2.1 h0.2.2.2) ?_
    rw [if_neg (by simp)]
    by_cases h1 : c < 1
    · rw [if_pos h1]
    · rw [if_neg h1, if_pos]
      apply Int.not_lt.1
      intro h6
      exact h ⟨h0.1, h0.2.1, by omega, h6, h0.2.2⟩
  · refine bindE (bad_yes h0) ?_
    rw [if_pos rfl]
def stepsW : ByteArray := ⟨#[99, 97, 108, 101, 110, 100, 97, 114, 46, 83, 116, 101, 112, 115]⟩
def rowW : ByteArray := ⟨#[99, 97, 108, 101, 110, 100, 97, 114, 46, 82, 111, 119]⟩
/-- How many steps there were ahead of i ticks of a round, beside one a tick. -/
def more (b c i : Int) : Int := if 0 < i - (b - c) then i - (b - c) else 0
theorem bounds {b c t : Int} (h : Ok b c t) : 0 ≤ t / b ∧ 0 ≤ t % b ∧ t % b < b ∧ b * (t / b) + t % b = t ∧ 0 ≤ t / b * c ∧ t / b * c ≤ 5000000000000000 ∧ t / b ≤ t ∧ t / b * (b + c) = b * (t / b) + t / b * c := by
  obtain ⟨h1, h2, h3, h4, h5, h6⟩ := h
  have a1 := Int.mul_ediv_add_emod t b
  have a2 := Int.emod_nonneg t (b := b) (by omega)
  have a3 := Int.emod_lt_of_pos t (b := b) (by omega)
  have a4 : 0 ≤ t / b := Int.ediv_nonneg h5 (by omega)
  have a5 : t / b ≤ t := Int.ediv_le_self _ h5
  have a6 : t / b * c ≤ 1099511627776 * 4096 := Int.mul_le_mul (by omega) (by omega) (by omega) (by omega)
  have a7 : 0 ≤ t / b * c := Int.mul_nonneg a4 (by omega)
  exact ⟨a4, a2, a3, a1, a7, by omega, a5, by rw [Int.mul_add, Int.mul_comm (t / b) b]⟩
def steps (b c t : Int) : Int := t + t / b * c + more b c (t % b)
theorem steps_lt {b c t : Int} (h : Ok b c t) : 0 ≤ steps b c t ∧ steps b c t ≤ 6000000000000000 := by
  obtain ⟨a1, a2, a3, a4, a5, a6, a7, _⟩ := bounds h
  obtain ⟨h1, h2, h3, h4, h5, h6⟩ := h
  unfold steps more
  split <;> omega
theorem steps_ok {b c t : Int} (h : Ok b c t) : calendar_Steps.f b c t = some (steps b c t, none) := by
  obtain ⟨a1, a2, a3, a4, a5, a6, a7, _⟩ := bounds h
  have a8 := steps_lt h
  unfold calendar_Steps.f
  refine bindE (why_ok h) ?_
  have h' := h
  obtain ⟨h1, h2, h3, h4, h5, h6⟩ := h'
  rw [if_pos rfl, if_neg (by omega), tdiv_pos h5, tmod_pos h5, w64 (n := t / b) (by omega), w64 (n := b - c) (by omega), w64 (n := t % b - (b - c)) (by omega), w64 (n := t / b * c) (by omega), w64 (n := t + t / b * c) (by omega)]
  have e : mx 0 (t % b - (b - c)) = more b c (t % b) := rfl
  rw [e]
  show some (wrap64 (steps b c t), none) = _
  rw [w64 (by omega)]
theorem steps_bad {b c t : Int} (h : ¬ Ok b c t) : calendar_Steps.f b c t = some (0, some ([stepsW], 1)) := by
  unfold calendar_Steps.f
  refine bindE (why_bad h) ?_
  rw [if_neg (by decide)]
  exact bindE rfl rfl
def rowL (b c t : Int) : List Int := if t % b ≥ b - c then [steps b c t % 4294967296, (steps b c t + 1) % 4294967296] else [steps b c t % 4294967296]
theorem row_ok {b c t : Int} (h : Ok b c t) : calendar_Row.f b c t = some (rowL b c t, none) := by
  have h' := h
  obtain ⟨h1, h2, h3, h4, h5, h6⟩ := h'
  unfold calendar_Row.f
  refine bindE (steps_ok h) ?_
  refine (if_pos (show (none : Option Er).isNone = true from rfl)).trans ?_
  refine bindE rfl ?_
  rw [if_neg (by omega), tmod_pos h5, w64 (n := b - c) (by omega)]
  unfold rowL
  by_cases hb : t % b ≥ b - c
  · rw [if_pos hb, if_pos hb, if_pos (by simp)]; rfl
  · rw [if_neg hb, if_neg hb]
theorem row_bad {b c t : Int} (h : ¬ Ok b c t) : calendar_Row.f b c t = some ([], some ([rowW, stepsW], 1)) := by
  unfold calendar_Row.f
  refine bindE (steps_bad h) ?_
  rw [if_neg (by decide)]
  exact bindE rfl rfl
theorem steps_next {b c t : Int} (h : Ok b c t) : steps b c (t + 1) = steps b c t + (if t % b ≥ b - c then 2 else 1) := by
  obtain ⟨a1, a2, a3, a4, a5, a6, a7, a8⟩ := bounds h
  obtain ⟨h1, h2, h3, h4, h5, h6⟩ := h
  by_cases hr : t % b + 1 < b
  · obtain ⟨e1, e2⟩ : (t + 1) / b = t / b ∧ (t + 1) % b = t % b + 1 := (Int.ediv_emod_unique (by omega)).2 ⟨by omega, by omega, hr⟩
    unfold steps more
    rw [e1, e2]
    split <;> split <;> split <;> omega
  · obtain ⟨e1, e2⟩ : (t + 1) / b = t / b + 1 ∧ (t + 1) % b = 0 := (Int.ediv_emod_unique (by omega)).2 ⟨by rw [Int.mul_add]; omega, by omega, by omega⟩
    unfold steps more
    rw [e1, e2, Int.add_mul, Int.one_mul]
    split <;> split <;> split <;> omega
theorem rowL_head (b c t : Int) : rd (rowL b c t) 0 = steps b c t % 4294967296 ∧ 0 < ((rowL b c t).length : Int) := by
  unfold rowL
  split <;> exact ⟨rfl, by simp⟩
theorem j_true (b c t : Int) (l : List Int) : Ev (fun k => geyserlaw18_CalendarFollows.j0 k b c t l true) true :=
  Ev.step (fun k => geyserlaw18_CalendarFollows.j0.eq_2 b c t l true k) (EvT rfl (Ev.bind awake_ev (Ev.now true)))
theorem CalendarFollows : geyserlaw18_CalendarFollows.Pure := by
  intro b c t _ _ _
  refine Ev.rounds ?_
  unfold geyserlaw18_CalendarFollows.f
  by_cases h : Ok b c t
  · refine EvC (row_ok h) (EvT rfl ?_)
    by_cases ht : t ≥ 1099511627775
    · rw [decide_eq_true ht]
      exact j_true b c t _
    · rw [decide_eq_false ht]
      have h' : Ok b c (t + 1) := ⟨h.1, h.2.1, h.2.2.1, h.2.2.2.1, by have := h.2.2.2.2.1; omega, by omega⟩
      have hs := steps_next h
      have hl := steps_lt h
      obtain ⟨g1, g2⟩ := rowL_head b c (t + 1)
      refine Ev.step (fun k => geyserlaw18_CalendarFollows.j0.eq_2 b c t (rowL b c t) false k) (EvF (by decide) ?_)
      rw [w64 (n := t + 1) (by have := h.2.2.2.2; omega)]
      refine EvC (row_ok h') (EvT rfl ?_)
      dsimp only
      by_cases hb : t % b ≥ b - c
      · rw [if_pos hb] at hs
        have e : rowL b c t = [steps b c t % 4294967296, (steps b c t + 1) % 4294967296] := if_pos hb
        rw [e]
        have el : (([steps b c t % 4294967296, (steps b c t + 1) % 4294967296] : List Int).length : Int) = 2 := rfl
        rw [el, show wrap64 ((2 : Int) - 1) = 1 by decide +kernel]
        refine EvT (by decide) (EvT g2 (EvT (by decide) (EvT (by decide) (EvT g2 (EvT ?_ (EvF (by decide) (EvT rfl (EvT (by decide) (EvT (by decide) (EvT ?_ (Ev.bind awake_ev (Ev.now true))))))))))))
        · rw [g1, hs]
          show ((steps b c t + 1) % 4294967296 + 1) % 4294967296 = _
          omega
        · show ((steps b c t % 4294967296) + 1) % 4294967296 = (steps b c t + 1) % 4294967296
          omega
      · rw [if_neg hb] at hs
        have e : rowL b c t = [steps b c t % 4294967296] := if_neg hb
        rw [e]
        have el : (([steps b c t % 4294967296] : List Int).length : Int) = 1 := rfl
        rw [el, show wrap64 ((1 : Int) - 1) = 0 by decide +kernel]
        refine EvT (by decide) (EvT g2 (EvT (by decide) (EvT (by decide) (EvT g2 (EvT ?_ (EvT rfl (Ev.bind awake_ev (Ev.now true))))))))
        rw [g1, hs]
        show ((steps b c t % 4294967296) + 1) % 4294967296 = _
        omega
  · exact EvC (row_bad h) (EvF (by decide) (j_true b c t _))
end Go.Proofs.Ytnhelpbchfeadaa.Pure
