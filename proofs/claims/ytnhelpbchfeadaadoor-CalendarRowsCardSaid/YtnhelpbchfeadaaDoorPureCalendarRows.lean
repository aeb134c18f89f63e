/- CalendarRows (P18.2): of any base, burst and tick, calendar.Steps and calendar.Row tell as the reference does how many steps there were ahead of the tick, and its own, or ErrRange of the call just where the reference refuses. Conditions: none. -/
import Derived.Test.YtnhelpbchfeadaaDoorCalDCalendarRows
namespace Go.Proofs.YtnhelpbchfeadaaDoor.Pure
open Go.RowKit Go.Proofs.YtnhelpbchfeadaaDoor.QCalendarRows Go.Proofs.YtnhelpbchfeadaaDoorW.PrintWords Go.Proofs.YtnhelpbchfeadaaDoorW.PrintLast Go.Proofs.YtnhelpbchfeadaaDoorW.PrintMore Go.Proofs.YtnhelpbchfeadaaDoor.Kit Go.Proofs.YtnhelpbchfeadaaDoor.Er Go.Proofs.YtnhelpbchfeadaaDoor.CalCalendarRows

theorem why_ok {b c t : Int} (h : Ok b c t) : calendar_why.f b c t = some 0 := by
  obtain ⟨h1, h2, h3, h4, h5, h6⟩ := h
  unfold calendar_why.f
  refine bindE (bad_no h1 h2 h5 h6) ?_
  rw [if_neg (by simp), if_neg (by omega), if_neg (by omega)]
theorem why_bad {b c t : Int} (h : ¬ Ok b c t) : calendar_why.f b c t = some 1 := by
  unfold calendar_why.f
  by_cases h0 : 2 ≤ b ∧ b ≤ 4096 ∧ 0 ≤ t ∧ t < 1099511627776
  · refine bindE (bad_no h0.1 h0.2.1 h0.2.2.1 h0.2.2.2) ?_
    rw [if_neg (by simp)]
    by_cases h1 : c < 1
    · rw [if_pos h1]
    · rw [if_neg h1, if_pos]
      apply Int.not_lt.1
      intro h6
      exact h ⟨h0.1, h0.2.1, by omega, h6, h0.2.2⟩
  · refine bindE (bad_yes h0) ?_
    rw [if_pos rfl]
def stepsW : ByteArray := ⟨#[99, 97, 108, 101, 110, 100, 97, 114, 46, 83, 116, 101, 112, 115]⟩
def rowW : ByteArray := ⟨#[99, 97, 108, 101, 110, 100, 97, 114, 46, 82, 111, 119]⟩
/-- How many steps there were ahead of i ticks of a round, beside one a tick. -/
def more (b c i : Int) : Int := if 0 < i - (b - c) then i - (b - c) else 0
theorem bounds {b c t : Int} (h : Ok b c t) : 0 ≤ t / b ∧ 0 ≤ t % b ∧ t % b < b ∧ b * (t / b) + t % b = t ∧ 0 ≤ t / b * c ∧ t / b * c ≤ 5000000000000000 ∧ t / b ≤ t ∧ t / b * (b + c) = b * (t / b) + t / b * c := by
  obtain ⟨h1, h2, h3, h4, h5, h6⟩ := h
  have a1 := Int.mul_ediv_add_emod t b
  have a2 := Int.emod_nonneg t (b := b) (by omega)
  have a3 := Int.emod_lt_of_pos t (b := b) (by omega)
  have a4 : 0 ≤ t / b := Int.ediv_nonneg h5 (by omega)
  have a5 : t / b ≤ t := Int.ediv_le_self _ h5
  have a6 : t / b * c ≤ 1099511627776 * 4096 := Int.mul_le_mul (by omega) (by omega) (by omega) (by omega)
  have a7 : 0 ≤ t / b * c := Int.mul_nonneg a4 (by omega)
  exact ⟨a4, a2, a3, a1, a7, by omega, a5, by rw [Int.mul_add, Int.mul_comm (t / b) b]⟩
def steps (b c t : Int) : Int := t + t / b * c + more b c (t % b)
theorem steps_lt {b c t : Int} (h : Ok b c t) : 0 ≤ steps b c t ∧ steps b c t ≤ 6000000000000000 := by
  obtain ⟨a1, a2, a3, a4, a5, a6, a7, _⟩ := bounds h
  obtain ⟨h1, h2, h3, h4, h5, h6⟩ := h
  unfold steps more
  split <;> omega
theorem steps_ok {b c t : Int} (h : Ok b c t) : calendar_Steps.f b c t = some (steps b c t, none) := by
  obtain ⟨a1, a2, a3, a4, a5, a6, a7, _⟩ := bounds h
  have a8 := steps_lt h
  unfold calendar_Steps.f
  refine bindE (why_ok h) ?_
  have h' := h
  obtain ⟨h1, h2, h3, h4, h5, h6⟩ := h'
  rw [if_pos rfl, if_neg (by omega), tdiv_pos h5, tmod_pos h5, w64 (n := t / b) (by omega), w64 (n := b - c) (by omega), w64 (n := t % b - (b - c)) (by omega), w64 (n := t / b * c) (by omega), w64 (n := t + t / b * c) (by omega)]
  have e : mx 0 (t % b - (b - c)) = more b c (t % b) := rfl
  rw [e]
  show some (wrap64 (steps b c t), none) = _
  rw [w64 (by omega)]
theorem steps_bad {b c t : Int} (h : ¬ Ok b c t) : calendar_Steps.f b c t = some (0, some ([stepsW], 1)) := by
  unfold calendar_Steps.f
  refine bindE (why_bad h) ?_
  rw [if_neg (by decide)]
  exact bindE rfl rfl
def rowL (b c t : Int) : List Int := if t % b ≥ b - c then [steps b c t % 4294967296, (steps b c t + 1) % 4294967296] else [steps b c t % 4294967296]
theorem row_ok {b c t : Int} (h : Ok b c t) : calendar_Row.f b c t = some (rowL b c t, none) := by
  have h' := h
  obtain ⟨h1, h2, h3, h4, h5, h6⟩ := h'
  unfold calendar_Row.f
  refine bindE (steps_ok h) ?_
  refine (if_pos (show (none : Option Er).isNone = true from rfl)).trans ?_
  refine bindE rfl ?_
  rw [if_neg (by omega), tmod_pos h5, w64 (n := b - c) (by omega)]
  unfold rowL
  by_cases hb : t % b ≥ b - c
  · rw [if_pos hb, if_pos hb, if_pos (by simp)]; rfl
  · rw [if_neg hb, if_neg hb]
theorem row_bad {b c t : Int} (h : ¬ Ok b c t) : calendar_Row.f b c t = some ([], some ([rowW, stepsW], 1)) := by
  unfold calendar_Row.f
  refine bindE (steps_bad h) ?_
  rw [if_neg (by decide)]
  exact bindE rfl rfl
theorem ref_burst {b c i : Int} (h1 : 2 ≤ b) (h2 : b ≤ 4096) (h3 : 1 ≤ c) (h4 : c < b) (h5 : 0 ≤ i) : geyserref18_Burst.f b c i = some (decide (i % b ≥ b - c)) := by
  unfold geyserref18_Burst.f
  rw [if_neg (by omega), tmod_pos h5, w64 (by omega)]
theorem ref_loop {b c t : Int} (h : Ok b c t) (d : Nat) : ∀ i : Int, 0 ≤ i → i ≤ t % b → t % b - i = d →
    Ev (fun k => geyserref18_Steps.l0 k b c t (t / b * (b + c) + i + more b c i) i) (steps b c t) := by
  obtain ⟨a1, a2, a3, a4, a5, a6, a7, a8⟩ := bounds h
  have h' := h
  obtain ⟨h1, h2, h3, h4, h5, h6⟩ := h'
  induction d with
  | zero =>
    intro i h0 h9 hd
    refine Ev.step (fun k => geyserref18_Steps.l0.eq_2 b c t _ i k) (EvF (by omega) (EvF (by rw [tmod_pos h5]; omega) (EvK ?_)))
    rw [show i = t % b from by omega, a8]
    congr 1
    unfold steps
    omega
  | succ d ih =>
    intro i h0 h9 hd
    have hi : i % b = i := Int.emod_eq_of_lt h0 (by omega)
    have hm : 0 ≤ more b c i ∧ more b c i ≤ i := by unfold more; split <;> omega
    have ih' := ih (i + 1) (by omega) (by omega) (by omega)
    refine Ev.step (fun k => geyserref18_Steps.l0.eq_2 b c t _ i k) (EvF (by omega) (EvT (by rw [tmod_pos h5]; omega) (EvC (ref_burst h1 h2 h3 h4 h0) ?_)))
    rw [hi, w64 (n := i + 1) (by omega), w64 (n := t / b * (b + c) + i + more b c i + 1) (by omega)]
    by_cases hb : i ≥ b - c
    · refine EvT (decide_eq_true hb) ?_
      rw [w64 (by omega)]
      have e : t / b * (b + c) + i + more b c i + 1 + 1 = t / b * (b + c) + (i + 1) + more b c (i + 1) := by
        have : more b c (i + 1) = more b c i + 1 := by unfold more; rw [if_pos (by omega)]; split <;> omega
        omega
      rw [e]; exact ih'
    · refine EvF (by rw [decide_eq_true_iff]; exact hb) ?_
      have e : t / b * (b + c) + i + more b c i + 1 = t / b * (b + c) + (i + 1) + more b c (i + 1) := by
        have : more b c (i + 1) = more b c i := by unfold more; rw [if_neg (by omega), if_neg (by omega)]
        omega
      rw [e]; exact ih'
theorem ref_steps {b c t : Int} (h : Ok b c t) : Ev (fun k => geyserref18_Steps.f k b c t) (steps b c t) := by
  obtain ⟨a1, a2, a3, a4, a5, a6, a7, a8⟩ := bounds h
  have h' := h
  obtain ⟨h1, h2, h3, h4, h5, h6⟩ := h'
  unfold geyserref18_Steps.f
  rw [tdiv_pos h5, w64 (n := t / b) (by omega), w64 (n := b + c) (by omega), w64 (n := t / b * (b + c)) (by omega)]
  refine EvF (by omega) ?_
  have := ref_loop h (t % b).toNat 0 (by omega) (by omega) (by omega)
  rwa [show more b c 0 = 0 from by unfold more; rw [if_neg (by omega)], Int.add_zero, Int.add_zero] at this
theorem ref_row {b c t : Int} (h : Ok b c t) : Ev (fun k => geyserref18_Row.f k b c t) (rowL b c t) := by
  have a8 := steps_lt h
  have h' := h
  obtain ⟨h1, h2, h3, h4, h5, h6⟩ := h'
  unfold geyserref18_Row.f
  refine Ev.bind (ref_steps h) (EvC rfl (EvC (ref_burst h1 h2 h3 h4 h5) ?_))
  rw [tmod_pos a8.1, w64 (n := steps b c t + 1) (by omega), tmod_pos (a := steps b c t + 1) (by omega), Int.emod_emod_of_dvd _ (Int.dvd_refl _), Int.emod_emod_of_dvd _ (Int.dvd_refl _)]
  unfold rowL
  by_cases hb : t % b ≥ b - c
  · rw [if_pos hb]
    exact EvT (decide_eq_true hb) (EvT (by simp) (EvK rfl))
  · rw [if_neg hb]
    exact EvF (by rw [decide_eq_true_iff]; exact hb) (EvK rfl)
theorem same_l0 (l : List Int) (hl : (l.length : Int) ≤ 1000) (d : Nat) : ∀ i : Int, 0 ≤ i → i ≤ l.length → (l.length : Int) - i = d → Ev (fun k => geyserref18_Same.l0 k l l i) true := by
  induction d with
  | zero => intro i h0 h1 hd; exact Ev.step (fun k => geyserref18_Same.l0.eq_2 l l i k) (EvF (by omega) (EvK rfl))
  | succ d ih =>
    intro i h0 h1 hd
    refine Ev.step (fun k => geyserref18_Same.l0.eq_2 l l i k) (EvT (by omega) (EvT h0 (EvT (by omega) (EvT rfl ?_))))
    rw [w64 (n := i + 1) (by omega)]
    exact ih (i + 1) (by omega) (by omega) (by omega)
theorem same_self (l : List Int) (hl : (l.length : Int) ≤ 1000) : Ev (fun k => geyserref18_Same.f k l l) true := by
  unfold geyserref18_Same.f
  exact EvT rfl (same_l0 l hl l.length 0 (by omega) (by omega) (by omega))
theorem rowL_len (b c t : Int) : ((rowL b c t).length : Int) ≤ 1000 := by unfold rowL; split <;> simp
theorem CalendarRows : geyserlaw18_CalendarRows.Pure := by
  intro b c t _ _ _
  refine Ev.rounds ?_
  unfold geyserlaw18_CalendarRows.f
  by_cases h : Ok b c t
  · refine EvC (steps_ok h) (EvC (row_ok h) (EvC (chk_ok h) (EvC (tells_ok _) (EvT rfl (EvC (tells_ok _) ?_)))))
    refine Ev.step (fun k => geyserlaw18_CalendarRows.j0.eq_2 b c t _ _ 0 _ k) (EvF (by decide) (EvT rfl (Ev.bind (ref_steps h) (EvT rfl (Ev.bind (ref_row h) (Ev.bind (same_self _ (rowL_len b c t)) (EvT rfl (Ev.bind awake_ev (Ev.now true)))))))))
  · refine EvC (steps_bad h) (EvC (row_bad h) (EvC (chk_bad h) (EvC (tells_one _) (EvT rfl (EvC (tells_two _ _) ?_)))))
    exact Ev.step (fun k => geyserlaw18_CalendarRows.j0.eq_2 b c t 0 [] 1 _ k) (EvF (by decide) (EvF (by decide) (EvT rfl (EvT rfl (Ev.bind awake_ev (Ev.now true))))))
end Go.Proofs.YtnhelpbchfeadaaDoor.Pure
