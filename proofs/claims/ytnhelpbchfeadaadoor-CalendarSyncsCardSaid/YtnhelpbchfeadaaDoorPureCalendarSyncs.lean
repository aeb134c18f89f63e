/- CalendarSyncs (P18.1): of any base, number of levels and tick, calendar.Sync tells the greatest level of which the tick is a sync point as the reference does, or ErrRange just where there is none such. Conditions: none. -/
import Derived.Test.YtnhelpbchfeadaaDoorCalDCalendarSyncs
namespace Go.Proofs.YtnhelpbchfeadaaDoor.Pure
open Go.RowKit Go.Proofs.YtnhelpbchfeadaaDoor.QCalendarSyncs Go.Proofs.YtnhelpbchfeadaaDoorW.PrintWords Go.Proofs.YtnhelpbchfeadaaDoorW.PrintLast Go.Proofs.YtnhelpbchfeadaaDoorW.PrintMore Go.Proofs.YtnhelpbchfeadaaDoor.Kit Go.Proofs.YtnhelpbchfeadaaDoor.Er Go.Proofs.YtnhelpbchfeadaaDoor.CalCalendarSyncs

/-- D: is a tick one of level l? -/
theorem down {b t : Int} {i j : Nat} (h : i ≤ j) (hj : t % (b * 2 ^ j) = 0) : t % (b * 2 ^ i) = 0 := by
  obtain ⟨m, rfl⟩ : ∃ m, j = i + m := ⟨j - i, by omega⟩
  rw [Int.pow_add, ← Int.mul_assoc] at hj
  exact Int.emod_eq_zero_of_dvd (Int.dvd_trans (Int.dvd_mul_right _ _) (Int.dvd_of_emod_eq_zero hj))
theorem every {b : Int} {i : Nat} (h1 : 2 ≤ b) (h2 : b ≤ 4096) (hi : i ≤ 8) : 1 ≤ b * 2 ^ i ∧ b * 2 ^ i ≤ 1048576 ∧ 2 * (b * 2 ^ i) = b * 2 ^ (i + 1) := by
  have p : (2 : Int) ^ i ≤ 256 ∧ (1 : Int) ≤ 2 ^ i := by
    have : i = 0 ∨ i = 1 ∨ i = 2 ∨ i = 3 ∨ i = 4 ∨ i = 5 ∨ i = 6 ∨ i = 7 ∨ i = 8 := by omega
    rcases this with rfl | rfl | rfl | rfl | rfl | rfl | rfl | rfl | rfl <;> decide
  have e : 2 * (b * 2 ^ i) = b * 2 ^ (i + 1) := by rw [Int.pow_succ, Int.mul_comm 2, Int.mul_assoc]
  obtain ⟨p1, p2⟩ := p
  generalize (2 : Int) ^ i = p at *
  have e1 : b * p ≤ 4096 * 256 := Int.mul_le_mul h2 p1 (by omega) (by omega)
  have e2 : 1 * 1 ≤ b * p := Int.mul_le_mul (by omega) p2 (by omega) (by omega)
  exact ⟨by omega, by omega, e⟩
theorem ref_stay (b g t : Int) (o : Int) (h1 : 2 ≤ b) (h2 : b ≤ 4096) (hg : g ≤ 8) (d : Nat) : ∀ i : Nat, (i : Int) ≤ g → g - i = d → (t ≤ 0 ∨ t % (b * 2 ^ i) ≠ 0) →
    Ev (fun k => geyserref18_Sync.l0 k g t o (b * 2 ^ i) (i : Int)) o := by
  induction d with
  | zero =>
    intro i hi hd _
    exact Ev.step (fun k => geyserref18_Sync.l0.eq_2 g t o (b * 2 ^ i) (i : Int) k) (EvF (by omega) (EvK rfl))
  | succ d ih =>
    intro i hi hd hn
    obtain ⟨p1, p2, p3⟩ := every (i := i) h1 h2 (by omega)
    have hs := ih (i + 1) (by omega) (by omega) (hn.imp id fun h h' => h (down (by omega) h'))
    refine Ev.step (fun k => geyserref18_Sync.l0.eq_2 g t o (b * 2 ^ i) (i : Int) k) (EvT (by omega) ?_)
    rw [w64 (n := 2 * (b * 2 ^ i)) (by omega), w64 (n := (i : Int) + 1) (by omega), p3]
    by_cases ht : t > 0
    · refine EvT ht (EvF (by omega) (EvF ?_ hs))
      rw [tmod_pos (by omega)]
      exact hn.resolve_left (by omega)
    · exact EvF ht hs
theorem ref_go (b g t : Int) (v : Int) (h1 : 2 ≤ b) (h2 : b ≤ 4096) (hg : g ≤ 8) (ht : 0 < t) (hv : v ≤ g - 1) (hd1 : ∀ j : Nat, (j : Int) ≤ v → t % (b * 2 ^ j) = 0) (hd2 : v < g - 1 → t % (b * 2 ^ (v + 1).toNat) ≠ 0)
    (d : Nat) : ∀ i : Nat, (i : Int) ≤ v + 1 → v + 1 - i = d → Ev (fun k => geyserref18_Sync.l0 k g t ((i : Int) - 1) (b * 2 ^ i) (i : Int)) v := by
  induction d with
  | zero =>
    intro i hi hd
    have e : (i : Int) - 1 = v := by omega
    rw [e]
    by_cases h : v < g - 1
    · refine ref_stay b g t v h1 h2 hg (g - i).toNat i (by omega) (by omega) (.inr ?_)
      have := hd2 h
      rwa [show (v + 1).toNat = i from by omega] at this
    · exact Ev.step (fun k => geyserref18_Sync.l0.eq_2 g t v (b * 2 ^ i) (i : Int) k) (EvF (by omega) (EvK rfl))
  | succ d ih =>
    intro i hi hd
    obtain ⟨p1, p2, p3⟩ := every (i := i) h1 h2 (by omega)
    refine Ev.step (fun k => geyserref18_Sync.l0.eq_2 g t _ (b * 2 ^ i) (i : Int) k) (EvT (by omega) (EvT ht (EvF (by omega) (EvT ?_ ?_))))
    · rw [tmod_pos (by omega)]; exact hd1 i (by omega)
    · rw [w64 (n := 2 * (b * 2 ^ i)) (by omega), w64 (n := (i : Int) + 1) (by omega), p3]
      have := ih (i + 1) (by omega) (by omega)
      rwa [show ((i + 1 : Nat) : Int) - 1 = i from by omega] at this
theorem ref_sync (b g t v : Int) (h1 : 2 ≤ b) (h2 : b ≤ 4096) (hg : g ≤ 8) (ht : 0 < t) (hv0 : -1 ≤ v) (hv : v ≤ g - 1) (hd1 : ∀ j : Nat, (j : Int) ≤ v → t % (b * 2 ^ j) = 0) (hd2 : v < g - 1 → t % (b * 2 ^ (v + 1).toNat) ≠ 0) :
    Ev (fun k => geyserref18_Sync.f k b g t) v := by
  unfold geyserref18_Sync.f
  have := ref_go b g t v h1 h2 hg ht hv hd1 hd2 (v + 1).toNat 0 (by omega) (by omega)
  rwa [Int.pow_zero, Int.mul_one] at this
/-- What Sync tells, to the sign. -/
theorem sync_spec (b g t : Int) (hb1 : 2 ≤ b) (hb2 : b ≤ 4096) (hg1 : 1 ≤ g) (hg2 : g ≤ 8) (ht1 : 0 < t) (d : Nat) : ∀ x : Int, -1 ≤ x → x ≤ g - 1 → g - 1 - x = d → (∀ j : Nat, (j : Int) ≤ x → t % (b * 2 ^ j) = 0) →
    ∃ v, Ev (fun k => calendar_Sync.l0 k b g t x) (v, none) ∧ -1 ≤ v ∧ v ≤ g - 1 ∧ (∀ j : Nat, (j : Int) ≤ v → t % (b * 2 ^ j) = 0) ∧ (v < g - 1 → t % (b * 2 ^ (v + 1).toNat) ≠ 0) := by
  induction d with
  | zero =>
    intro x h1 h2 hd hj
    refine ⟨x, Ev.step (fun k => calendar_Sync.l0.eq_2 b g t x k) (EvT (by omega) (EvF ?_ (EvK rfl))), by omega, by omega, hj, fun _ => by omega⟩
    rw [w64 (by omega)]; omega
  | succ d ih =>
    intro x h1 h2 hd hj
    obtain ⟨e, p1, p2⟩ := shlB (l := x + 1) hb1 hb2 (by omega) (by omega)
    have ew : wrap64 (x + 1) = x + 1 := w64 (by omega)
    have eg : wrap64 (g - 1) = g - 1 := w64 (by omega)
    by_cases hz : t % (b * 2 ^ (x + 1).toNat) = 0
    · obtain ⟨v, hv, h3⟩ := ih (x + 1) (by omega) (by omega) (by omega) fun j h => by
        by_cases hx : (j : Int) ≤ x
        · exact hj j hx
        · rwa [show j = (x + 1).toNat from by omega]
      refine ⟨v, Ev.step (fun k => calendar_Sync.l0.eq_2 b g t x k) ?_, h3⟩
      rw [ew, eg, e]
      exact EvT ht1 (EvT (by omega) (EvT (by omega) (EvF (by omega) (EvT (by rw [tmod_pos (by omega)]; exact hz) hv))))
    · refine ⟨x, Ev.step (fun k => calendar_Sync.l0.eq_2 b g t x k) ?_, by omega, h2, hj, fun _ => hz⟩
      rw [ew, eg, e]
      exact EvT ht1 (EvT (by omega) (EvT (by omega) (EvF (by omega) (EvF (by rw [tmod_pos (by omega)]; exact hz) (EvK rfl)))))
def syncW : ByteArray := ⟨#[99, 97, 108, 101, 110, 100, 97, 114, 46, 83, 121, 110, 99]⟩
theorem sync_bad {b g t : Int} (h : ¬ (2 ≤ b ∧ b ≤ 4096 ∧ 0 ≤ t ∧ t < 1099511627776 ∧ 1 ≤ g ∧ g ≤ 8)) : Ev (fun k => calendar_Sync.f k b g t) (0, some ([syncW], 1)) := by
  have hj : Ev (fun k => calendar_Sync.j0 k b g t true) (0, some ([syncW], 1)) := Ev.step (fun k => calendar_Sync.j0.eq_2 b g t true k) (EvT rfl (EvC rfl (EvK rfl)))
  unfold calendar_Sync.f
  by_cases h0 : 2 ≤ b ∧ b ≤ 4096 ∧ 0 ≤ t ∧ t < 1099511627776
  · refine EvC (bad_no h0.1 h0.2.1 h0.2.2.1 h0.2.2.2) (EvF (by decide) ?_)
    by_cases h1 : g < 1
    · exact EvT h1 hj
    · refine EvF h1 ?_
      rw [show decide (g > 8) = true from decide_eq_true (by omega)]
      exact hj
  · exact EvC (bad_yes h0) (EvT rfl hj)
theorem sync_zero {b g : Int} (hb1 : 2 ≤ b) (hb2 : b ≤ 4096) (hg1 : 1 ≤ g) (hg2 : g ≤ 8) : Ev (fun k => calendar_Sync.f k b g 0) (-1, none) := by
  unfold calendar_Sync.f
  refine EvC (bad_no hb1 hb2 (by omega) (by omega)) (EvF (by decide) (EvF (by omega) ?_))
  refine Ev.step (fun k => calendar_Sync.j0.eq_2 b g 0 _ k) (EvF (by rw [decide_eq_true_iff]; omega) ?_)
  exact Ev.step (fun k => calendar_Sync.l0.eq_2 b g 0 (-1) k) (EvF (by omega) (EvK rfl))
theorem j0_bad (b g t : Int) : Ev (fun k => geyserlaw18_CalendarSyncs.j0 k b g t 0 (some ([syncW], 1)) true) true :=
  Ev.step (fun k => geyserlaw18_CalendarSyncs.j0.eq_2 b g t 0 _ true k) (EvT rfl (EvC (tells_one _) (EvT rfl (EvT rfl (Ev.bind awake_ev (Ev.now true))))))
theorem CalendarSyncs : geyserlaw18_CalendarSyncs.Pure := by
  intro b g t _ _ _
  refine Ev.rounds ?_
  unfold geyserlaw18_CalendarSyncs.f
  by_cases h : 2 ≤ b ∧ b ≤ 4096 ∧ 0 ≤ t ∧ t < 1099511627776 ∧ 1 ≤ g ∧ g ≤ 8
  · obtain ⟨h1, h2, h3, h4, h5, h6⟩ := h
    have hv : ∃ v, Ev (fun k => calendar_Sync.f k b g t) (v, none) ∧ Ev (fun k => geyserref18_Sync.f k b g t) v := by
      by_cases h0 : 0 < t
      · obtain ⟨v, e, q1, q2, q3, q4⟩ := sync_spec b g t h1 h2 h5 h6 h0 g.toNat (-1) (by omega) (by omega) (by omega) (fun j hj => by omega)
        exact ⟨v, sync_f h1 h2 h5 h6 h0 h4 e, ref_sync b g t v h1 h2 h6 h0 q1 q2 q3 q4⟩
      · obtain rfl : t = 0 := by omega
        refine ⟨-1, sync_zero h1 h2 h5 h6, ?_⟩
        unfold geyserref18_Sync.f
        have := ref_stay b g 0 (-1) h1 h2 h6 g.toNat 0 (by omega) (by omega) (.inl (by omega))
        rwa [Int.pow_zero, Int.mul_one] at this
    obtain ⟨v, e1, e2⟩ := hv
    refine Ev.bind e1 (EvC (chk_ok ⟨h1, h2, by omega, by omega, h3, h4⟩) (EvT rfl (EvF (by omega) ?_)))
    rw [show decide (g > 8) = false from decide_eq_false (by omega)]
    exact Ev.step (fun k => geyserlaw18_CalendarSyncs.j0.eq_2 b g t v none false k) (EvF (by decide) (EvT rfl (Ev.bind e2 (EvT rfl (Ev.bind awake_ev (Ev.now true))))))
  · refine Ev.bind (sync_bad h) ?_
    by_cases h0 : Ok b 1 t
    · refine EvC (chk_ok h0) (EvT rfl ?_)
      obtain ⟨h1, h2, h3, h4, h5, h6⟩ := h0
      by_cases hg : g < 1
      · exact EvT hg (j0_bad b g t)
      · refine EvF hg ?_
        rw [show decide (g > 8) = true from decide_eq_true (by omega)]
        exact j0_bad b g t
    · exact EvC (chk_bad h0) (EvF (by decide) (j0_bad b g t))
end Go.Proofs.YtnhelpbchfeadaaDoor.Pure
