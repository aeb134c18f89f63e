/- CalendarNexts (P18.2): of any base, level and tick, calendar.Next tells the next sync point as the reference does (it lies behind the tick, and is one of that level), or ErrRange just where there is none such. Conditions: none. -/
import Derived.Test.YtnhelpbchfeadaaDoorCalDCalendarNexts
namespace Go.Proofs.YtnhelpbchfeadaaDoor.Pure
open Go.RowKit Go.Proofs.YtnhelpbchfeadaaDoor.QCalendarNexts Go.Proofs.YtnhelpbchfeadaaDoorW.PrintWords Go.Proofs.YtnhelpbchfeadaaDoorW.PrintLast Go.Proofs.YtnhelpbchfeadaaDoorW.PrintMore Go.Proofs.YtnhelpbchfeadaaDoor.Kit Go.Proofs.YtnhelpbchfeadaaDoor.Er Go.Proofs.YtnhelpbchfeadaaDoor.CalCalendarNexts

/-- D: is a tick one of level l? -/
theorem down {b t : Int} {i j : Nat} (h : i ≤ j) (hj : t % (b * 2 ^ j) = 0) : t % (b * 2 ^ i) = 0 := by
  obtain ⟨m, rfl⟩ : ∃ m, j = i + m := ⟨j - i, by omega⟩
  rw [Int.pow_add, ← Int.mul_assoc] at hj
  exact Int.emod_eq_zero_of_dvd (Int.dvd_trans (Int.dvd_mul_right _ _) (Int.dvd_of_emod_eq_zero hj))
theorem every {b : Int} {i : Nat} (h1 : 2 ≤ b) (h2 : b ≤ 4096) (hi : i ≤ 8) : 1 ≤ b * 2 ^ i ∧ b * 2 ^ i ≤ 1048576 ∧ 2 * (b * 2 ^ i) = b * 2 ^ (i + 1) := by
  have p : (2 : Int) ^ i ≤ 256 ∧ (1 : Int) ≤ 2 ^ i := by
    have : i = 0 ∨ i = 1 ∨ i = 2 ∨ i = 3 ∨ i = 4 ∨ i = 5 ∨ i = 6 ∨ i = 7 ∨ i = 8 := by omega
    rcases this with rfl | rfl | rfl | rfl | rfl | rfl | rfl | rfl | rfl <;> decide
  have e : 2 * (b * 2 ^ i) = b * 2 ^ (i + 1) := by rw [Int.pow_succ, Int.mul_comm 2, Int.mul_assoc]
  obtain ⟨p1, p2⟩ := p
  generalize (2 : Int) ^ i = p at *
  have e1 : b * p ≤ 4096 * 256 := Int.mul_le_mul h2 p1 (by omega) (by omega)
  have e2 : 1 * 1 ≤ b * p := Int.mul_le_mul (by omega) p2 (by omega) (by omega)
  exact ⟨by omega, by omega, e⟩
theorem ref_stay (b g t : Int) (o : Int) (h1 : 2 ≤ b) (h2 : b ≤ 4096) (hg : g ≤ 8) (d : Nat) : ∀ i : Nat, (i : Int) ≤ g → g - i = d → (t ≤ 0 ∨ t % (b * 2 ^ i) ≠ 0) →
    Ev (fun k => geyserref18_Sync.l0 k g t o (b * 2 ^ i) (i : Int)) o := by
  induction d with
  | zero =>
    intro i hi hd _
    exact Ev.step (fun k => geyserref18_Sync.l0.eq_2 g t o (b * 2 ^ i) (i : Int) k) (EvF (by omega) (EvK rfl))
  | succ d ih =>
    intro i hi hd hn
    obtain ⟨p1, p2, p3⟩ := every (i := i) h1 h2 (by omega)
    have hs := ih (i + 1) (by omega) (by omega) (hn.imp id fun h h' => h (down (by omega) h'))
    refine Ev.step (fun k => geyserref18_Sync.l0.eq_2 g t o (b * 2 ^ i) (i : Int) k) (EvT (by omega) ?_)
    rw [w64 (n := 2 * (b * 2 ^ i)) (by omega), w64 (n := (i : Int) + 1) (by omega), p3]
    by_cases ht : t > 0
    · refine EvT ht (EvF (by omega) (EvF ?_ hs))
      rw [tmod_pos (by omega)]
      exact hn.resolve_left (by omega)
    · exact EvF ht hs
theorem ref_go (b g t : Int) (v : Int) (h1 : 2 ≤ b) (h2 : b ≤ 4096) (hg : g ≤ 8) (ht : 0 < t) (hv : v ≤ g - 1) (hd1 : ∀ j : Nat, (j : Int) ≤ v → t % (b * 2 ^ j) = 0) (hd2 : v < g - 1 → t % (b * 2 ^ (v + 1).toNat) ≠ 0)
    (d : Nat) : ∀ i : Nat, (i : Int) ≤ v + 1 → v + 1 - i = d → Ev (fun k => geyserref18_Sync.l0 k g t ((i : Int) - 1) (b * 2 ^ i) (i : Int)) v := by
  induction d with
  | zero =>
    intro i hi hd
    have e : (i : Int) - 1 = v := by omega
    rw [e]
    by_cases h : v < g - 1
    · refine ref_stay b g t v h1 h2 hg (g - i).toNat i (by omega) (by omega) (.inr ?_)
      have := hd2 h
      rwa [show (v + 1).toNat = i from by omega] at this
    · exact Ev.step (fun k => geyserref18_Sync.l0.eq_2 g t v (b * 2 ^ i) (i : Int) k) (EvF (by omega) (EvK rfl))
  | succ d ih =>
    intro i hi hd
    obtain ⟨p1, p2, p3⟩ := every (i := i) h1 h2 (by omega)
    refine Ev.step (fun k => geyserref18_Sync.l0.eq_2 g t _ (b * 2 ^ i) (i : Int) k) (EvT (by omega) (EvT ht (EvF (by omega) (EvT ?_ ?_))))
    · rw [tmod_pos (by omega)]; exact hd1 i (by omega)
    · rw [w64 (n := 2 * (b * 2 ^ i)) (by omega), w64 (n := (i : Int) + 1) (by omega), p3]
      have := ih (i + 1) (by omega) (by omega)
      rwa [show ((i + 1 : Nat) : Int) - 1 = i from by omega] at this
theorem ref_sync (b g t v : Int) (h1 : 2 ≤ b) (h2 : b ≤ 4096) (hg : g ≤ 8) (ht : 0 < t) (hv0 : -1 ≤ v) (hv : v ≤ g - 1) (hd1 : ∀ j : Nat, (j : Int) ≤ v → t % (b * 2 ^ j) = 0) (hd2 : v < g - 1 → t % (b * 2 ^ (v + 1).toNat) ≠ 0) :
    Ev (fun k => geyserref18_Sync.f k b g t) v := by
  unfold geyserref18_Sync.f
  have := ref_go b g t v h1 h2 hg ht hv hd1 hd2 (v + 1).toNat 0 (by omega) (by omega)
  rwa [Int.pow_zero, Int.mul_one] at this
def nextW : ByteArray := ⟨#[99, 97, 108, 101, 110, 100, 97, 114, 46, 78, 101, 120, 116]⟩
theorem next_bad {b l t : Int} (h : ¬ (2 ≤ b ∧ b ≤ 4096 ∧ 0 ≤ t ∧ t < 1099511627776 ∧ 0 ≤ l ∧ l ≤ 7)) : calendar_Next.f b l t = some (0, some ([nextW], 1)) := by
  unfold calendar_Next.f
  by_cases h0 : 2 ≤ b ∧ b ≤ 4096 ∧ 0 ≤ t ∧ t < 1099511627776
  · refine bindE (bad_no h0.1 h0.2.1 h0.2.2.1 h0.2.2.2) ?_
    rw [if_neg (by decide)]
    by_cases h1 : l < 0
    · rw [if_pos h1]; exact bindE rfl rfl
    · rw [if_neg h1, if_pos (by omega)]; exact bindE rfl rfl
  · refine bindE (bad_yes h0) ?_
    rw [if_pos rfl]
    exact bindE rfl rfl
theorem next_ok (b t : Int) (l : Nat) (h1 : 2 ≤ b) (h2 : b ≤ 4096) (h3 : 0 ≤ t) (h4 : t < 1099511627776) (hl : l ≤ 7) : calendar_Next.f b (l : Int) t = some ((t / (b * 2 ^ l) + 1) * (b * 2 ^ l), none) := by
  obtain ⟨e, p1, p2⟩ := shlB (l := (l : Int)) h1 h2 (by omega) (by omega)
  rw [show ((l : Int)).toNat = l from by omega] at e p1 p2
  unfold calendar_Next.f
  refine bindE (bad_no h1 h2 h3 h4) ?_
  rw [if_neg (by decide), if_neg (by omega), if_neg (by omega), if_pos (by omega), e]
  generalize b * 2 ^ l = m at *
  have q1 : t / m ≤ t := Int.ediv_le_self _ h3
  have q0 : 0 ≤ t / m := Int.ediv_nonneg h3 (by omega)
  have q2 : m * (t / m) ≤ t := Int.mul_ediv_self_le (by omega)
  have q3 : (t / m + 1) * m = m * (t / m) + m := by rw [Int.add_mul, Int.one_mul, Int.mul_comm]
  have q4 : 0 ≤ m * (t / m) := Int.mul_nonneg (by omega) q0
  rw [if_neg (by omega), tdiv_pos h3, w64 (n := t / m) (by omega), w64 (n := t / m + 1) (by omega), w64 (by omega)]
theorem ref_next (b t : Int) (l : Nat) (h1 : 2 ≤ b) (h2 : b ≤ 4096) (h3 : 0 ≤ t) (h4 : t < 1099511627776) (hl : l ≤ 7) (d : Nat) : ∀ i : Nat, i ≤ l → l - i = d →
    Ev (fun k => geyserref18_Next.l0 k (l : Int) t (b * 2 ^ i) (i : Int)) ((t / (b * 2 ^ l) + 1) * (b * 2 ^ l)) := by
  induction d with
  | zero =>
    intro i hi hd
    obtain rfl : i = l := by omega
    obtain ⟨p1, p2, p3⟩ := every (i := i) h1 h2 (by omega)
    refine Ev.step (fun k => geyserref18_Next.l0.eq_2 (i : Int) t (b * 2 ^ i) (i : Int) k) (EvF (by omega) (EvF (by omega) (EvK ?_)))
    clear p3
    generalize b * 2 ^ i = m at *
    have q2 : m * (t / m) ≤ t := Int.mul_ediv_self_le (by omega)
    have q3 : (t / m + 1) * m = m * (t / m) + m := by rw [Int.add_mul, Int.one_mul, Int.mul_comm]
    have q5 : m * (t / m) + t % m = t := Int.mul_ediv_add_emod t m
    have q0 : 0 ≤ t / m := Int.ediv_nonneg h3 (by omega)
    have q4 : 0 ≤ m * (t / m) := Int.mul_nonneg (by omega) q0
    rw [tmod_pos h3, w64 (n := t + m) (by omega), w64 (by omega)]
    congr 1
    omega
  | succ d ih =>
    intro i hi hd
    obtain ⟨p1, p2, p3⟩ := every (i := i) h1 h2 (by omega)
    refine Ev.step (fun k => geyserref18_Next.l0.eq_2 (l : Int) t (b * 2 ^ i) (i : Int) k) (EvT (by omega) ?_)
    rw [w64 (n := 2 * (b * 2 ^ i)) (by omega), w64 (n := (i : Int) + 1) (by omega), p3]
    exact ih (i + 1) (by omega) (by omega)
theorem j0_bad (b l t : Int) : Ev (fun k => geyserlaw18_CalendarNexts.j0 k b l t 0 (some ([nextW], 1)) true) true :=
  Ev.step (fun k => geyserlaw18_CalendarNexts.j0.eq_2 b l t 0 _ true k) (EvT rfl (EvC (tells_one _) (EvT rfl (EvT rfl (Ev.bind awake_ev (Ev.now true))))))
theorem CalendarNexts : geyserlaw18_CalendarNexts.Pure := by
  intro b l t _ _ _
  refine Ev.rounds ?_
  unfold geyserlaw18_CalendarNexts.f
  by_cases h : 2 ≤ b ∧ b ≤ 4096 ∧ 0 ≤ t ∧ t < 1099511627776 ∧ 0 ≤ l ∧ l ≤ 7
  · obtain ⟨h1, h2, h3, h4, h5, h6⟩ := h
    obtain ⟨l, rfl⟩ : ∃ m : Nat, l = (m : Int) := ⟨l.toNat, by omega⟩
    obtain ⟨p1, p2, _⟩ := every (i := l) h1 h2 (by omega)
    have q2 : b * 2 ^ l * (t / (b * 2 ^ l)) ≤ t := Int.mul_ediv_self_le (by omega)
    have q3 : (t / (b * 2 ^ l) + 1) * (b * 2 ^ l) = b * 2 ^ l * (t / (b * 2 ^ l)) + b * 2 ^ l := by rw [Int.add_mul, Int.one_mul, Int.mul_comm]
    have q5 : t < (t / (b * 2 ^ l) + 1) * (b * 2 ^ l) := by
      have a1 := Int.mul_ediv_add_emod t (b * 2 ^ l)
      have a2 := Int.emod_lt_of_pos t (b := b * 2 ^ l) (by omega)
      omega
    have rn := ref_next b t l h1 h2 h3 h4 (by omega) l 0 (by omega) (by omega)
    rw [Int.pow_zero, Int.mul_one] at rn
    refine EvC (next_ok b t l h1 h2 h3 h4 (by omega)) (EvC (chk_ok ⟨h1, h2, by omega, by omega, h3, h4⟩) (EvT rfl (EvF (by omega) ?_)))
    rw [show decide ((l : Int) > 7) = false from decide_eq_false (by omega)]
    refine Ev.step (fun k => geyserlaw18_CalendarNexts.j0.eq_2 b (l : Int) t _ none false k) (EvF (by decide) (EvT rfl (Ev.bind rn (EvT rfl (EvT q5 ?_)))))
    rw [w64 (n := (l : Int) + 1) (by omega)]
    refine Ev.bind (ref_sync b ((l : Int) + 1) _ (l : Int) h1 h2 (by omega) (by omega) (by omega) (by omega) (fun j hj => ?_) (fun hx => by omega)) (EvT rfl (Ev.bind awake_ev (Ev.now true)))
    exact down (j := l) (by omega) (Int.mul_emod_left _ _)
  · refine EvC (next_bad h) ?_
    by_cases h0 : Ok b 1 t
    · refine EvC (chk_ok h0) (EvT rfl ?_)
      obtain ⟨h1, h2, h3, h4, h5, h6⟩ := h0
      by_cases hg : l < 0
      · exact EvT hg (j0_bad b l t)
      · refine EvF hg ?_
        rw [show decide (l > 7) = true from decide_eq_true (by omega)]
        exact j0_bad b l t
    · exact EvC (chk_bad h0) (EvF (by decide) (j0_bad b l t))
end Go.Proofs.YtnhelpbchfeadaaDoor.Pure
