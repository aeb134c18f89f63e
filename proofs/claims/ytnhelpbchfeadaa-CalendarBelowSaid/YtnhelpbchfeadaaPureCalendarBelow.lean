/- CalendarBelow (P18.5): of any base, level and times (cut to their ranges) a sync point of a level is one of all levels below. Conditions: none. -/
import Derived.Test.YtnhelpbchfeadaaCalCalendarBelow
namespace Go.Proofs.Ytnhelpbchfeadaa.Pure
open Go.RowKit Go.Proofs.Ytnhelpbchfeadaa.QCalendarBelow Go.Proofs.YtnhelpbchfeadaaW.PrintWords Go.Proofs.YtnhelpbchfeadaaW.PrintLast Go.Proofs.YtnhelpbchfeadaaW.PrintMore Go.Proofs.Ytnhelpbchfeadaa.Kit Go.Proofs.Ytnhelpbchfeadaa.Er Go.Proofs.Ytnhelpbchfeadaa.CalCalendarBelow

theorem size_of {b t : Int} {l : Nat} (h1 : 2 ≤ b) (h2 : b ≤ 4096) (hl : l ≤ 7) (h5 : 1 ≤ t) (h6 : t ≤ 1000000) : 2 ≤ b * 2 ^ l ∧ b * 2 ^ l ≤ 524288 ∧ 2 ≤ b * 2 ^ l * t ∧ b * 2 ^ l * t ≤ 524288000000 := by
  obtain ⟨p1, p2⟩ := pow_le7 l hl
  generalize (2 : Int) ^ l = p at *
  have e1 : b * p ≤ 4096 * 128 := Int.mul_le_mul h2 p1 (by omega) (by omega)
  have e2 : 2 * 1 ≤ b * p := Int.mul_le_mul (by omega) p2 (by omega) (by omega)
  generalize b * p = m at *
  have e3 : m * t ≤ 524288 * 1000000 := Int.mul_le_mul (by omega) h6 (by omega) (by omega)
  have e4 : 2 * 1 ≤ m * t := Int.mul_le_mul (by omega) h5 (by omega) (by omega)
  omega
theorem divides (b t : Int) (l j : Nat) (h : j ≤ l) : b * 2 ^ l * t % (b * 2 ^ j) = 0 := by
  obtain ⟨m, rfl⟩ : ∃ m, l = j + m := ⟨l - j, by omega⟩
  rw [Int.pow_add, ← Int.mul_assoc, Int.mul_assoc (b * 2 ^ j), Int.mul_emod_right]
theorem loop1 (b t : Int) (l : Nat) (h1 : 2 ≤ b) (h2 : b ≤ 4096) (hl : l ≤ 7) (h5 : 1 ≤ t) (h6 : t ≤ 1000000) (d : Nat) : ∀ g : Int, 1 ≤ g → g ≤ l + 2 → (l + 2 : Int) - g = d →
    Ev (fun k => geyserlaw18_CalendarBelow.l1 k b (l : Int) t (b * 2 ^ l) g) true := by
  obtain ⟨s1, s2, s3, s4⟩ := size_of h1 h2 hl h5 h6
  induction d with
  | zero =>
    intro g hg1 hg2 hd
    refine Ev.step (fun k => geyserlaw18_CalendarBelow.l1.eq_2 b l t (b * 2 ^ l) g k) (EvF ?_ (Ev.bind awake_ev (Ev.now true)))
    rw [w64 (by omega)]; omega
  | succ d ih =>
    intro g hg1 hg2 hd
    refine Ev.step (fun k => geyserlaw18_CalendarBelow.l1.eq_2 b l t (b * 2 ^ l) g k) ?_
    rw [w64 (n := (l : Int) + 1) (by omega), w64 (n := b * 2 ^ l * t) (by omega), w64 (n := g - 1) (by omega), w64 (n := g + 1) (by omega)]
    obtain ⟨v, hv, g1, g2, g3⟩ := sync_l0 b g (b * 2 ^ l * t) h1 h2 hg1 (by omega) (by omega) g.toNat (-1) (by omega) (by omega) (by omega)
    obtain rfl := g3 fun j hj => divides b t l j (by omega)
    refine EvT (by omega) (Ev.bind (sync_f h1 h2 hg1 (by omega) (by omega) (by omega) hv) (EvT rfl (EvT rfl (ih (g + 1) (by omega) (by omega) (by omega)))))
theorem loop0 (b t : Int) (l : Nat) (h1 : 2 ≤ b) (h2 : b ≤ 4096) (hl : l ≤ 7) (h5 : 1 ≤ t) (h6 : t ≤ 1000000) (d : Nat) : ∀ i : Nat, i ≤ l → l - i = d →
    Ev (fun k => geyserlaw18_CalendarBelow.l0 k b (l : Int) t (b * 2 ^ i) i) true := by
  induction d with
  | zero =>
    intro i hi hd
    obtain rfl : i = l := by omega
    refine Ev.step (fun k => geyserlaw18_CalendarBelow.l0.eq_2 b i t (b * 2 ^ i) i k) (EvF (by omega) ?_)
    exact loop1 b t i h1 h2 hl h5 h6 (i + 1) 1 (by omega) (by omega) (by omega)
  | succ d ih =>
    intro i hi hd
    obtain ⟨s1, s2, s3, s4⟩ := size_of (l := i) (t := t) h1 h2 (by omega) h5 h6
    refine Ev.step (fun k => geyserlaw18_CalendarBelow.l0.eq_2 b l t (b * 2 ^ i) i k) (EvT (by omega) ?_)
    rw [w64 (n := 2 * (b * 2 ^ i)) (by omega), w64 (n := (i : Int) + 1) (by omega)]
    have e : 2 * (b * 2 ^ i) = b * 2 ^ (i + 1) := by rw [Int.pow_succ, Int.mul_comm 2, Int.mul_assoc]
    rw [e]
    exact ih (i + 1) (by omega) (by omega)
theorem CalendarBelow : geyserlaw18_CalendarBelow.Pure := by
  intro a0 a1 a2 _ _ _
  obtain ⟨q, hq, q0, q1⟩ := utm a0 4095 (by omega) (by omega)
  obtain ⟨l, hl, l0, l1⟩ := utm a1 8 (by omega) (by omega)
  obtain ⟨t, ht, t0, t1⟩ := utm a2 1000000 (by omega) (by omega)
  have e1 : wrap64 (2 + q) = 2 + q := w64 (by omega)
  have e3 : wrap64 (1 + t) = 1 + t := w64 (by omega)
  obtain ⟨m, rfl⟩ : ∃ m : Nat, l = (m : Int) := ⟨l.toNat, by omega⟩
  refine Ev.rounds ?_
  unfold geyserlaw18_CalendarBelow.f
  rw [hq, hl, ht, e1, e3]
  have := loop0 (2 + q) (1 + t) m (by omega) (by omega) (by omega) (by omega) (by omega) m 0 (by omega) (by omega)
  rwa [Int.pow_zero, Int.mul_one] at this
end Go.Proofs.Ytnhelpbchfeadaa.Pure
