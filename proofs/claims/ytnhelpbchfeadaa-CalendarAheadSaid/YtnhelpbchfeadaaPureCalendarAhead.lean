/- CalendarAhead (P18.4): of any base, burst and round (cut to their ranges) the ticks of a round that are bursts are just the last ones, as many as the burst is long; and the round's end is a sync point. Conditions: none. -/
import Derived.Test.YtnhelpbchfeadaaCalCalendarAhead
namespace Go.Proofs.Ytnhelpbchfeadaa.Pure
open Go.RowKit Go.Proofs.Ytnhelpbchfeadaa.QCalendarAhead Go.Proofs.YtnhelpbchfeadaaW.PrintWords Go.Proofs.YtnhelpbchfeadaaW.PrintLast Go.Proofs.YtnhelpbchfeadaaW.PrintMore Go.Proofs.Ytnhelpbchfeadaa.Kit Go.Proofs.Ytnhelpbchfeadaa.Er Go.Proofs.Ytnhelpbchfeadaa.CalCalendarAhead

theorem burst_is {b c t : Int} (h1 : 2 ≤ b) (h2 : b ≤ 4096) (h3 : 1 ≤ c) (h4 : c < b) (h5 : 0 ≤ t) (h6 : t < 1099511627776) : calendar_Burst.f b c t = some (decide (t % b ≥ b - c), none) := by
  have hw : calendar_why.f b c t = some 0 := by
    unfold calendar_why.f
    refine bindE (bad_no h1 h2 h5 h6) ?_
    rw [if_neg (by simp), if_neg (by omega), if_neg (by omega)]
  unfold calendar_Burst.f
  refine bindE hw ?_
  rw [if_pos rfl, if_neg (by omega), tmod_pos h5, w64 (by omega)]
theorem at_tick {b i r : Int} (h1 : 2 ≤ b) (h2 : b ≤ 101) (_ : 0 ≤ i) (_ : i ≤ b) (h5 : 0 ≤ r) (h6 : r < 1000000) : 0 ≤ r * b ∧ r * b ≤ 101000000 := by
  have e1 : r * b ≤ 1000000 * 101 := Int.mul_le_mul (by omega) h2 (by omega) (by omega)
  exact ⟨Int.mul_nonneg h5 (by omega), by omega⟩
theorem loop (b c r : Int) (h1 : 2 ≤ b) (h2 : b ≤ 101) (h3 : 1 ≤ c) (h4 : c < b) (h5 : 0 ≤ r) (h6 : r < 1000000) (d : Nat) : ∀ i : Int, 0 ≤ i → i ≤ b → b - i = d → Ev (fun k => geyserlaw18_CalendarAhead.l0 k b c r i) true := by
  induction d with
  | zero =>
    intro i hi1 hi2 hd
    obtain ⟨q1, q2⟩ := at_tick (i := 0) (r := r) h1 h2 (by omega) (by omega) h5 h6
    have hm : (r + 1) * b = r * b + b := by rw [Int.add_mul]; omega
    refine Ev.step (fun k => geyserlaw18_CalendarAhead.l0.eq_2 b c r i k) (EvF (by omega) ?_)
    rw [w64 (n := r + 1) (by omega), hm, w64 (by omega)]
    obtain ⟨v, hv, g1, g2, _⟩ := sync_l0 b 8 (r * b + b) h1 (by omega) (by omega) (by omega) (by omega) 7 0 (by omega) (by omega) (by omega)
    have hs : Ev (fun k => calendar_Sync.l0 k b 8 (r * b + b) (-1)) (v, none) := by
      obtain ⟨e, p1, p2⟩ := shlB (l := 0) h1 (by omega) (by omega) (by omega)
      refine Ev.step (fun k => calendar_Sync.l0.eq_2 b 8 (r * b + b) (-1) k) ?_
      rw [show wrap64 (-1 + 1) = 0 from by rw [w64 (by omega)]; rfl, show wrap64 (8 - 1) = 7 from by rw [w64 (by omega)]; rfl, e]
      refine EvT (by omega) (EvT (by omega) (EvT (by omega) (EvF (by omega) (EvT ?_ hv))))
      rw [tmod_pos (by omega), show (0 : Int).toNat = 0 from rfl, Int.pow_zero, Int.mul_one, Int.add_emod_right, Int.mul_emod_left]
    refine Ev.bind (sync_f h1 (by omega) (by omega) (by omega) (by omega) (by omega) hs) (EvT rfl (EvT g1 ?_))
    exact Ev.bind awake_ev (Ev.now true)
  | succ d ih =>
    intro i hi1 hi2 hd
    obtain ⟨q1, q2⟩ := at_tick (i := i) (r := r) h1 h2 hi1 hi2 h5 h6
    refine Ev.step (fun k => geyserlaw18_CalendarAhead.l0.eq_2 b c r i k) (EvT (by omega) ?_)
    rw [w64 (n := r * b) (by omega), w64 (n := r * b + i) (by omega), w64 (n := i + 1) (by omega), w64 (n := b - c) (by omega)]
    have hb := burst_is (b := b) (c := c) (t := r * b + i) h1 (by omega) h3 h4 (by omega) (by omega)
    have hi : (r * b + i) % b = i := by rw [Int.add_comm, Int.add_mul_emod_self_right, Int.emod_eq_of_lt hi1 (by omega)]
    rw [hi] at hb
    exact EvC hb (EvT rfl (EvF (by simp) (ih (i + 1) (by omega) (by omega) (by omega))))
theorem CalendarAhead : geyserlaw18_CalendarAhead.Pure := by
  intro a0 a1 a2 _ _ _
  obtain ⟨q, hq, q0, q1⟩ := utm a0 100 (by omega) (by omega)
  have e1 : wrap64 (2 + q) = 2 + q := w64 (by omega)
  have e2 : IntKind.u64.wrap (wrap64 (2 + q - 1)) = q + 1 := by rw [w64 (by omega), u64w (by omega)]; omega
  obtain ⟨s, hs, s0, s1⟩ := utm a1 (q + 1) (by omega) (by omega)
  obtain ⟨r, hr, r0, r1⟩ := utm a2 1000000 (by omega) (by omega)
  have e3 : wrap64 (1 + s) = 1 + s := w64 (by omega)
  refine Ev.rounds ?_
  unfold geyserlaw18_CalendarAhead.f
  rw [hq, e1, e2, hs, hr, e3]
  exact EvF (by omega) (loop (2 + q) (1 + s) r (by omega) (by omega) (by omega) (by omega) r0 r1 (2 + q).toNat 0 (by omega) (by omega) (by omega))
end Go.Proofs.Ytnhelpbchfeadaa.Pure
