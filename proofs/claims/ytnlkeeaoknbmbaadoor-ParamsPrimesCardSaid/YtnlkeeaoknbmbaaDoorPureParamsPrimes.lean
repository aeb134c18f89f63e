/- ParamsPrimes (P8.1): of any number, params.IsPrime and params.Prime answer as the reference does, or ErrRange just above 65521. Conditions: none. -/
import Derived.Test.YtnlkeeaoknbmbaaDoorParParamsPrimes
import Derived.Test.YtnlkeeaoknbmbaaDoorTells08
namespace Go.Proofs.YtnlkeeaoknbmbaaDoor.Pure
open Go.RowKit Go.Proofs.YtnlkeeaoknbmbaaDoor.QParamsPrimes Go.Proofs.YtnlkeeaoknbmbaaDoorW.PrintWords Go.Proofs.YtnlkeeaoknbmbaaDoorW.PrintLast Go.Proofs.YtnlkeeaoknbmbaaDoorW.PrintMore Go.Proofs.YtnlkeeaoknbmbaaDoor.Kit Go.Proofs.YtnlkeeaoknbmbaaDoor.Er Go.Proofs.YtnlkeeaoknbmbaaDoor.ParParamsPrimes Go.Proofs.YtnlkeeaoknbmbaaDoor.Tells

theorem tells_one (w : ByteArray) : tells.f (some ([w], 1)) 1 w = some true := by
  unfold tells.f
  rw [if_neg (by decide)]
  simp
theorem ref_no (n e : Int) (h1 : e ≤ 256) (h2 : e < n) (h3 : n % e = 0) (d : Nat) : ∀ i : Int, 2 ≤ i → i + d = e → Ev (fun k => geyserref08_IsPrime.l0 k n i) false := by
  induction d with
  | zero =>
    intro i h4 h5
    obtain rfl : i = e := by omega
    refine Ev.step (fun k => geyserref08_IsPrime.l0.eq_2 n i k) (EvT h1 ?_)
    rw [decide_eq_true h2]
    exact Ev.step (fun k => geyserref08_IsPrime.j2.eq_2 n i true k) (EvT rfl (EvF (by omega) (EvT (by rw [tmod_pos (by omega)]; exact h3) (EvK rfl))))
  | succ d ih =>
    intro i h4 h5
    refine Ev.step (fun k => geyserref08_IsPrime.l0.eq_2 n i k) (EvT (by omega) ?_)
    rw [decide_eq_true (by omega)]
    refine Ev.step (fun k => geyserref08_IsPrime.j2.eq_2 n i true k) (EvT rfl (EvF (by omega) ?_))
    by_cases hd : Int.tmod n i = 0
    · exact EvT hd (EvK rfl)
    · refine EvF hd ?_
      rw [w64 (by omega)]
      exact ih (i + 1) (by omega) (by omega)
theorem ref_yes (n : Int) (h0 : 0 ≤ n) (h : ∀ e, 2 ≤ e → e < n → n % e ≠ 0) (d : Nat) : ∀ i : Int, 2 ≤ i → i + d = 257 → Ev (fun k => geyserref08_IsPrime.l0 k n i) true := by
  induction d with
  | zero =>
    intro i h4 h5
    refine Ev.step (fun k => geyserref08_IsPrime.l0.eq_2 n i k) (EvF (by omega) ?_)
    exact Ev.step (fun k => geyserref08_IsPrime.j2.eq_2 n i false k) (EvF (by decide) (EvK rfl))
  | succ d ih =>
    intro i h4 h5
    refine Ev.step (fun k => geyserref08_IsPrime.l0.eq_2 n i k) (EvT (by omega) ?_)
    by_cases hi : i < n
    · rw [decide_eq_true hi]
      refine Ev.step (fun k => geyserref08_IsPrime.j2.eq_2 n i true k) (EvT rfl (EvF (by omega) (EvF ?_ ?_)))
      · rw [tmod_pos h0]
        exact h i h4 hi
      · rw [w64 (by omega)]
        exact ih (i + 1) (by omega) (by omega)
    · rw [decide_eq_false hi]
      exact Ev.step (fun k => geyserref08_IsPrime.j2.eq_2 n i false k) (EvF (by decide) (EvK rfl))
theorem refP_yes {n : Int} (h : P n) : Ev (fun k => geyserref08_IsPrime.f k n) true := by
  obtain ⟨h1, h2, h3⟩ := h
  unfold geyserref08_IsPrime.f
  refine EvF (by omega) ?_
  rw [decide_eq_false (by omega)]
  exact Ev.step (fun k => geyserref08_IsPrime.j0.eq_2 n false k) (EvF (by decide) (ref_yes n (by omega) h3 255 2 (by omega) (by omega)))
theorem refP_no {n : Int} (h : ¬ P n) : Ev (fun k => geyserref08_IsPrime.f k n) false := by
  have hj : Ev (fun k => geyserref08_IsPrime.j0 k n true) false := Ev.step (fun k => geyserref08_IsPrime.j0.eq_2 n true k) (EvT rfl (EvK rfl))
  unfold geyserref08_IsPrime.f
  by_cases h1 : n < 2
  · exact EvT h1 hj
  refine EvF h1 ?_
  by_cases h2 : n > 65536
  · rw [decide_eq_true h2]
    exact hj
  rw [decide_eq_false h2]
  have hd : ∃ d, 2 ≤ d ∧ d < n ∧ n % d = 0 := by
    apply Classical.byContradiction
    intro hn
    exact h ⟨by omega, by omega, fun d g1 g2 g3 => hn ⟨d, g1, g2, g3⟩⟩
  obtain ⟨d, g1, g2, g3⟩ := hd
  obtain ⟨e, f1, f2, f3, f4⟩ := cofactor g1 g2 g3
  exact Ev.step (fun k => geyserref08_IsPrime.j0.eq_2 n false k) (EvF (by decide) (ref_no n e (sq_le (by omega) f4 (by omega)) f2 f3 (e - 2).toNat 2 (by omega) (by omega)))
theorem ref_prime (q : Int) (hq : P q) (hq2 : q ≤ 65521) (d : Nat) : ∀ p : Int, 0 ≤ p → p + d = q → (∀ i, p ≤ i → i < q → ¬ P i) → Ev (fun k => geyserref08_Prime.l0 k p) q := by
  induction d with
  | zero =>
    intro p _ hp _
    obtain rfl : p = q := by omega
    refine Ev.step (fun k => geyserref08_Prime.l0.eq_2 p k) ?_
    by_cases h : p < 65521
    · exact EvT h (Ev.bind (refP_yes hq) (EvT rfl (Ev.now p)))
    · exact EvF h (EvK rfl)
  | succ d ih =>
    intro p h0 hp hn
    refine Ev.step (fun k => geyserref08_Prime.l0.eq_2 p k) (EvT (by omega) (Ev.bind (refP_no (hn p (by omega) (by omega))) (EvF (by decide) ?_)))
    rw [w64 (by omega)]
    exact ih (p + 1) (by omega) (by omega) fun i h1 h2 => hn i (by omega) h2
theorem ParamsPrimes : geyserlaw08_ParamsPrimes.Pure := by
  intro n _
  refine Ev.rounds ?_
  unfold geyserlaw08_ParamsPrimes.f
  have hb : ∃ r, IsPrime.f n = some r ∧ Ev (fun k => geyserref08_IsPrime.f k n) r := by
    by_cases h : P n
    · exact ⟨true, isPrime_yes h, refP_yes h⟩
    · exact ⟨false, isPrime_no h, refP_no h⟩
  obtain ⟨r, e1, e2⟩ := hb
  by_cases h : n ≤ 65521
  · obtain ⟨q, e, h1, h2, h3, h4, h5⟩ := prime_ok h
    refine Ev.bind e (EvC e1 (Ev.bind e2 (EvF (by cases r <;> decide) (EvF (by omega) (EvT rfl ?_)))))
    have hr : Ev (fun k => geyserref08_Prime.f k n) q := by
      unfold geyserref08_Prime.f
      obtain ⟨m, hm⟩ : ∃ m, mx n 2 = m := ⟨_, rfl⟩
      have hm1 : 2 ≤ m ∧ n ≤ m ∧ (m = 2 ∨ m = n) := by
        rw [← hm]
        unfold mx
        split <;> omega
      rw [hm]
      exact ref_prime q h4 h3 (q - m).toNat m (by omega) (by omega) fun i h6 h7 => h5 i (by omega) h7
    exact Ev.bind hr (EvT rfl (Ev.bind awake_ev (Ev.now true)))
  · refine Ev.bind (prime_bad (by omega)) (EvC e1 (Ev.bind e2 (EvF (by cases r <;> decide) (EvT (by omega) (EvC (tells_one _) (EvT rfl (EvT rfl (Ev.bind awake_ev (Ev.now true)))))))))
end Go.Proofs.YtnlkeeaoknbmbaaDoor.Pure
