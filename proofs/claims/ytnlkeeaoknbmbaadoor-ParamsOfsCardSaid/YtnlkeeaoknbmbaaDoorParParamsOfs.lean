/- What params' functions answer, for ParamsOfs: the primes, the least prime from a number on, the triangle of the ways to choose. No memory in sight. -/
import Derived.Test.YtnlkeeaoknbmbaaDoorQParamsOfsx
import Derived.Test.YtnlkeeaoknbmbaaDoorKit
namespace Go.Proofs.YtnlkeeaoknbmbaaDoor.ParParamsOfs
open Go.RowKit Go.Proofs.YtnlkeeaoknbmbaaDoor.QParamsOfs Go.Proofs.YtnlkeeaoknbmbaaDoorW.PrintWords Go.Proofs.YtnlkeeaoknbmbaaDoorW.PrintLast Go.Proofs.YtnlkeeaoknbmbaaDoorW.PrintMore Go.Proofs.YtnlkeeaoknbmbaaDoor.Kit Go.Proofs.YtnlkeeaoknbmbaaDoor.Er

theorem awake_ev : Ev (fun k => geyserlaw08_awake.f k) true := Ev.of geyserlaw08_awake.mono (show geyserlaw08_awake.f 200 = some true by decide +kernel)

/-- A number that the program tells for a prime. -/
def P (n : Int) : Prop := 2 ≤ n ∧ n ≤ 65536 ∧ ∀ d : Int, 2 ≤ d → d < n → n % d ≠ 0
theorem go_iff (n : Int) (h0 : 0 ≤ n) : ∀ (k : Nat) (d : Int), 2 ≤ d → (IsPrime.go k d n = true ↔ ∀ e : Int, d ≤ e → e < d + k → e * e ≤ n → n % e ≠ 0)
  | 0, d, _ => by simp only [IsPrime.go, true_iff]; intro e h1 h2; omega
  | k + 1, d, hd => by
    unfold IsPrime.go
    by_cases h1 : d * d > n
    · rw [if_pos h1]
      simp only [true_iff]
      intro e h2 _ h3
      have : d * d ≤ e * e := Int.mul_le_mul h2 h2 (by omega) (by omega)
      omega
    · rw [if_neg h1, tmod_pos h0]
      by_cases h2 : n % d = 0
      · rw [if_pos h2]
        simp only [Bool.false_eq_true, false_iff]
        intro h
        exact h d (Int.le_refl _) (by omega) (by omega) h2
      · rw [if_neg h2, go_iff n h0 k (d + 1) (by omega)]
        constructor
        · intro h e h3 h4 h5
          by_cases he : e = d
          · subst he; exact h2
          · exact h e (by omega) (by omega) h5
        · intro h e h3 h4 h5
          exact h e (by omega) (by omega) h5
/-- Of two numbers whose product is n the less one's square is at most n. -/
theorem cofactor {n d : Int} (h1 : 2 ≤ d) (h2 : d < n) (h3 : n % d = 0) : ∃ e, 2 ≤ e ∧ e < n ∧ n % e = 0 ∧ e * e ≤ n := by
  obtain ⟨c, rfl⟩ := Int.dvd_of_emod_eq_zero h3
  have hc : 2 ≤ c := by
    rcases (show c < 2 ∨ 2 ≤ c by omega) with h | h
    · exfalso
      rcases (show c < 1 ∨ 1 ≤ c by omega) with h' | h'
      · have : d * c ≤ 0 := Int.mul_nonpos_of_nonneg_of_nonpos (by omega) (by omega)
        omega
      · obtain rfl : c = 1 := by omega
        omega
    · exact h
  rcases (show d ≤ c ∨ c ≤ d by omega) with h | h
  · refine ⟨d, h1, h2, h3, ?_⟩
    exact Int.mul_le_mul_of_nonneg_left h (by omega)
  · refine ⟨c, hc, ?_, Int.mul_emod_left _ _, ?_⟩
    · have : 2 * c ≤ d * c := Int.mul_le_mul_of_nonneg_right h1 (by omega)
      omega
    · exact Int.mul_le_mul_of_nonneg_right h (by omega)
theorem sq_le {e n : Int} (h0 : 0 ≤ e) (h : e * e ≤ n) (hn : n ≤ 65536) : e ≤ 256 := by
  rcases (show 256 < e ∨ e ≤ 256 by omega) with h' | h'
  · have : 257 * 257 ≤ e * e := Int.mul_le_mul (by omega) (by omega) (by omega) (by omega)
    omega
  · exact h'
theorem isPrime (n : Int) : ∃ r, IsPrime.f n = some r ∧ (r = true ↔ P n) := by
  unfold IsPrime.f
  by_cases h1 : n < 2
  · exact ⟨false, if_pos h1, by simp [P]; omega⟩
  by_cases h2 : n > 65536
  · refine ⟨false, by rw [if_neg h1, if_pos h2], ?_⟩
    simp only [Bool.false_eq_true, false_iff]
    intro h
    have := h.2.1
    omega
  refine ⟨_, by rw [if_neg h1, if_neg h2], ?_⟩
  rw [go_iff n (by omega) 257 2 (by omega)]
  constructor
  · intro h
    refine ⟨by omega, by omega, fun d h3 h4 h5 => ?_⟩
    obtain ⟨e, g1, g2, g3, g4⟩ := cofactor h3 h4 h5
    have := sq_le (by omega) g4 (by omega)
    exact h e g1 (by omega) g4 g3
  · intro h e h3 h4 h5
    refine h.2.2 e h3 ?_
    have : 2 * e ≤ e * e := Int.mul_le_mul_of_nonneg_right h3 (by omega)
    omega
theorem isPrime_yes {n : Int} (h : P n) : IsPrime.f n = some true := by
  obtain ⟨r, h1, h2⟩ := isPrime n
  rw [h1, h2.2 h]
theorem isPrime_no {n : Int} (h : ¬ P n) : IsPrime.f n = some false := by
  obtain ⟨r, h1, h2⟩ := isPrime n
  rw [h1]
  cases r with
  | true => exact absurd (h2.1 rfl) h
  | false => rfl
theorem P_last : P 65521 := by
  obtain ⟨r, h1, h2⟩ := isPrime 65521
  rw [show IsPrime.f 65521 = some true by decide +kernel] at h1
  exact h2.1 (Option.some.inj h1).symm
theorem least (d : Nat) : ∀ p : Int, p + d = 65521 → ∃ q, p ≤ q ∧ q ≤ 65521 ∧ P q ∧ ∀ i, p ≤ i → i < q → ¬ P i := by
  induction d with
  | zero =>
    intro p hp
    obtain rfl : p = 65521 := by omega
    exact ⟨65521, by omega, by omega, P_last, fun i h1 h2 => by omega⟩
  | succ d ih =>
    intro p hp
    by_cases h : P p
    · exact ⟨p, by omega, by omega, h, fun i h1 h2 => by omega⟩
    · obtain ⟨q, h1, h2, h3, h4⟩ := ih (p + 1) (by omega)
      refine ⟨q, by omega, h2, h3, fun i h5 h6 => ?_⟩
      by_cases hi : i = p
      · subst hi; exact h
      · exact h4 i (by omega) h6
theorem prime_l0 (q : Int) (hq : P q) (d : Nat) : ∀ p : Int, p + d = q → 0 ≤ p → (∀ i, p ≤ i → i < q → ¬ P i) → Ev (fun k => params_Prime.l0 k p) (q, none) := by
  induction d with
  | zero =>
    intro p hp _ _
    obtain rfl : p = q := by omega
    exact Ev.step (fun k => params_Prime.l0.eq_2 p k) (EvC (isPrime_yes hq) (EvT rfl (EvK rfl)))
  | succ d ih =>
    intro p hp h0 hn
    refine Ev.step (fun k => params_Prime.l0.eq_2 p k) (EvC (isPrime_no (hn p (by omega) (by omega))) (EvF (by decide) ?_))
    have := hq.2.1
    rw [w64 (by omega)]
    exact ih (p + 1) (by omega) (by omega) fun i h1 h2 => hn i (by omega) h2
theorem prime_ok {n : Int} (h : n ≤ 65521) : ∃ q, Ev (fun k => params_Prime.f k n) (q, none) ∧ 2 ≤ q ∧ n ≤ q ∧ q ≤ 65521 ∧ P q ∧ ∀ i, n ≤ i → i < q → ¬ P i := by
  obtain ⟨m, hm⟩ : ∃ m, mx n 2 = m := ⟨_, rfl⟩
  have hm1 : 2 ≤ m ∧ n ≤ m ∧ m ≤ 65521 ∧ (m = 2 ∨ m = n) := by
    rw [← hm]
    unfold mx
    split <;> omega
  obtain ⟨q, h1, h2, h3, h4⟩ := least (65521 - m).toNat m (by omega)
  refine ⟨q, ?_, by omega, by omega, h2, h3, fun i h5 h6 h7 => ?_⟩
  · unfold params_Prime.f
    rw [hm]
    exact EvF (by omega) (prime_l0 q h3 (q - m).toNat m (by omega) (by omega) h4)
  · have := h7.1
    exact h4 i (by omega) h6 h7
def primeW : ByteArray := ⟨#[112, 97, 114, 97, 109, 115, 46, 80, 114, 105, 109, 101]⟩
theorem prime_bad {n : Int} (h : n > 65521) : Ev (fun k => params_Prime.f k n) (0, some ([primeW], 1)) := by
  unfold params_Prime.f
  exact EvT h (EvC rfl (EvK rfl))

/-! ### the triangle -/
theorem R_first : ∀ m, Choose.R m 0 = 1
  | 0 => rfl
  | m + 1 => by rw [Choose.R_succ m 0 (by omega), if_pos rfl]; exact R_first m
theorem R_sym : ∀ (n j : Nat), j ≤ n → Choose.R n j = Choose.R n (n - j)
  | 0, j, h => by obtain rfl : j = 0 := by omega
                  rfl
  | n + 1, j, h => by
    have e1 : Choose.R n n = 1 := by rw [R_sym n n (Nat.le_refl _), Nat.sub_self]; exact R_first n
    have e2 : Choose.R (n + 1) (n + 1) = 1 := by
      rw [Choose.R_succ n (n + 1) (Nat.le_refl _), if_neg (by omega), Choose.R_out n (n + 1) (by omega), show n + 1 - 1 = n from rfl, e1]
      exact w64 (by omega)
    by_cases h0 : j = 0
    · subst h0
      rw [R_first, Nat.sub_zero, e2]
    by_cases h1 : j = n + 1
    · subst h1
      rw [e2, Nat.sub_self, R_first]
    rw [Choose.R_succ n j (by omega), if_neg h0, Choose.R_succ n (n + 1 - j) (by omega), if_neg (by omega), R_sym n j (by omega), R_sym n (j - 1) (by omega), Int.add_comm,
      show n - (j - 1) = n + 1 - j by omega, show n + 1 - j - 1 = n - j by omega]
theorem choose_ok (n k : Nat) (hn : n ≤ 60) (hk : k ≤ n) : Choose.f (n : Int) (k : Int) = some (Choose.R n k, none) := by
  unfold Choose.f
  rw [if_neg (by omega), if_neg (by omega), if_neg (by omega), if_neg (by omega)]
  simp
theorem choose_out (n k : Int) (h0 : 0 ≤ n) (hn : n ≤ 60) (hk : k < 0 ∨ k > n) : Choose.f n k = some (0, none) := by
  unfold Choose.f
  rw [if_neg (by omega), if_neg (by omega)]
  by_cases h : k < 0
  · rw [if_pos h]
  · rw [if_neg h, if_pos (by omega)]
end Go.Proofs.YtnlkeeaoknbmbaaDoor.ParParamsOfs
