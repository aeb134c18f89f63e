/- PLAIN LAWS of layer 15's sum: a register of 32 bits, stepped bit by bit; a step is linear, and injective below 2^32; a row's bytes, one after another, are one long number; what a turned bit does to it. No program in sight. -/
import Derived.Laws.BitsAllLaws
import Derived.OpenShut
namespace Go.Proofs.YtfcofokbhhnfkaaDoor.CrcM
def P : Nat := 2197175160
def Z (s : Nat) : Nat := s / 2 ^^^ s % 2 * P
theorem bit_mul (b : Nat) (hb : b = 0 ∨ b = 1) (c : Nat) (i : Nat) : (b * c).testBit i = (decide (b = 1) && c.testBit i) := by
  rcases hb with rfl | rfl <;> simp
theorem mod2 (n : Nat) : n % 2 = 0 ∨ n % 2 = 1 := by omega
theorem testBit_Z (s i : Nat) : (Z s).testBit i = (s.testBit (i + 1) ^^ (s.testBit 0 && P.testBit i)) := by
  unfold Z
  rw [Nat.testBit_xor, bit_mul _ (mod2 s), Nat.testBit_succ, Nat.testBit_zero]
theorem Z_xor (a b : Nat) : Z (a ^^^ b) = Z a ^^^ Z b := by
  apply Nat.eq_of_testBit_eq; intro i
  simp only [testBit_Z, Nat.testBit_xor]
  cases a.testBit (i + 1) <;> cases b.testBit (i + 1) <;> cases a.testBit 0 <;> cases b.testBit 0 <;> cases P.testBit i <;> rfl
theorem Z_two (x : Nat) : Z (2 * x) = x := by
  unfold Z
  rw [show 2 * x / 2 = x by omega, show 2 * x % 2 = 0 by omega]; simp
theorem Z_zero : Z 0 = 0 := by decide
theorem Z_lt {s : Nat} (h : s < 4294967296) : Z s < 4294967296 := by
  unfold Z
  refine Nat.xor_lt_two_pow (n := 32) (by omega) ?_
  rcases mod2 s with e | e <;> rw [e] <;> decide
theorem Z_ne {s : Nat} (h : s < 4294967296) (h0 : s ≠ 0) : Z s ≠ 0 := by
  intro e
  have t : ∀ i, (Z s).testBit i = false := fun i => by rw [e]; exact Nat.zero_testBit i
  have t31 := t 31
  rw [testBit_Z, show s.testBit (31 + 1) = false from Nat.testBit_lt_two_pow h, show P.testBit 31 = true by decide] at t31
  have b0 : s.testBit 0 = false := by simpa using t31
  have e0 : s % 2 = 0 := by rw [Nat.testBit_zero] at b0; simpa using b0
  unfold Z at e
  rw [e0] at e
  simp at e
  omega
def Zk : Nat → Nat → Nat
  | 0, s => s
  | k + 1, s => Zk k (Z s)
theorem Zk_xor : ∀ (k a b : Nat), Zk k (a ^^^ b) = Zk k a ^^^ Zk k b
  | 0, _, _ => rfl
  | k + 1, a, b => by rw [Zk, Z_xor, Zk_xor k]; rfl
theorem Zk_lt : ∀ (k : Nat) {s : Nat}, s < 4294967296 → Zk k s < 4294967296
  | 0, _, h => h
  | k + 1, _, h => Zk_lt k (Z_lt h)
theorem Zk_ne : ∀ (k : Nat) {s : Nat}, s < 4294967296 → s ≠ 0 → Zk k s ≠ 0
  | 0, _, _, h => h
  | k + 1, _, h, h0 => Zk_ne k (Z_lt h) (Z_ne h h0)
theorem Zk_zero : ∀ k : Nat, Zk k 0 = 0
  | 0 => rfl
  | k + 1 => by rw [Zk, Z_zero]; exact Zk_zero k
theorem Zk_add : ∀ (j k s : Nat), Zk (j + k) s = Zk k (Zk j s)
  | 0, k, s => by rw [Nat.zero_add]; rfl
  | j + 1, k, s => by rw [show j + 1 + k = (j + k) + 1 by omega, Zk, Zk_add j k]; rfl
theorem Zk_pow : ∀ (k x : Nat), Zk k (x * 2 ^ k) = x
  | 0, x => by simp [Zk]
  | k + 1, x => by rw [Zk, show x * 2 ^ (k + 1) = 2 * (x * 2 ^ k) by rw [Nat.pow_succ]; ac_rfl, Z_two]; exact Zk_pow k x

/-! ### bytes -/
def crcB (n b : Nat) : Nat := Zk 8 (n ^^^ b)
def crc (n : Nat) (l : List Nat) : Nat := l.foldl crcB n
theorem crcB_lt {n b : Nat} (h : n < 4294967296) (hb : b < 256) : crcB n b < 4294967296 := Zk_lt 8 (Nat.xor_lt_two_pow (n := 32) h (by omega))
theorem crc_lt : ∀ (l : List Nat) {n : Nat}, n < 4294967296 → (∀ x ∈ l, x < 256) → crc n l < 4294967296
  | [], _, h, _ => h
  | b :: l, _, h, hl => crc_lt l (crcB_lt h (hl b (by simp))) (fun x hx => hl x (by simp [hx]))
theorem crc_app (n : Nat) (a b : List Nat) : crc n (a ++ b) = crc (crc n a) b := List.foldl_append ..
theorem xor_split (w k : Nat) : w = w % 2 ^ k ^^^ w / 2 ^ k * 2 ^ k := by
  apply Nat.eq_of_testBit_eq; intro i
  rw [Nat.testBit_xor, Nat.testBit_mod_two_pow, Nat.testBit_mul_two_pow, Nat.testBit_div_two_pow]
  by_cases h : i < k
  · simp [h, show ¬ k ≤ i by omega]
  · simp [h, show k ≤ i by omega, Nat.sub_add_cancel (show k ≤ i by omega)]
/-- n bytes of a number, the least first. -/
def nbytes : Nat → Nat → List Nat
  | 0, _ => []
  | n + 1, w => w % 256 :: nbytes n (w / 256)
theorem crc_nbytes : ∀ (n s w : Nat), w < 256 ^ n → crc s (nbytes n w) = Zk (8 * n) (s ^^^ w)
  | 0, s, w, h => by
    obtain rfl : w = 0 := by simpa using h
    simp [crc, nbytes, Zk]
  | n + 1, s, w, h => by
    have hd : w / 256 < 256 ^ n := by rw [Nat.div_lt_iff_lt_mul (by decide)]; rw [Nat.pow_succ] at h; exact h
    show crc (crcB s (w % 256)) (nbytes n (w / 256)) = _
    rw [crc_nbytes n _ _ hd, show 8 * (n + 1) = 8 + 8 * n by omega, Zk_add]
    congr 1
    have e := xor_split w 8
    rw [show (2 : Nat) ^ 8 = 256 from rfl] at e
    rw [show s ^^^ w = (s ^^^ w % 256) ^^^ w / 256 * 2 ^ 8 by rw [Nat.xor_assoc]; congr 1, Zk_xor, Zk_pow]
    rfl
theorem crc_lin (l : List Nat) : ∀ (a d : Nat), crc (a ^^^ d) l = crc a l ^^^ Zk (8 * l.length) d := by
  induction l with
  | nil => intro a d; rfl
  | cons b l ih =>
    intro a d
    show crc (crcB (a ^^^ d) b) l = crc (crcB a b) l ^^^ Zk (8 * (l.length + 1)) d
    have e : crcB (a ^^^ d) b = crcB a b ^^^ Zk 8 d := by
      unfold crcB
      rw [show a ^^^ d ^^^ b = (a ^^^ b) ^^^ d by rw [Nat.xor_assoc, Nat.xor_comm d b, ← Nat.xor_assoc], Zk_xor]
    rw [e, ih, show 8 * (l.length + 1) = 8 + 8 * l.length by omega, Zk_add]
/-- What a bit that is turned does to the sum. -/
theorem crc_turn (l : List Nat) : ∀ (s j t : Nat), j < l.length → crc s (l.set j ((l.getD j 0) ^^^ 2 ^ t)) = crc s l ^^^ Zk (8 * (l.length - j)) (2 ^ t) := by
  induction l with
  | nil => intro s j t h; exact absurd h (by simp)
  | cons b l ih =>
    intro s j t h
    cases j with
    | zero =>
      have e : crcB s (b ^^^ 2 ^ t) = crcB s b ^^^ Zk 8 (2 ^ t) := by unfold crcB; rw [← Nat.xor_assoc, Zk_xor]
      have e2 := crc_lin l (crcB s b) (Zk 8 (2 ^ t))
      rw [← e, ← Zk_add] at e2
      rw [show 8 * ((b :: l).length - 0) = 8 + 8 * l.length by rw [List.length_cons]; omega]
      exact e2
    | succ j =>
      have hj : j < l.length := by simpa using h
      have e := ih (crcB s b) j t hj
      rw [show (b :: l).length - (j + 1) = l.length - j by rw [List.length_cons]; omega]
      exact e
theorem crc_turn' (l : List Nat) (s k : Nat) (h : k < 8 * l.length) : crc s (l.set (k / 8) ((l.getD (k / 8) 0) ^^^ 2 ^ (k % 8))) = crc s l ^^^ Zk (8 * l.length) (2 ^ k) := by
  rw [crc_turn l s _ _ (by omega)]
  congr 1
  have e := Zk_add (8 * (k / 8)) (8 * (l.length - k / 8)) (2 ^ k)
  rw [show 8 * (k / 8) + 8 * (l.length - k / 8) = 8 * l.length by omega] at e
  rw [e]
  congr 1
  have e2 := Zk_pow (8 * (k / 8)) (2 ^ (k % 8))
  rw [← Nat.pow_add, show k % 8 + 8 * (k / 8) = k by omega] at e2
  exact e2.symm
def M : Nat := 4294967295
theorem compl {n : Nat} (h : n < 4294967296) : M ^^^ n = M - n := by
  apply Nat.eq_of_testBit_eq; intro i
  rw [show M - n = 2 ^ 32 - (n + 1) by unfold M; omega, Nat.testBit_two_pow_sub_succ h, Nat.testBit_xor, show M = 2 ^ 32 - 1 from rfl, Nat.testBit_two_pow_sub_one]
  by_cases hi : i < 32
  · simp [hi]
  · have : n.testBit i = false := Nat.testBit_lt_two_pow (Nat.lt_of_lt_of_le (show n < 2 ^ 32 from h) (Nat.pow_le_pow_right (by decide) (show 32 ≤ i by omega)))
    simp [hi, this]
def sum (l : List Nat) : Nat := M ^^^ crc M l
def add (l : List Nat) : List Nat := l ++ nbytes 4 (sum l)
theorem sum_lt {l : List Nat} (h : ∀ x ∈ l, x < 256) : sum l < 4294967296 := Nat.xor_lt_two_pow (n := 32) (by decide) (crc_lt l (by decide) h)
theorem crc_add {l : List Nat} (h : ∀ x ∈ l, x < 256) : crc M (add l) = Zk 32 M := by
  unfold add
  rw [crc_app, crc_nbytes 4 _ _ (sum_lt h)]
  unfold sum
  rw [Nat.xor_comm M, ← Nat.xor_assoc, Nat.xor_self, Nat.zero_xor]
/-- THE LAW: a row whose sum was made and in which bits are turned within 32 neighbouring ones, is none whose sum is right. -/
theorem burst {l q b : List Nat} {at_ mask : Nat} (h : ∀ x ∈ l, x < 256) (hb : ∀ x ∈ b, x < 256) (hat : at_ ≤ 8 * (add l).length) (hm : mask < 4294967296) (h0 : mask ≠ 0)
    (hq : crc M q = crc M (add l) ^^^ Zk (8 * (add l).length) (mask * 2 ^ at_)) : q ≠ add b := by
  rintro rfl
  rw [crc_add h, crc_add hb] at hq
  have e : Zk (8 * (add l).length) (mask * 2 ^ at_) = 0 := by
    have e1 := congrArg (fun z => Zk 32 M ^^^ z) hq
    simp only [← Nat.xor_assoc, Nat.xor_self, Nat.zero_xor] at e1
    exact e1.symm
  have e2 := Zk_add at_ (8 * (add l).length - at_) (mask * 2 ^ at_)
  rw [show at_ + (8 * (add l).length - at_) = 8 * (add l).length by omega, Zk_pow] at e2
  rw [e2] at e
  exact Zk_ne _ hm h0 e

/-! ### the reference's way: bit by bit -/
def refB : Nat → Nat → Nat → Nat
  | 0, n, _ => n
  | k + 1, n, b => refB k (if b % 2 ≠ n % 2 then n / 2 ^^^ P else n / 2) (b / 2)
theorem ref_step (n b : Nat) : (if b % 2 ≠ n % 2 then n / 2 ^^^ P else n / 2) ^^^ b / 2 = Z (n ^^^ b) := by
  apply Nat.eq_of_testBit_eq; intro i
  rw [Nat.testBit_xor, testBit_Z, Nat.testBit_xor, Nat.testBit_xor, ← Nat.testBit_succ]
  have hn : n.testBit 0 = decide (n % 2 = 1) := Nat.testBit_zero ..
  have hb : b.testBit 0 = decide (b % 2 = 1) := Nat.testBit_zero ..
  rw [hn, hb]
  rcases mod2 n with e | e <;> rcases mod2 b with f | f <;> rw [e, f] <;> simp [← Nat.testBit_succ] <;>
    cases n.testBit (i + 1) <;> cases b.testBit (i + 1) <;> cases P.testBit i <;> rfl
theorem refB_eq : ∀ (k n b : Nat), refB k n b ^^^ b / 2 ^ k = Zk k (n ^^^ b)
  | 0, n, b => by simp [refB, Zk]
  | k + 1, n, b => by
    rw [refB, Zk, ← ref_step, ← refB_eq k, Nat.div_div_eq_div_mul, show 2 * 2 ^ k = 2 ^ (k + 1) by rw [Nat.pow_succ]; omega]
theorem ref8 {n b : Nat} (hb : b < 256) : refB 8 n b = crcB n b := by
  have e := refB_eq 8 n b
  rw [show b / 2 ^ 8 = 0 by omega, Nat.xor_zero] at e
  exact e
end Go.Proofs.YtfcofokbhhnfkaaDoor.CrcM
