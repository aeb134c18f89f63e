/- PLAIN LAWS of the numbers that layer 6 mixes: folds of 32 bits and their inverses, products by odd numbers and their inverses. No program in sight. -/
import Derived.Laws.BitsAllLaws
import Derived.OpenShut
namespace Go.Proofs.YtakhbcmhfgjocaaDoor.MixM
def fold (n s : Nat) : Nat := n ^^^ n / 2 ^ s
theorem fold_lt {n s : Nat} (h : n < 2 ^ 32) : fold n s < 2 ^ 32 := by
  unfold fold
  exact Nat.xor_lt_two_pow h (Nat.lt_of_le_of_lt (Nat.div_le_self _ _) h)
theorem testBit_fold (n s i : Nat) : (fold n s).testBit i = (n.testBit i ^^ n.testBit (i + s)) := by
  unfold fold
  rw [← Nat.shiftRight_eq_div_pow, Nat.testBit_xor, Nat.testBit_shiftRight, Nat.add_comm s i]
theorem high {n i : Nat} (h : n < 2 ^ 32) (hi : 32 ≤ i) : n.testBit i = false :=
  Nat.testBit_lt_two_pow (Nat.lt_of_lt_of_le h (Nat.pow_le_pow_right (by omega) hi))
theorem fold16_fold16 {n : Nat} (h : n < 2 ^ 32) : fold (fold n 16) 16 = n := by
  apply Nat.eq_of_testBit_eq; intro i
  simp only [testBit_fold]
  rw [high h (i := i + 16 + 16) (by omega)]
  cases n.testBit i <;> cases n.testBit (i + 16) <;> rfl
def unfold13 (n : Nat) : Nat := n ^^^ (n / 2 ^ 13 ^^^ n / 2 ^ 26)
theorem testBit_unfold13 (n i : Nat) : (unfold13 n).testBit i = (n.testBit i ^^ (n.testBit (i + 13) ^^ n.testBit (i + 26))) := by
  unfold unfold13
  rw [← Nat.shiftRight_eq_div_pow, ← Nat.shiftRight_eq_div_pow, Nat.testBit_xor, Nat.testBit_xor, Nat.testBit_shiftRight, Nat.testBit_shiftRight, Nat.add_comm 13 i, Nat.add_comm 26 i]
theorem unfold13_lt {n : Nat} (h : n < 2 ^ 32) : unfold13 n < 2 ^ 32 :=
  Nat.xor_lt_two_pow h (Nat.xor_lt_two_pow (Nat.lt_of_le_of_lt (Nat.div_le_self _ _) h) (Nat.lt_of_le_of_lt (Nat.div_le_self _ _) h))
theorem unfold13_fold {n : Nat} (h : n < 2 ^ 32) : unfold13 (fold n 13) = n := by
  apply Nat.eq_of_testBit_eq; intro i
  simp only [testBit_fold, testBit_unfold13]
  rw [show i + 26 = i + 13 + 13 from by omega, high h (i := i + 13 + 13 + 13) (by omega)]
  cases n.testBit i <;> cases n.testBit (i + 13) <;> cases n.testBit (i + 13 + 13) <;> rfl
theorem fold_unfold13 {n : Nat} (h : n < 2 ^ 32) : fold (unfold13 n) 13 = n := by
  apply Nat.eq_of_testBit_eq; intro i
  simp only [testBit_fold, testBit_unfold13]
  rw [show i + 26 = i + 13 + 13 from by omega, show i + 13 + 26 = i + 13 + 13 + 13 from by omega, high h (i := i + 13 + 13 + 13) (by omega)]
  cases n.testBit i <;> cases n.testBit (i + 13) <;> cases n.testBit (i + 13 + 13) <;> rfl
theorem mul_inv {a b n : Nat} (hab : a * b % 4294967296 = 1) (h : n < 4294967296) : (n * a % 4294967296) * b % 4294967296 = n := by
  rw [Nat.mod_mul_mod, Nat.mul_assoc, Nat.mul_mod, hab, Nat.mul_one, Nat.mod_mod, Nat.mod_eq_of_lt h]

def nmix (x s : Nat) : Nat := fold (fold (fold ((x * 2654435761 % 4294967296 + s) % 4294967296) 16 * 2246822507 % 4294967296) 13 * 3266489909 % 4294967296) 16
def nunmix (h s : Nat) : Nat := ((fold (unfold13 (fold h 16 * 2127672349 % 4294967296) * 2781581891 % 4294967296) 16 + 4294967296 - s) % 4294967296) * 244002641 % 4294967296
theorem m32 (n : Nat) : n % 4294967296 < 2 ^ 32 := Nat.mod_lt _ (by omega)
theorem nmix_lt (x s : Nat) : nmix x s < 4294967296 := fold_lt (m32 _)
theorem nunmix_lt (h s : Nat) : nunmix h s < 4294967296 := m32 _
theorem nunmix_nmix {x s : Nat} (hx : x < 4294967296) (hs : s < 4294967296) : nunmix (nmix x s) s = x := by
  unfold nunmix nmix
  rw [fold16_fold16 (m32 _), mul_inv (by decide) (fold_lt (m32 _)), unfold13_fold (m32 _), mul_inv (by decide) (fold_lt (m32 _)), fold16_fold16 (m32 _)]
  have e : ((x * 2654435761 % 4294967296 + s) % 4294967296 + 4294967296 - s) % 4294967296 = x * 2654435761 % 4294967296 := by omega
  rw [e, mul_inv (by decide) hx]
theorem nmix_nunmix {h s : Nat} (hh : h < 4294967296) (hs : s < 4294967296) : nmix (nunmix h s) s = h := by
  unfold nmix nunmix
  rw [mul_inv (by decide) (m32 _)]
  have e : ∀ g : Nat, g < 4294967296 → ((g + 4294967296 - s) % 4294967296 + s) % 4294967296 = g := by intro g hg; omega
  rw [e _ (fold_lt (m32 _)), fold16_fold16 (m32 _), mul_inv (by decide) (unfold13_lt (m32 _)), fold_unfold13 (m32 _), mul_inv (by decide) (fold_lt hh), fold16_fold16 hh]
theorem nmix_inj {x y s : Nat} (hx : x < 4294967296) (hy : y < 4294967296) (hs : s < 4294967296) (h : nmix x s = nmix y s) : x = y := by
  rw [← nunmix_nmix hx hs, h, nunmix_nmix hy hs]
theorem xs16 {n : Nat} (h : n < 2 ^ 32) : Go.bits .xor .u32 (n : Int) ((n : Int) / 65536) = ((fold n 16 : Nat) : Int) := by
  rw [show ((n : Int) / 65536) = ((n / 65536 : Nat) : Int) from by omega, u32_xor_nat _ _ h (by omega)]; rfl
theorem xs13 {n : Nat} (h : n < 2 ^ 32) : Go.bits .xor .u32 (n : Int) ((n : Int) / 8192) = ((fold n 13 : Nat) : Int) := by
  rw [show ((n : Int) / 8192) = ((n / 8192 : Nat) : Int) from by omega, u32_xor_nat _ _ h (by omega)]; rfl
theorem un13 {n : Nat} (h : n < 2 ^ 32) : Go.bits .xor .u32 (n : Int) (Go.bits .xor .u32 ((n : Int) / 8192) ((n : Int) / 67108864)) = ((unfold13 n : Nat) : Int) := by
  rw [show ((n : Int) / 8192) = ((n / 8192 : Nat) : Int) from by omega, show ((n : Int) / 67108864) = ((n / 67108864 : Nat) : Int) from by omega, u32_xor_nat (n / 8192) (n / 67108864) (by omega) (by omega),
    u32_xor_nat _ _ h (Nat.xor_lt_two_pow (n := 32) (by omega) (by omega))]; rfl
theorem nat_of_u32 {a : Int} (h : (Lit.int .u32 a).wf = true) : ∃ n : Nat, a = (n : Int) ∧ n < 4294967296 := by
  have := bounds_u32 h; exact ⟨a.toNat, by omega, by omega⟩
theorem mul32 (n c : Nat) : ((n : Int) * (c : Int)) % 4294967296 = ((n * c % 4294967296 : Nat) : Int) := by simp
end Go.Proofs.YtakhbcmhfgjocaaDoor.MixM
