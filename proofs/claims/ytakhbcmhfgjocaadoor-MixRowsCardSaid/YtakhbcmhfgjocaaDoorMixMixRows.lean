/- What the functions of layer 6 and their reference answer, read off their printed forms, for MixRows. No memory in sight. -/
import Derived.Test.YtakhbcmhfgjocaaDoorQMixRowsx
import Derived.Test.YtakhbcmhfgjocaaDoorMixM
import Derived.Test.YtakhbcmhfgjocaaDoorKit
namespace Go.Proofs.YtakhbcmhfgjocaaDoor.MixMixRows
open Go.RowKit Go.Proofs.YtakhbcmhfgjocaaDoor.QMixRows Go.Proofs.YtakhbcmhfgjocaaDoorW.PrintWords Go.Proofs.YtakhbcmhfgjocaaDoorW.PrintLast Go.Proofs.YtakhbcmhfgjocaaDoorW.PrintMore Go.Proofs.YtakhbcmhfgjocaaDoor.MixM Go.Proofs.YtakhbcmhfgjocaaDoor.Kit Go.Proofs.YtakhbcmhfgjocaaDoor.Er

theorem xs16' {A : Int} {n : Nat} (hA : A = (n : Int)) (h : n < 4294967296) : Go.bits .xor .u32 A (A / 65536) = ((fold n 16 : Nat) : Int) := by subst hA; exact xs16 h
theorem xs13' {A : Int} {n : Nat} (hA : A = (n : Int)) (h : n < 4294967296) : Go.bits .xor .u32 A (A / 8192) = ((fold n 13 : Nat) : Int) := by subst hA; exact xs13 h
theorem un13' {A : Int} {n : Nat} (hA : A = (n : Int)) (h : n < 4294967296) : Go.bits .xor .u32 A (Go.bits .xor .u32 (A / 8192) (A / 67108864)) = ((unfold13 n : Nat) : Int) := by subst hA; exact un13 h
theorem mulc {A : Int} {n : Nat} (c : Nat) (hA : A = (n : Int)) : (A * (c : Int)) % 4294967296 = ((n * c % 4294967296 : Nat) : Int) := by subst hA; simp
theorem subc {A : Int} {g s : Nat} (hA : A = (g : Int)) (hs : s < 4294967296) : (A - (s : Int)) % 4294967296 = (((g + 4294967296 - s) % 4294967296 : Nat) : Int) := by subst hA; omega
theorem mix_nat (x s : Nat) : mix_Mix.f (x : Int) (s : Int) = some ((nmix x s : Nat) : Int) :=
  congrArg some (xs16' (mulc 3266489909 (xs13' (mulc 2246822507 (xs16' (n := (x * 2654435761 % 4294967296 + s) % 4294967296) (by omega) (m32 _))) (m32 _))) (m32 _))
theorem inv1 : mix_inverse.f 5 3266489909 = some 2127672349 := by decide +kernel
theorem inv2 : mix_inverse.f 5 2246822507 = some 2781581891 := by decide +kernel
theorem inv3 : mix_inverse.f 5 2654435761 = some 244002641 := by decide +kernel
theorem unmix_nat (h s : Nat) (hh : h < 4294967296) (hs : s < 4294967296) : mix_Unmix.f 5 (h : Int) (s : Int) = some ((nunmix h s : Nat) : Int) := by
  unfold mix_Unmix.f
  rw [inv1, inv2, inv3]
  exact congrArg some (mulc 244002641 (subc (xs16' (mulc 2781581891 (un13' (mulc 2127672349 (xs16' rfl hh)) (m32 _))) (m32 _)) hs))
theorem nmix00 : nmix 0 0 = 0 := by decide +kernel
theorem nmix79 : ∃ m, nmix 7 9 = m + 1 := ⟨nmix 7 9 - 1, by decide +kernel⟩
theorem awake_true : geyserlaw06_awake.f 5 = some true := by
  have h0 := mix_nat 0 0
  have h1 := mix_nat 7 9
  have h2 := unmix_nat (nmix 7 9) 9 (nmix_lt _ _) (by decide)
  rw [nunmix_nmix (by decide) (by decide)] at h2
  rw [nmix00] at h0
  obtain ⟨m, hm⟩ := nmix79
  rw [hm] at h1 h2
  clear hm
  unfold geyserlaw06_awake.f
  have h0' : mix_Mix.f 0 0 = some 0 := h0
  have h1' : mix_Mix.f 7 9 = some ((m + 1 : Nat) : Int) := h1
  have h2' : mix_Unmix.f 5 ((m + 1 : Nat) : Int) 9 = some 7 := h2
  rw [h0', h1']
  simp only [Option.bind_some, if_true]
  rw [if_neg (by omega), h2']
  rfl

theorem times_core (a b P Q : Int) (h0 : 0 ≤ b) (h1 : b < 4294967296) (hP : a * (b % 65536) = P) (hQ : a * (b / 65536) = Q) (_ : 0 ≤ P) (_ : P < 281474976710656) (_ : 0 ≤ Q) (_ : Q < 281474976710656) : geyserref06_times.f a b = some ((65536 * Q + P) % 4294967296) := by
  unfold geyserref06_times.f
  rw [Int.tmod_eq_emod_of_nonneg h0, Int.tdiv_eq_ediv_of_nonneg h0, show IntKind.u64.wrap (b / 65536) = b / 65536 from by rw [IntKind.wrap_u64]; omega, hP, hQ]
  simp only [IntKind.wrap_u64]
  rw [Int.tmod_eq_emod_of_nonneg (a := Q % 18446744073709551616) (by omega), Int.tmod_eq_emod_of_nonneg (by omega)]
  congr 1
  omega
theorem times_nat (a b : Nat) (ha : a < 4294967296) (hb : b < 4294967296) : geyserref06_times.f (a : Int) (b : Int) = some ((a * b % 4294967296 : Nat) : Int) := by
  have hr : b % 65536 < 65536 := Nat.mod_lt _ (by omega)
  have hq : b / 65536 < 65536 := by omega
  have hp : a * (b % 65536) < 4294967296 * 65536 := Nat.mul_lt_mul'' ha hr
  have hQ : a * (b / 65536) < 4294967296 * 65536 := Nat.mul_lt_mul'' ha hq
  have hab : a * b = 65536 * (a * (b / 65536)) + a * (b % 65536) := by
    conv => lhs; rw [← Nat.div_add_mod b 65536, Nat.mul_add]
    rw [Nat.mul_left_comm]
  have e := times_core a b ((a * (b % 65536) : Nat) : Int) ((a * (b / 65536) : Nat) : Int) (by omega) (by omega) (by simp) (by simp) (by omega) (by omega) (by omega) (by omega)
  rw [e, hab]
  congr 1
theorem ref_fold_nat (a s : Nat) (ha : a < 4294967296) (hs : s ≤ 64) : geyserref06_fold.f (a : Int) (s : Int) = some ((fold a s : Nat) : Int) := by
  unfold geyserref06_fold.f shr fold
  rw [if_pos (by omega), show ((s : Int).toNat) = s from by omega, show IntKind.u64.bits = 64 from rfl, Nat.min_eq_left hs]
  rw [show ((a : Int) / 2 ^ s) = ((a / 2 ^ s : Nat) : Int) from by simp, u64_xor_nat _ _ (by omega) (Nat.lt_of_le_of_lt (Nat.div_le_self _ _) (by omega))]
theorem t1 (y : Nat) (h : y < 4294967296) : geyserref06_times.f (y : Int) 2654435761 = some ((y * 2654435761 % 4294967296 : Nat) : Int) := times_nat y 2654435761 h (by omega)
theorem t2 (y : Nat) (h : y < 4294967296) : geyserref06_times.f (y : Int) 2246822507 = some ((y * 2246822507 % 4294967296 : Nat) : Int) := times_nat y 2246822507 h (by omega)
theorem t3 (y : Nat) (h : y < 4294967296) : geyserref06_times.f (y : Int) 3266489909 = some ((y * 3266489909 % 4294967296 : Nat) : Int) := times_nat y 3266489909 h (by omega)
theorem f16 (y : Nat) (h : y < 4294967296) : geyserref06_fold.f (y : Int) 16 = some ((fold y 16 : Nat) : Int) := ref_fold_nat y 16 h (by omega)
theorem f13 (y : Nat) (h : y < 4294967296) : geyserref06_fold.f (y : Int) 13 = some ((fold y 13 : Nat) : Int) := ref_fold_nat y 13 h (by omega)
theorem core0 (x s a b c d e f g : Int) (h9 : IntKind.u64.wrap x = x) (h0 : geyserref06_times.f x 2654435761 = some a) (hb : Int.tmod (IntKind.u64.wrap (a + IntKind.u64.wrap s)) 4294967296 = b) (h1 : geyserref06_fold.f b 16 = some c) (h2 : geyserref06_times.f c 2246822507 = some d) (h3 : geyserref06_fold.f d 13 = some e) (h4 : geyserref06_times.f e 3266489909 = some f) (h5 : geyserref06_fold.f f 16 = some g) (h6 : g % 4294967296 = g) : geyserref06_Mix.f x s = some g := by
  unfold geyserref06_Mix.f
  rw [h9]
  refine bindE h0 ?_
  rw [hb]
  refine bindE h1 (bindE h2 (bindE h3 (bindE h4 (bindE h5 ?_))))
  exact congrArg some h6
theorem wr (y : Nat) (h : y < 4294967296) : IntKind.u64.wrap (y : Int) = (y : Int) := by rw [IntKind.wrap_u64]; omega
theorem addw (y s : Nat) (_hy : y < 4294967296) (hs : s < 4294967296) : Int.tmod (IntKind.u64.wrap ((y : Int) + IntKind.u64.wrap (s : Int))) 4294967296 = (((y + s) % 4294967296 : Nat) : Int) := by
  rw [wr s hs, IntKind.wrap_u64, Int.tmod_eq_emod_of_nonneg (by omega)]; omega
theorem small (y : Nat) (hy : y < 4294967296) : (y : Int) % 4294967296 = (y : Int) := by omega
theorem ref_mix_nat (x s : Nat) (hx : x < 4294967296) (hs : s < 4294967296) : geyserref06_Mix.f (x : Int) (s : Int) = some ((nmix x s : Nat) : Int) :=
  core0 _ _ _ _ _ _ _ _ _ (wr x hx) (t1 x hx) (addw _ s (m32 _) hs) (f16 _ (m32 _)) (t2 _ (fold_lt (m32 _))) (f13 _ (m32 _)) (t3 _ (fold_lt (m32 _))) (f16 _ (m32 _)) (small _ (fold_lt (m32 _)))

theorem awake_ev : Ev (fun k => geyserlaw06_awake.f k) true := Ev.of geyserlaw06_awake.mono awake_true
theorem check_bad {m : Int} (h : m < 1 ∨ m > 1048576) : geyserref06_Check.f m = some 1 := by
  unfold geyserref06_Check.f
  by_cases h1 : m < 1
  · rw [if_pos h1]
  · rw [if_neg h1, if_pos (by omega)]
theorem check_ok {m : Int} (h1 : 1 ≤ m) (h2 : m ≤ 1048576) : geyserref06_Check.f m = some 0 := by
  unfold geyserref06_Check.f
  rw [if_neg (by omega), if_neg (by omega)]
def belowW : ByteArray := ⟨#[109, 105, 120, 46, 66, 101, 108, 111, 119]⟩
theorem below_bad (x s m : Int) (h : m < 1 ∨ m > 1048576) : Ev (fun k => mix_Below.f k x s m) (0, some ([belowW], 1)) := by
  unfold mix_Below.f
  by_cases h1 : m < 1
  · exact EvT h1 (Ev.step (fun k => mix_Below.j0.eq_2 x s m _ k) (EvT rfl (EvC rfl (EvK rfl))))
  · exact EvF h1 (Ev.step (fun k => mix_Below.j0.eq_2 x s m _ k) (EvT (decide_eq_true (by omega)) (EvC rfl (EvK rfl))))
theorem below_ok (x s : Nat) (m : Int) (h1 : 1 ≤ m) (h2 : m ≤ 1048576) : Ev (fun k => mix_Below.f k x s m) (((nmix x s : Nat) : Int) % m, none) := by
  unfold mix_Below.f
  refine EvF (by omega) (Ev.step (fun k => mix_Below.j0.eq_2 x s m _ k) (EvF (by rw [decide_eq_true_iff]; omega) ?_))
  refine EvC (mix_nat x s) (EvF (by omega) (EvK ?_))
  have hl := nmix_lt x s
  generalize nmix x s = n at *
  have e : m % 4294967296 = m := by omega
  have h3 := Int.emod_nonneg (n : Int) (b := m) (by omega)
  have h4 := Int.emod_lt_of_pos (n : Int) (b := m) (by omega)
  rw [e, tmod_pos (by omega), w64 (by omega)]
theorem ref_below (x s : Nat) (m : Int) (hx : x < 4294967296) (hs : s < 4294967296) (h1 : 1 ≤ m) (h2 : m ≤ 1048576) : geyserref06_Below.f x s m = some (((nmix x s : Nat) : Int) % m) := by
  unfold geyserref06_Below.f
  refine bindE (ref_mix_nat x s hx hs) ?_
  have hl := nmix_lt x s
  generalize nmix x s = n at *
  have h3 := Int.emod_nonneg (n : Int) (b := m) (by omega)
  have h4 := Int.emod_lt_of_pos (n : Int) (b := m) (by omega)
  rw [u64w (n := m) (by omega), u64w (n := (n : Int)) (by omega), if_neg (by omega), tmod_pos (by omega), w64 (by omega)]
end Go.Proofs.YtakhbcmhfgjocaaDoor.MixMixRows
