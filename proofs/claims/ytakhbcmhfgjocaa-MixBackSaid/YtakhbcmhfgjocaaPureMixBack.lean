/- MixBack (P6.3): for every x, salt and h of uint32, Unmix(Mix(x, salt), salt) is x and Mix(Unmix(h, salt), salt) is h. Conditions: none. -/
import Derived.Test.YtakhbcmhfgjocaaQMixBackx1
import Derived.Test.YtakhbcmhfgjocaaMixM
namespace Go.Proofs.Ytakhbcmhfgjocaa.Pure
open Go.RowKit Go.Proofs.Ytakhbcmhfgjocaa.QMixBack Go.Proofs.YtakhbcmhfgjocaaW.PrintWords Go.Proofs.YtakhbcmhfgjocaaW.PrintLast Go.Proofs.YtakhbcmhfgjocaaW.PrintMore Go.Proofs.Ytakhbcmhfgjocaa.MixM

theorem xs16' {A : Int} {n : Nat} (hA : A = (n : Int)) (h : n < 4294967296) : Go.bits .xor .u32 A (A / 65536) = ((fold n 16 : Nat) : Int) := by subst hA; exact xs16 h
theorem xs13' {A : Int} {n : Nat} (hA : A = (n : Int)) (h : n < 4294967296) : Go.bits .xor .u32 A (A / 8192) = ((fold n 13 : Nat) : Int) := by subst hA; exact xs13 h
theorem un13' {A : Int} {n : Nat} (hA : A = (n : Int)) (h : n < 4294967296) : Go.bits .xor .u32 A (Go.bits .xor .u32 (A / 8192) (A / 67108864)) = ((unfold13 n : Nat) : Int) := by subst hA; exact un13 h
theorem mulc {A : Int} {n : Nat} (c : Nat) (hA : A = (n : Int)) : (A * (c : Int)) % 4294967296 = ((n * c % 4294967296 : Nat) : Int) := by subst hA; simp
theorem subc {A : Int} {g s : Nat} (hA : A = (g : Int)) (hs : s < 4294967296) : (A - (s : Int)) % 4294967296 = (((g + 4294967296 - s) % 4294967296 : Nat) : Int) := by subst hA; omega
theorem mix_nat (x s : Nat) : mix_Mix.f (x : Int) (s : Int) = some ((nmix x s : Nat) : Int) :=
  congrArg some (xs16' (mulc 3266489909 (xs13' (mulc 2246822507 (xs16' (n := (x * 2654435761 % 4294967296 + s) % 4294967296) (by omega) (m32 _))) (m32 _))) (m32 _))
theorem inv1 : mix_inverse.f 5 3266489909 = some 2127672349 := by decide +kernel
theorem inv2 : mix_inverse.f 5 2246822507 = some 2781581891 := by decide +kernel
theorem inv3 : mix_inverse.f 5 2654435761 = some 244002641 := by decide +kernel
theorem unmix_nat (h s : Nat) (hh : h < 4294967296) (hs : s < 4294967296) : mix_Unmix.f 5 (h : Int) (s : Int) = some ((nunmix h s : Nat) : Int) := by
  unfold mix_Unmix.f
  rw [inv1, inv2, inv3]
  exact congrArg some (mulc 244002641 (subc (xs16' (mulc 2781581891 (un13' (mulc 2127672349 (xs16' rfl hh)) (m32 _))) (m32 _)) hs))
theorem nmix00 : nmix 0 0 = 0 := by decide +kernel
theorem nmix79 : ∃ m, nmix 7 9 = m + 1 := ⟨nmix 7 9 - 1, by decide +kernel⟩
theorem awake_true : geyserlaw06_awake.f 5 = some true := by
  have h0 := mix_nat 0 0
  have h1 := mix_nat 7 9
  have h2 := unmix_nat (nmix 7 9) 9 (nmix_lt _ _) (by decide)
  rw [nunmix_nmix (by decide) (by decide)] at h2
  rw [nmix00] at h0
  obtain ⟨m, hm⟩ := nmix79
  rw [hm] at h1 h2
  clear hm
  unfold geyserlaw06_awake.f
  have h0' : mix_Mix.f 0 0 = some 0 := h0
  have h1' : mix_Mix.f 7 9 = some ((m + 1 : Nat) : Int) := h1
  have h2' : mix_Unmix.f 5 ((m + 1 : Nat) : Int) 9 = some 7 := h2
  rw [h0', h1']
  simp only [Option.bind_some, if_true]
  rw [if_neg (by omega), h2']
  rfl

theorem core (k : Nat) (x s h p q : Int) (e1 : mix_Mix.f x s = some p) (e2 : mix_Unmix.f k p s = some x) (e3 : mix_Unmix.f k h s = some q) (e4 : mix_Mix.f q s = some h) (e5 : geyserlaw06_awake.f k = some true) : geyserlaw06_MixBack.f k x s h = some true := by
  unfold geyserlaw06_MixBack.f
  rw [e1, e3, e5]; simp only [Option.bind_some]
  rw [e2, e4]; simp only [Option.bind_some, if_true]
theorem MixBack : geyserlaw06_MixBack.Pure := by
  intro a0 a1 a2 w0 w1 w2
  obtain ⟨x, rfl, hx⟩ := nat_of_u32 w0
  obtain ⟨s, rfl, hs⟩ := nat_of_u32 w1
  obtain ⟨h, rfl, hh⟩ := nat_of_u32 w2
  have e2 := unmix_nat _ s (nmix_lt x s) hs
  rw [nunmix_nmix hx hs] at e2
  have e4 := mix_nat (nunmix h s) s
  rw [nmix_nunmix hh hs] at e4
  exact ⟨5, core 5 _ _ _ _ _ (mix_nat x s) e2 (unmix_nat h s hh hs) e4 awake_true⟩

end Go.Proofs.Ytakhbcmhfgjocaa.Pure
