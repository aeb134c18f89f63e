/- What spoiling within 32 neighbouring bits does to bytes with their sum: none whose sum is right. No memory in sight. -/
import Derived.Test.YtfcofokbhhnfkaaDoorSpoW
namespace Go.Proofs.YtfcofokbhhnfkaaDoor.Byt
set_option linter.unusedSimpArgs false
set_option linter.unusedVariables false
open Go.Proofs.YtfcofokbhhnfkaaDoor.CrcM Go.Proofs.YtfcofokbhhnfkaaDoor.Er
def turn (X : List Nat) (k : Nat) : List Nat := X.set (k / 8) (X.getD (k / 8) 0 ^^^ 2 ^ (k % 8))
def spo (a mask len : Nat) : Nat → Nat → List Nat → Option (List Nat)
  | 0, _, X => some X
  | d + 1, i, X => if mask / 2 ^ i % 2 = 0 then spo a mask len d (i + 1) X else if a + i ≥ 8 * len then none else spo a mask len d (i + 1) (turn X (a + i))
theorem turn_len (X : List Nat) (k : Nat) : (turn X k).length = X.length := by unfold turn; rw [List.length_set]
theorem turn_lt {X : List Nat} (h : ∀ x ∈ X, x < 256) (k : Nat) : ∀ x ∈ turn X k, x < 256 := by
  intro x hx
  rcases List.mem_or_eq_of_mem_set hx with h1 | rfl
  · exact h x h1
  · refine Nat.xor_lt_two_pow (n := 8) ?_ (Nat.pow_lt_pow_right (by omega) (by omega))
    rw [List.getD_eq_getElem?_getD]
    cases hg : X[k / 8]? with
    | none => decide
    | some y => exact h y (List.mem_of_getElem? hg)
theorem spo_len {a mask len : Nat} : ∀ {d i : Nat} {X Y : List Nat}, spo a mask len d i X = some Y → Y.length = X.length
  | 0, _, _, _, h => by injection h with h; rw [h]
  | d + 1, i, X, Y, h => by
    unfold spo at h
    split at h
    · exact spo_len h
    · split at h
      · cases h
      · rw [spo_len h, turn_len]
theorem spo_lt {a mask len : Nat} : ∀ {d i : Nat} {X Y : List Nat}, (∀ x ∈ X, x < 256) → spo a mask len d i X = some Y → ∀ x ∈ Y, x < 256
  | 0, _, _, _, hX, h => by injection h with h; rw [← h]; exact hX
  | d + 1, i, X, Y, hX, h => by
    unfold spo at h
    split at h
    · exact spo_lt hX h
    · split at h
      · cases h
      · exact spo_lt (turn_lt hX _) h
theorem odd_pow (q t : Nat) : (2 * q + 1) * 2 ^ t = q * 2 ^ (t + 1) ^^^ 2 ^ t := by
  have hp := Nat.two_pow_pos t
  have e0 : (2 * q + 1) * 2 ^ t = 2 ^ t + q * 2 ^ (t + 1) := by rw [Nat.pow_succ, Nat.add_mul, Nat.one_mul, Nat.add_comm]; congr 1; ac_rfl
  have e1 : (2 ^ t + q * 2 ^ (t + 1)) % 2 ^ (t + 1) = 2 ^ t := by rw [Nat.add_mul_mod_self_right, Nat.mod_eq_of_lt (Nat.pow_lt_pow_right (by omega) (by omega))]
  have e2 : (2 ^ t + q * 2 ^ (t + 1)) / 2 ^ (t + 1) = q := by
    rw [Nat.add_mul_div_right _ _ (Nat.two_pow_pos _), Nat.div_eq_of_lt (Nat.pow_lt_pow_right (by omega) (by omega)), Nat.zero_add]
  have e3 := xor_split (2 ^ t + q * 2 ^ (t + 1)) (t + 1)
  rw [e1, e2] at e3
  rw [e0, e3, Nat.xor_comm]
theorem spo_crc {a mask len : Nat} (hm : mask < 4294967296) (s : Nat) : ∀ {d i : Nat} {X Y : List Nat}, i + d = 32 → X.length = len → spo a mask len d i X = some Y →
    crc s Y = crc s X ^^^ Zk (8 * len) (mask / 2 ^ i * 2 ^ (a + i))
  | 0, i, X, Y, hi, _, h => by
    injection h with h
    obtain rfl : i = 32 := by omega
    rw [show mask / 2 ^ 32 = 0 by omega, Nat.zero_mul, Zk_zero, Nat.xor_zero, h]
  | d + 1, i, X, Y, hi, hl, h => by
    have e2 : mask / 2 ^ (i + 1) = mask / 2 ^ i / 2 := by rw [Nat.pow_succ, Nat.div_div_eq_div_mul]
    unfold spo at h
    split at h
    · rename_i c
      rw [spo_crc hm s (by omega) hl h, e2]
      congr 2
      have e3 : mask / 2 ^ i = 2 * (mask / 2 ^ i / 2) := by omega
      rw [show a + (i + 1) = (a + i) + 1 by omega, Nat.pow_succ]
      generalize mask / 2 ^ i / 2 = q at *
      rw [e3]
      ac_rfl
    · rename_i c
      split at h
      · cases h
      · rename_i c2
        rw [spo_crc hm s (by omega) (by rw [turn_len]; exact hl) h, e2]
        have ht : crc s (turn X (a + i)) = crc s X ^^^ Zk (8 * len) (2 ^ (a + i)) := by
          have := crc_turn' X s (a + i) (by omega)
          rw [hl] at this
          exact this
        have e3 : mask / 2 ^ i = 2 * (mask / 2 ^ i / 2) + 1 := by omega
        generalize mask / 2 ^ i / 2 = q at *
        rw [ht, e3, odd_pow q (a + i), Zk_xor, show a + (i + 1) = a + i + 1 by omega, Nat.xor_assoc]
        congr 1
        exact Nat.xor_comm _ _
theorem nats_li (N : List Nat) : nats (li N) = N := by
  unfold nats li
  rw [List.map_map]
  have : (Int.toNat ∘ fun n : Nat => (n : Int)) = id := by funext n; simp
  rw [this, List.map_id]
theorem li_set (X : List Nat) (k v : Nat) : (li X).set k (v : Int) = li (X.set k v) := by
  unfold li; rw [List.map_set]
theorem turnI_li (X : List Nat) (k : Nat) : turnI (li X) k = li (turn X k) := by
  unfold turnI turn
  rw [← li_set]
  congr 3
  rw [List.getD_eq_getElem?_getD, List.getD_eq_getElem?_getD]
  unfold li
  rw [List.getElem?_map]
  cases X[k / 8]? <;> simp
theorem spoI_li (a m len : Nat) : ∀ (d i : Nat) (X : List Nat), spoI a m len d i (li X) = (spo a m len d i X).map li
  | 0, _, _ => rfl
  | d + 1, i, X => by
    unfold spoI spo
    rw [turnI_li, spoI_li a m len d (i + 1) X, spoI_li a m len d (i + 1) (turn X (a + i))]
    by_cases h1 : m / 2 ^ i % 2 = 0
    · rw [if_pos h1, if_pos h1]
    · rw [if_neg h1, if_neg h1]
      by_cases h2 : 8 * len ≤ a + i
      · rw [if_pos h2, if_pos h2]; rfl
      · rw [if_neg h2, if_neg h2]
theorem addI_li (N : List Nat) : addI (li N) = li (CrcM.add N) := by
  unfold addI le4 sumI CrcM.add
  rw [nats_li, li_app]
  rfl
theorem li_inj {a b : List Nat} (h : li a = li b) : a = b := by rw [← nats_li a, h, nats_li]
theorem nb_lt : ∀ (n s : Nat), ∀ y ∈ CrcM.nbytes n s, y < 256 := by
  intro n
  induction n with
  | zero => intro s y hy; simp [CrcM.nbytes] at hy
  | succ n ih =>
    intro s y hy
    rcases List.mem_cons.1 (show y ∈ s % 256 :: CrcM.nbytes n (s / 256) from hy) with rfl | hy
    · omega
    · exact ih _ y hy
theorem add_lt {N : List Nat} (h : ∀ x ∈ N, x < 256) : ∀ x ∈ CrcM.add N, x < 256 := by
  intro x hx
  rcases List.mem_append.1 hx with hx | hx
  · exact h x hx
  · exact nb_lt _ _ x hx
theorem spoilt_take {b Y : List Int} {a m : Int} (hb : ∀ x ∈ b, 0 ≤ x ∧ x < 256) (hm : 0 ≤ m ∧ m < 4294967296) (h : spoilB (addI b) a m = some Y) : takeE Y = 6 := by
  have hN := nats_lt hb
  obtain ⟨N, rfl⟩ : ∃ N, b = li N := ⟨nats b, (li_nats hb).symm⟩
  rw [nats_li] at hN
  rw [addI_li] at h
  unfold spoilB at h
  split at h
  · cases h
  rename_i c
  rw [spoI_li, li_len] at h
  rw [li_len] at c
  cases hs : spo a.toNat m.toNat (CrcM.add N).length 32 0 (CrcM.add N) with
  | none => rw [hs] at h; cases h
  | some Z =>
    rw [hs] at h
    obtain rfl : li Z = Y := by injection h
    have hZl := spo_len hs
    have hZb := spo_lt (add_lt hN) hs
    have hZc := spo_crc (s := CrcM.M) (by omega) (by omega) rfl hs
    have h4 : ¬ (li Z).length < 4 := by
      rw [li_len, hZl]
      unfold CrcM.add
      rw [List.length_append, nb_len]
      omega
    unfold takeE
    rw [if_neg h4, if_neg]
    intro e
    rw [li_take, addI_li] at e
    refine CrcM.burst (l := N) (q := Z) (b := Z.take (Z.length - 4)) (at_ := a.toNat) (mask := m.toNat) hN (fun x hx => hZb x (List.mem_of_mem_take hx)) (by omega) (by omega) (by omega) ?_ ?_
    · rw [hZc, Nat.pow_zero, Nat.div_one, Nat.add_zero]
    · rw [li_len] at e
      exact (li_inj e).symm
end Go.Proofs.YtfcofokbhhnfkaaDoor.Byt
