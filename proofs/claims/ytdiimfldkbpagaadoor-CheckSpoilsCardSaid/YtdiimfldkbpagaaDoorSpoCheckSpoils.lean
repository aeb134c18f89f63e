/- What check.Spoil answers, for CheckSpoils: bits are turned one after another; what that does to the sum. No memory in sight. -/
import Derived.Test.YtdiimfldkbpagaaDoorCheCheckSpoils
namespace Go.Proofs.YtdiimfldkbpagaaDoor.SpoCheckSpoils
open Go.RowKit Go.Proofs.YtdiimfldkbpagaaDoor.QCheckSpoils Go.Proofs.YtdiimfldkbpagaaDoorW.PrintWords Go.Proofs.YtdiimfldkbpagaaDoorW.PrintLast Go.Proofs.YtdiimfldkbpagaaDoorW.PrintMore Go.Proofs.YtdiimfldkbpagaaDoor.Kit Go.Proofs.YtdiimfldkbpagaaDoor.Er Go.Proofs.YtdiimfldkbpagaaDoor.CrcM Go.Proofs.YtdiimfldkbpagaaDoor.CheCheckSpoils

def turn (X : List Nat) (k : Nat) : List Nat := X.set (k / 8) (X.getD (k / 8) 0 ^^^ 2 ^ (k % 8))
def spo (a mask len : Nat) : Nat → Nat → List Nat → Option (List Nat)
  | 0, _, X => some X
  | d + 1, i, X => if mask / 2 ^ i % 2 = 0 then spo a mask len d (i + 1) X else if a + i ≥ 8 * len then none else spo a mask len d (i + 1) (turn X (a + i))
theorem turn_len (X : List Nat) (k : Nat) : (turn X k).length = X.length := by unfold turn; rw [List.length_set]
theorem turn_lt {X : List Nat} (h : ∀ x ∈ X, x < 256) (k : Nat) : ∀ x ∈ turn X k, x < 256 := by
  intro x hx
  rcases List.mem_or_eq_of_mem_set hx with h1 | rfl
  · exact h x h1
  · refine Nat.xor_lt_two_pow (n := 8) ?_ (Nat.pow_lt_pow_right (by omega) (by omega))
    rw [List.getD_eq_getElem?_getD]
    cases hg : X[k / 8]? with
    | none => decide
    | some y => exact h y (List.mem_of_getElem? hg)
theorem spo_len {a mask len : Nat} : ∀ {d i : Nat} {X Y : List Nat}, spo a mask len d i X = some Y → Y.length = X.length
  | 0, _, _, _, h => by injection h with h; rw [h]
  | d + 1, i, X, Y, h => by
    unfold spo at h
    split at h
    · exact spo_len h
    · split at h
      · cases h
      · rw [spo_len h, turn_len]
theorem spo_lt {a mask len : Nat} : ∀ {d i : Nat} {X Y : List Nat}, (∀ x ∈ X, x < 256) → spo a mask len d i X = some Y → ∀ x ∈ Y, x < 256
  | 0, _, _, _, hX, h => by injection h with h; rw [← h]; exact hX
  | d + 1, i, X, Y, hX, h => by
    unfold spo at h
    split at h
    · exact spo_lt hX h
    · split at h
      · cases h
      · exact spo_lt (turn_lt hX _) h
theorem odd_pow (q t : Nat) : (2 * q + 1) * 2 ^ t = q * 2 ^ (t + 1) ^^^ 2 ^ t := by
  have hp := Nat.two_pow_pos t
  have e0 : (2 * q + 1) * 2 ^ t = 2 ^ t + q * 2 ^ (t + 1) := by rw [Nat.pow_succ, Nat.add_mul, Nat.one_mul, Nat.add_comm]; congr 1; ac_rfl
  have e1 : (2 ^ t + q * 2 ^ (t + 1)) % 2 ^ (t + 1) = 2 ^ t := by rw [Nat.add_mul_mod_self_right, Nat.mod_eq_of_lt (Nat.pow_lt_pow_right (by omega) (by omega))]
  have e2 : (2 ^ t + q * 2 ^ (t + 1)) / 2 ^ (t + 1) = q := by
    rw [Nat.add_mul_div_right _ _ (Nat.two_pow_pos _), Nat.div_eq_of_lt (Nat.pow_lt_pow_right (by omega) (by omega)), Nat.zero_add]
  have e3 := xor_split (2 ^ t + q * 2 ^ (t + 1)) (t + 1)
  rw [e1, e2] at e3
  rw [e0, e3, Nat.xor_comm]
theorem spo_crc {a mask len : Nat} (hm : mask < 4294967296) (s : Nat) : ∀ {d i : Nat} {X Y : List Nat}, i + d = 32 → X.length = len → spo a mask len d i X = some Y →
    crc s Y = crc s X ^^^ Zk (8 * len) (mask / 2 ^ i * 2 ^ (a + i))
  | 0, i, X, Y, hi, _, h => by
    injection h with h
    obtain rfl : i = 32 := by omega
    rw [show mask / 2 ^ 32 = 0 by omega, Nat.zero_mul, Zk_zero, Nat.xor_zero, h]
  | d + 1, i, X, Y, hi, hl, h => by
    have e2 : mask / 2 ^ (i + 1) = mask / 2 ^ i / 2 := by rw [Nat.pow_succ, Nat.div_div_eq_div_mul]
    unfold spo at h
    split at h
    · rename_i c
      rw [spo_crc hm s (by omega) hl h, e2]
      congr 2
      have e3 : mask / 2 ^ i = 2 * (mask / 2 ^ i / 2) := by omega
      rw [show a + (i + 1) = (a + i) + 1 by omega, Nat.pow_succ]
      generalize mask / 2 ^ i / 2 = q at *
      rw [e3]
      ac_rfl
    · rename_i c
      split at h
      · cases h
      · rename_i c2
        rw [spo_crc hm s (by omega) (by rw [turn_len]; exact hl) h, e2]
        have ht : crc s (turn X (a + i)) = crc s X ^^^ Zk (8 * len) (2 ^ (a + i)) := by
          have := crc_turn' X s (a + i) (by omega)
          rw [hl] at this
          exact this
        have e3 : mask / 2 ^ i = 2 * (mask / 2 ^ i / 2) + 1 := by omega
        generalize mask / 2 ^ i / 2 = q at *
        rw [ht, e3, odd_pow q (a + i), Zk_xor, show a + (i + 1) = a + i + 1 by omega, Nat.xor_assoc]
        congr 1
        exact Nat.xor_comm _ _
def spoilW : ByteArray := ⟨#[99, 104, 101, 99, 107, 46, 83, 112, 111, 105, 108]⟩
theorem bit_at {m i : Nat} (hm : m < 4294967296) (hi : i < 32) : Go.bits .and .u32 (shr .u32 (m : Int) (i : Int)) 1 = ((m / 2 ^ i % 2 : Nat) : Int) := by
  have e1 : shr .u32 (m : Int) (i : Int) = ((m / 2 ^ i : Nat) : Int) := by
    unfold shr
    rw [show ((i : Int)).toNat = i by omega, show IntKind.u32.bits = 32 from rfl, Nat.min_eq_left (by omega)]
    have := Int.natCast_ediv m (2 ^ i)
    rw [Int.natCast_pow] at this
    exact this.symm
  have h2 : m / 2 ^ i ≤ m := Nat.div_le_self _ _
  have := u32_and_nat (m / 2 ^ i) 1 (by omega) (by omega)
  rw [show ((1 : Nat) : Int) = 1 from rfl] at this
  rw [e1, this, Nat.and_one_is_mod]
theorem shl_one {t : Nat} (h : t < 8) : shl .u8 1 (t : Int) = ((2 ^ t : Nat) : Int) := by
  rcases (show t = 0 ∨ t = 1 ∨ t = 2 ∨ t = 3 ∨ t = 4 ∨ t = 5 ∨ t = 6 ∨ t = 7 by omega) with rfl | rfl | rfl | rfl | rfl | rfl | rfl | rfl <;> decide +kernel
theorem p8 {t : Nat} (h : t < 8) : 2 ^ t < 256 := by
  rcases (show t = 0 ∨ t = 1 ∨ t = 2 ∨ t = 3 ∨ t = 4 ∨ t = 5 ∨ t = 6 ∨ t = 7 by omega) with rfl | rfl | rfl | rfl | rfl | rfl | rfl | rfl <;> decide
theorem li_set (X : List Nat) (k v : Nat) : (li X).set k (v : Int) = li (X.set k v) := by
  unfold li
  rw [List.map_set]
theorem at_8 {n : Nat} (h : n < 9223372036854775807) : wrap64 (Int.tdiv (wrap64 (n : Int)) 8) = ((n / 8 : Nat) : Int) := by
  rw [w64 (n := (n : Int)) (by omega), tdiv_pos (by omega), w64 (n := (n : Int) / 8) (by omega)]
  omega
theorem tm_8 {n : Nat} (h : n < 9223372036854775807) : Int.tmod (wrap64 (n : Int)) 8 = ((n % 8 : Nat) : Int) := by
  rw [w64 (n := (n : Int)) (by omega), tmod_pos (by omega)]
  omega
def out (r : Option (List Nat)) : List Int × Option Er := match r with | none => ([], some ([spoilW], 2)) | some Y => (li Y, none)
theorem s_loop (N : List Nat) (a m : Nat) (hm : m < 4294967296) (hl : N.length < 140737488355328) (ha : a < 8 * N.length) : ∀ (d i : Nat) (X : List Nat), i + d = 32 → X.length = N.length → (∀ x ∈ X, x < 256) →
    Ev (fun k => check_Spoil.l0 k (li N) (a : Int) (m : Int) (li X) (i : Int)) (out (spo a m N.length d i X))
  | 0, i, X, hi, _, _ => Ev.step (fun k => check_Spoil.l0.eq_2 (li N) (a : Int) (m : Int) (li X) (i : Int) k) (EvF (by omega) (EvK rfl))
  | d + 1, i, X, hi, hX, hlt => by
    refine Ev.step (fun k => check_Spoil.l0.eq_2 (li N) (a : Int) (m : Int) (li X) (i : Int) k) (EvT (by omega) (EvT (by omega) ?_))
    rw [bit_at hm (by omega), w64 (n := (i : Int) + 1) (by omega), li_len, w64 (n := 8 * (N.length : Int)) (by omega), w64 (n := 8 * (N.length : Int) - (i : Int)) (by omega),
      show ((a : Int) + (i : Int)) = ((a + i : Nat) : Int) by omega, at_8 (by omega), tm_8 (by omega)]
    unfold spo
    by_cases c : m / 2 ^ i % 2 = 0
    · rw [if_pos c]
      exact EvT (by omega) (s_loop N a m hm hl ha d (i + 1) X (by omega) hX hlt)
    · rw [if_neg c]
      refine EvF (by omega) ?_
      by_cases c2 : a + i ≥ 8 * N.length
      · rw [if_pos c2]
        exact EvT (by omega) (EvC rfl (EvK rfl))
      · rw [if_neg c2]
        have hk : (a + i) / 8 < X.length := by omega
        have hb : X.getD ((a + i) / 8) 0 < 256 := by
          rw [List.getD_eq_getElem?_getD, List.getElem?_eq_getElem hk]
          exact hlt _ (List.getElem_mem _)
        refine EvF (by omega) (EvT (by omega) (EvT (by rw [li_len]; omega) (EvT (by omega) ?_)))
        rw [li_rd X _ hk, shl_one (by omega), u8_xor_nat _ _ hb (p8 (by omega)), show ((((a + i) / 8 : Nat) : Int)).toNat = (a + i) / 8 by omega, li_set]
        exact s_loop N a m hm hl ha d (i + 1) (turn X (a + i)) (by omega) (by rw [turn_len]; exact hX) (turn_lt hlt _)
/-- The answer of Spoil, whatever it is asked. -/
def spoil (N : List Nat) (a m : Int) : Option (List Nat) := if a < 0 ∨ a ≥ 8 * (N.length : Int) ∨ m = 0 then none else spo a.toNat m.toNat N.length 32 0 N
theorem spoil_ev (N : List Nat) (hN : ∀ x ∈ N, x < 256) (hl : N.length < 140737488355328) (a m : Int) (hm : 0 ≤ m ∧ m < 4294967296) :
    Ev (fun k => check_Spoil.f k (li N) a m) (out (spoil N a m)) := by
  have hj : Ev (fun k => check_Spoil.j0 k (li N) a m true) (out none) := Ev.step (fun k => check_Spoil.j0.eq_2 (li N) a m true k) (EvT rfl (EvC rfl (EvK rfl)))
  unfold check_Spoil.f spoil
  rw [li_len, w64 (n := 8 * (N.length : Int)) (by omega)]
  by_cases c1 : a < 0
  · rw [if_pos (.inl c1)]
    exact EvT c1 hj
  refine EvF c1 ?_
  by_cases c2 : a ≥ 8 * (N.length : Int)
  · rw [if_pos (.inr (.inl c2))]
    exact EvT c2 hj
  refine EvF c2 ?_
  by_cases c3 : m = 0
  · rw [if_pos (.inr (.inr c3)), show (m == 0) = true from beq_iff_eq.2 c3]
    exact hj
  rw [if_neg (by omega), show (m == 0) = false from beq_eq_false_iff_ne.2 c3]
  refine Ev.step (fun k => check_Spoil.j0.eq_2 (li N) a m false k) (EvF (by decide) (EvC rfl (EvT (by rw [li_len]; simp; omega) ?_)))
  have := s_loop N a.toNat m.toNat (by omega) hl (by omega) 32 0 N rfl rfl hN
  rw [show ((a.toNat : Nat) : Int) = a by omega, show ((m.toNat : Nat) : Int) = m by omega] at this
  exact this
end Go.Proofs.YtdiimfldkbpagaaDoor.SpoCheckSpoils
