/- What is put is got, and what is got is put: plain laws. No program in sight. -/
import Derived.Test.YtfcofokbhhnfkaaDoorGetC
import Derived.Test.YtfcofokbhhnfkaaDoorPutJ
namespace Go.Proofs.YtfcofokbhhnfkaaDoor.Byt
set_option linter.unusedSimpArgs false
set_option linter.unusedVariables false
def li (N : List Nat) : List Int := N.map fun n : Nat => (n : Int)
theorem li_len (N : List Nat) : (li N).length = N.length := by simp [li]
theorem li_app (a b : List Nat) : li (a ++ b) = li a ++ li b := by simp [li]
theorem li_take (N : List Nat) (p : Nat) : (li N).take p = li (N.take p) := by simp [li, List.map_take]
theorem li_drop (N : List Nat) (p : Nat) : (li N).drop p = li (N.drop p) := by simp [li, List.map_drop]
/-- Big-endian bytes. -/
def beN : Nat → Nat → List Nat
  | 0, _ => []
  | s + 1, n => (n / 256 ^ s % 256) :: beN s n
theorem beN_len : ∀ s n, (beN s n).length = s
  | 0, _ => rfl
  | s + 1, n => by simp [beN, beN_len s n]
theorem beN_lt : ∀ s n, ∀ x ∈ beN s n, x < 256
  | 0, _, x, h => by simp [beN] at h
  | s + 1, n, x, h => by
    rcases List.mem_cons.1 h with rfl | h
    · omega
    · exact beN_lt s n x h
def numF (a : Nat) (l : List Nat) : Nat := l.foldl (fun n x => n * 256 + x) a
def numN (l : List Nat) : Nat := numF 0 l
theorem numF_eq : ∀ (l : List Nat) (a : Nat), numF a l = a * 256 ^ l.length + numN l
  | [], a => by simp [numF, numN]
  | x :: l, a => by
    show numF (a * 256 + x) l = _
    rw [numF_eq l (a * 256 + x), show numN (x :: l) = numF (0 * 256 + x) l from rfl, numF_eq l (0 * 256 + x), List.length_cons, Nat.pow_succ]
    rw [Nat.zero_mul, Nat.zero_add, Nat.add_mul]
    rw [show a * 256 * 256 ^ l.length = a * (256 ^ l.length * 256) by rw [Nat.mul_assoc, Nat.mul_comm 256]]
    omega
theorem numN_cons (x : Nat) (l : List Nat) : numN (x :: l) = x * 256 ^ l.length + numN l := by
  rw [show numN (x :: l) = numF (0 * 256 + x) l from rfl, numF_eq l, Nat.zero_mul, Nat.zero_add]
theorem numN_lt : ∀ (l : List Nat), (∀ x ∈ l, x < 256) → numN l < 256 ^ l.length
  | [], _ => by simp [numN, numF]
  | x :: l, h => by
    have h1 := numN_lt l (fun y hy => h y (List.mem_cons_of_mem _ hy))
    have h2 := h x List.mem_cons_self
    rw [numN_cons, List.length_cons, Nat.pow_succ]
    have : x * 256 ^ l.length ≤ 255 * 256 ^ l.length := Nat.mul_le_mul_right _ (by omega)
    omega
theorem numN_be : ∀ (s n : Nat), numN (beN s n) = n % 256 ^ s
  | 0, n => by simp [beN, numN, numF, Nat.mod_one]
  | s + 1, n => by
    rw [beN, numN_cons, beN_len, numN_be s n, Nat.pow_succ, Nat.mod_mul, Nat.mul_comm, Nat.add_comm]
theorem numN_be_of {s n : Nat} (h : n < 256 ^ s) : numN (beN s n) = n := by rw [numN_be, Nat.mod_eq_of_lt h]
theorem be_numN : ∀ (l : List Nat), (∀ x ∈ l, x < 256) → beN l.length (numN l) = l
  | [], _ => rfl
  | x :: l, h => by
    have h1 := numN_lt l (fun y hy => h y (List.mem_cons_of_mem _ hy))
    have h2 := h x List.mem_cons_self
    have h3 := be_numN l (fun y hy => h y (List.mem_cons_of_mem _ hy))
    have hp : 0 < 256 ^ l.length := Nat.pow_pos (by omega)
    rw [List.length_cons, beN, numN_cons]
    congr 1
    · rw [Nat.mul_comm, Nat.mul_add_div hp, Nat.div_eq_of_lt h1, Nat.add_zero, Nat.mod_eq_of_lt h2]
    · have g : ∀ s m a, s ≤ l.length → beN s (a * 256 ^ l.length + m) = beN s m := by
        intro s
        induction s with
        | zero => intros; rfl
        | succ s ih =>
          intro m a hs
          rw [beN, beN, ih m a (by omega)]
          congr 1
          obtain ⟨d, hd⟩ : ∃ d, l.length = s + 1 + d := ⟨l.length - (s + 1), by omega⟩
          rw [hd, Nat.pow_add, Nat.pow_succ, show a * (256 ^ s * 256 * 256 ^ d) = 256 ^ s * (a * 256 ^ d * 256) by ac_rfl, Nat.mul_add_div (Nat.pow_pos (by omega)), Nat.mul_add_mod_self_right]
      rw [g l.length (numN l) x (Nat.le_refl _), h3]
theorem beI_nat : ∀ (s m : Nat), beI s (m : Int) = li (beN s m)
  | 0, _ => rfl
  | s + 1, m => by
    show ((m : Int) / 256 ^ s % 256) :: beI s (m : Int) = (((m / 256 ^ s % 256 : Nat) : Int)) :: li (beN s m)
    rw [beI_nat s m]
    congr 1
theorem numI_li (N : List Nat) : numI (li N) = ((numN N : Nat) : Int) := by
  have g : ∀ (L : List Nat) (a : Nat), (li L).foldl (fun n x => n * 256 + x) (a : Int) = ((numF a L : Nat) : Int) := by
    intro L
    induction L with
    | nil => intros; rfl
    | cons x L ih =>
      intro a
      show (li L).foldl _ ((a : Int) * 256 + (x : Int)) = _
      rw [show ((a : Int) * 256 + (x : Int)) = ((a * 256 + x : Nat) : Int) by omega, ih]
      rfl
  exact g N 0
theorem li_nats : ∀ {l : List Int}, (∀ x ∈ l, 0 ≤ x ∧ x < 256) → li (nats l) = l
  | [], _ => rfl
  | x :: l, h => by
    show ((x.toNat : Nat) : Int) :: li (nats l) = _
    rw [li_nats (fun y hy => h y (List.mem_cons_of_mem _ hy))]
    have := h x List.mem_cons_self
    congr 1
    omega
theorem numI_be {s : Nat} {n : Int} (h : 0 ≤ n ∧ n < 256 ^ s) : numI (beI s n) = n := by
  obtain ⟨m, rfl⟩ := Int.eq_ofNat_of_zero_le h.1
  have e : ((256 : Int) ^ s) = ((256 ^ s : Nat) : Int) := by rw [Int.natCast_pow]; rfl
  rw [e] at h
  rw [beI_nat, numI_li, numN_be_of (by omega)]
theorem be_numI {l : List Int} (h : ∀ x ∈ l, 0 ≤ x ∧ x < 256) : beI l.length (numI l) = l := by
  have e := li_nats h
  have k : numI l = ((numN (nats l) : Nat) : Int) := by rw [← numI_li, e]
  have hl : l.length = (nats l).length := (nats_len l).symm
  rw [k, beI_nat, hl, be_numN (nats l) (nats_lt h), e]
theorem nxtV_app {s : Nat} {n : Int} (r : List Int) (h : 0 ≤ n ∧ n < 256 ^ s) : nxtV (beI s n ++ r) s = n := by
  unfold nxtV
  rw [if_neg (by rw [List.length_append, beI_len]; omega), List.take_append_of_le_length (by rw [beI_len]; omega), List.take_of_length_le (by rw [beI_len]; omega), numI_be h]
theorem nxtL_app (s : Nat) (n : Int) (r : List Int) : nxtL (beI s n ++ r) s = r := by
  unfold nxtL
  rw [if_neg (by rw [List.length_append, beI_len]; omega)]
  exact List.drop_left' (beI_len s n)
theorem nxtB_app (s : Nat) (n : Int) (r : List Int) (b : Bool) : nxtB (beI s n ++ r) b s = b := by
  unfold nxtB
  rw [if_neg (by rw [List.length_append, beI_len]; omega)]
theorem nxtB_false {l : List Int} {b : Bool} {s : Nat} (h : nxtB l b s = false) : b = false ∧ s ≤ l.length := by
  unfold nxtB at h
  split at h
  · cases h
  · exact ⟨h, by omega⟩
theorem nxt_eq {l : List Int} {s : Nat} (hl : ∀ x ∈ l, 0 ≤ x ∧ x < 256) (h : s ≤ l.length) : beI s (nxtV l s) ++ nxtL l s = l := by
  unfold nxtV nxtL
  rw [if_neg (by omega), if_neg (by omega)]
  have e := be_numI (l := l.take s) (fun x hx => hl x (List.mem_of_mem_take hx))
  rw [List.length_take, Nat.min_eq_left h] at e
  rw [e, List.take_append_drop]
theorem nxtL_lt {l : List Int} {s : Nat} (hl : ∀ x ∈ l, 0 ≤ x ∧ x < 256) : ∀ x ∈ nxtL l s, 0 ≤ x ∧ x < 256 := by
  unfold nxtL
  split
  · exact hl
  · exact fun x hx => hl x (List.mem_of_mem_drop hx)
theorem nxtV_bd {l : List Int} {s : Nat} (hl : ∀ x ∈ l, 0 ≤ x ∧ x < 256) : 0 ≤ nxtV l s ∧ nxtV l s < 256 ^ s := by
  unfold nxtV
  split
  · exact ⟨Int.le_refl _, Int.pow_pos (by decide)⟩
  · exact numI_bd s l hl (by omega)
theorem whyP_zero {p : Pk} (h : whyP p = 0) : RangeOk p ∧ (p.kind = 1 ∧ DataF p ∨ p.kind = 2 ∧ AnnF p) := by
  unfold whyP at h
  by_cases r : RangeOk p
  · rw [if_pos r] at h
    refine ⟨r, ?_⟩
    by_cases k : p.kind = 1
    · rw [if_pos k] at h
      by_cases f : DataF p
      · exact .inl ⟨k, f⟩
      · rw [if_neg f] at h; cases h
    · rw [if_neg k] at h
      have k2 : p.kind = 2 := by
        rcases r.2.2.2 with q | q
        · exact absurd q.1 k
        · exact q.1
      by_cases f : AnnF p
      · exact .inr ⟨k2, f⟩
      · rw [if_neg f] at h; cases h
  · rw [if_neg r] at h; cases h
theorem finG_ok {p : Pk} (h : whyP p = 0) : finG false p = (p, 0) := by
  unfold finG
  rw [if_neg (by decide), if_pos h]
/-- What is put is got. -/
theorem bodyG_bodyI {p : Pk} (h : whyP p = 0) : bodyG (bodyI p) = (p, 0) := by
  obtain ⟨r, f⟩ := whyP_zero h
  have hf := finG_ok h
  obtain ⟨kind, sess, layer, tick, burst, sync, many, place, block, esi, data, size, sym, blocks, long, short, layers, esis, base, len⟩ := p
  obtain ⟨r1, r2, r3, r4⟩ := r
  simp only at r1 r2 r3 r4 f
  rcases f with ⟨k, f⟩ | ⟨k, f⟩
  · subst k
    obtain ⟨_, rd⟩ : (1 : Int) = 1 ∧ _ := r4.resolve_right (fun q => by have := q.1; omega)
    obtain ⟨d1, d2, d3, d4, d5⟩ := rd
    obtain ⟨f1, ⟨f2, f3, f4, f5, f6⟩, f7, f8, f9, f10⟩ := f
    simp only at d1 d2 d3 d4 d5 f1 f2 f3 f4 f5 f6 f7 f8 f9 f10
    subst f2 f3 f4 f5 f6 f7 f8 f9 f10
    have hfl : 0 ≤ flg ⟨1, sess, layer, tick, burst, sync, many, place, block, esi, data, 0, 0, 0, 0, 0, 0, 0, 0, 0⟩ ∧ flg ⟨1, sess, layer, tick, burst, sync, many, place, block, esi, data, 0, 0, 0, 0, 0, 0, 0, 0, 0⟩ < 256 ^ 1 := by
      unfold flg; cases burst <;> simp <;> omega
    unfold bodyG bodyI
    simp only [if_true, List.append_assoc]
    rw [nxtV_app _ (by decide), nxtL_app, nxtB_app, nxtV_app _ (show 0 ≤ sess ∧ sess < 256 ^ 2 by omega), nxtL_app, nxtB_app, nxtV_app _ (show 0 ≤ layer ∧ layer < 256 ^ 1 by omega), nxtL_app, nxtB_app, nxtV_app _ (show 0 ≤ tick ∧ tick < 256 ^ 5 by omega), nxtL_app, nxtB_app, if_pos rfl]
    unfold dataG
    simp only
    rw [nxtV_app _ hfl, nxtL_app, nxtB_app, nxtV_app _ (show 0 ≤ many ∧ many < 256 ^ 2 by omega), nxtL_app, nxtB_app, nxtV_app _ (show 0 ≤ place ∧ place < 256 ^ 2 by omega), nxtL_app, nxtB_app, nxtV_app _ (show 0 ≤ block ∧ block < 256 ^ 1 by omega), nxtL_app, nxtB_app, nxtV_app _ (show 0 ≤ esi ∧ esi < 256 ^ 2 by omega), nxtL_app, nxtB_app]
    have e1 : decide (128 ≤ flg ⟨1, sess, layer, tick, burst, sync, many, place, block, esi, data, 0, 0, 0, 0, 0, 0, 0, 0, 0⟩) = burst := by
      unfold flg; cases burst <;> simp <;> omega
    have e2 : flg ⟨1, sess, layer, tick, burst, sync, many, place, block, esi, data, 0, 0, 0, 0, 0, 0, 0, 0, 0⟩ % 128 - 1 = sync := by
      unfold flg; cases burst <;> simp <;> omega
    rw [e1, e2]
    exact hf
  · subst k
    obtain ⟨_, ra⟩ : (2 : Int) = 2 ∧ _ := r4.resolve_left (fun q => by have := q.1; omega)
    obtain ⟨d1, d2, d3, d4, d5, d6⟩ := ra
    obtain ⟨f1, f2, f3, f4, f5, f6, f7, f8⟩ := f
    obtain ⟨g1, g2, g3, g4, g5, g6, g7⟩ := f8
    simp only at d1 d2 d3 d4 d5 d6 f1 f2 f3 f4 f5 f6 f7 g1 g2 g3 g4 g5 g6
    subst f1 f2 f3 f4 f5 f6 f7
    have g8 : short ≤ 128 := by split at g6 <;> omega
    unfold bodyG bodyI
    simp only [show ¬ (2 : Int) = 1 by decide, if_false, List.append_assoc]
    rw [nxtV_app _ (by decide), nxtL_app, nxtB_app, nxtV_app _ (show 0 ≤ sess ∧ sess < 256 ^ 2 by omega), nxtL_app, nxtB_app, nxtV_app _ (show 0 ≤ layer ∧ layer < 256 ^ 1 by omega), nxtL_app, nxtB_app, nxtV_app _ (show 0 ≤ tick ∧ tick < 256 ^ 5 by omega), nxtL_app, nxtB_app, if_neg (by decide), if_pos rfl]
    unfold annG
    simp only
    rw [nxtV_app _ (show 0 ≤ size ∧ size < 256 ^ 4 by omega), nxtL_app, nxtB_app, nxtV_app _ (show 0 ≤ sym ∧ sym < 256 ^ 1 by omega), nxtL_app, nxtB_app, nxtV_app _ (show 0 ≤ blocks ∧ blocks < 256 ^ 1 by omega), nxtL_app, nxtB_app, nxtV_app _ (show 0 ≤ long ∧ long < 256 ^ 1 by omega), nxtL_app, nxtB_app,
      nxtV_app _ (show 0 ≤ short ∧ short < 256 ^ 1 by omega), nxtL_app, nxtB_app, nxtV_app _ (show 0 ≤ layers ∧ layers < 256 ^ 1 by omega), nxtL_app, nxtB_app, nxtV_app _ (show 0 ≤ esis - 1 ∧ esis - 1 < 256 ^ 2 by omega), nxtL_app, nxtB_app, nxtV_app _ (show 0 ≤ base ∧ base < 256 ^ 2 by omega), nxtL_app, nxtB_app]
    rw [← List.append_nil (beI 2 len), nxtV_app _ (show 0 ≤ len ∧ len < 256 ^ 2 by omega), nxtL_app, nxtB_app, show esis - 1 + 1 = esis by omega]
    exact hf
theorem finG_zero {b : Bool} {p : Pk} (h : (finG b p).2 = 0) : b = false ∧ whyP p = 0 ∧ (finG b p).1 = p := by
  unfold finG at h ⊢
  cases b
  · rw [if_neg (by decide)] at h ⊢
    by_cases e : whyP p = 0
    · rw [if_pos e]; exact ⟨rfl, e, rfl⟩
    · rw [if_neg e] at h; cases h
  · rw [if_pos rfl] at h; cases h
theorem flg_back {q : Int} (h : 0 ≤ q ∧ q < 256 ^ 1) (p : Pk) (hb : p.burst = decide (128 ≤ q)) (hs : p.sync = q % 128 - 1) : flg p = q := by
  unfold flg
  rw [hb, hs]
  by_cases c : 128 ≤ q
  · rw [decide_eq_true c]; simp; omega
  · rw [decide_eq_false c]; simp; omega
/-- What is got is put. -/
theorem bodyI_bodyG {B : List Int} (hB : ∀ x ∈ B, 0 ≤ x ∧ x < 256) (h : (bodyG B).2 = 0) : whyP (bodyG B).1 = 0 ∧ bodyI (bodyG B).1 = B := by
  unfold bodyG at h ⊢
  simp only at h ⊢
  have h1 := nxtL_lt (s := 1) hB
  have h2 := nxtL_lt (s := 2) h1
  have h3 := nxtL_lt (s := 1) h2
  have h4 := nxtL_lt (s := 5) h3
  by_cases k1 : nxtV B 1 = 1
  · rw [if_pos k1] at h ⊢
    unfold dataG at h ⊢
    simp only at h ⊢
    have h5 := nxtL_lt (s := 1) h4
    have h6 := nxtL_lt (s := 2) h5
    have h7 := nxtL_lt (s := 2) h6
    have h8 := nxtL_lt (s := 1) h7
    obtain ⟨hb, hw, he⟩ := finG_zero h
    obtain ⟨hb, c9⟩ := nxtB_false hb
    obtain ⟨hb, c8⟩ := nxtB_false hb
    obtain ⟨hb, c7⟩ := nxtB_false hb
    obtain ⟨hb, c6⟩ := nxtB_false hb
    obtain ⟨hb, c5⟩ := nxtB_false hb
    obtain ⟨hb, c4⟩ := nxtB_false hb
    obtain ⟨hb, c3⟩ := nxtB_false hb
    obtain ⟨hb, c2⟩ := nxtB_false hb
    obtain ⟨hb, c1⟩ := nxtB_false hb
    rw [he]
    refine ⟨hw, ?_⟩
    unfold bodyI
    rw [flg_back (nxtV_bd h4) _ rfl rfl]
    simp only [k1, if_true, List.append_assoc]
    rw [nxt_eq h8 c9, nxt_eq h7 c8, nxt_eq h6 c7, nxt_eq h5 c6, nxt_eq h4 c5, nxt_eq h3 c4, nxt_eq h2 c3, nxt_eq h1 c2, ← k1, nxt_eq hB c1]
  · rw [if_neg k1] at h ⊢
    by_cases k2 : nxtV B 1 = 2
    · rw [if_pos k2] at h ⊢
      unfold annG at h ⊢
      simp only at h ⊢
      have h5 := nxtL_lt (s := 4) h4
      have h6 := nxtL_lt (s := 1) h5
      have h7 := nxtL_lt (s := 1) h6
      have h8 := nxtL_lt (s := 1) h7
      have h9 := nxtL_lt (s := 1) h8
      have h10 := nxtL_lt (s := 1) h9
      have h11 := nxtL_lt (s := 2) h10
      have h12 := nxtL_lt (s := 2) h11
      obtain ⟨hb, hw, he⟩ := finG_zero h
      obtain ⟨hb, hz⟩ := Bool.or_eq_false_iff.1 hb
      obtain ⟨hb, c13⟩ := nxtB_false hb
      obtain ⟨hb, c12⟩ := nxtB_false hb
      obtain ⟨hb, c11⟩ := nxtB_false hb
      obtain ⟨hb, c10⟩ := nxtB_false hb
      obtain ⟨hb, c9⟩ := nxtB_false hb
      obtain ⟨hb, c8⟩ := nxtB_false hb
      obtain ⟨hb, c7⟩ := nxtB_false hb
      obtain ⟨hb, c6⟩ := nxtB_false hb
      obtain ⟨hb, c5⟩ := nxtB_false hb
      obtain ⟨hb, c4⟩ := nxtB_false hb
      obtain ⟨hb, c3⟩ := nxtB_false hb
      obtain ⟨hb, c2⟩ := nxtB_false hb
      obtain ⟨hb, c1⟩ := nxtB_false hb
      rw [he]
      refine ⟨hw, ?_⟩
      unfold bodyI
      simp only [k2, show ¬ (2 : Int) = 1 by decide, if_false, List.append_assoc, Int.add_sub_cancel]
      have hz0 := List.eq_nil_of_length_eq_zero (Nat.eq_zero_of_not_pos (of_decide_eq_false hz))
      have e13 := nxt_eq h12 c13
      rw [hz0, List.append_nil] at e13
      rw [e13, nxt_eq h11 c12, nxt_eq h10 c11, nxt_eq h9 c10, nxt_eq h8 c9, nxt_eq h7 c8, nxt_eq h6 c7, nxt_eq h5 c6, nxt_eq h4 c5, nxt_eq h3 c4, nxt_eq h2 c3, nxt_eq h1 c2, ← k2, nxt_eq hB c1]
    · rw [if_neg k2] at h
      cases h
theorem addI_take (l : List Int) : (addI l).take ((addI l).length - 4) = l := by
  rw [addI_len, Nat.add_sub_cancel]
  unfold addI
  exact List.take_left' rfl
theorem takeE_add (l : List Int) : takeE (addI l) = 0 := by
  unfold takeE
  rw [if_neg (by rw [addI_len]; omega), addI_take, if_pos rfl]
theorem takeL_add (l : List Int) : takeL (addI l) = l := by
  unfold takeL
  rw [if_pos (takeE_add l), addI_take]
theorem takeE_zero {l : List Int} (h : takeE l = 0) : addI (takeL l) = l := by
  unfold takeL
  rw [if_pos h]
  unfold takeE at h
  split at h
  · cases h
  · split at h
    · assumption
    · cases h
theorem takeL_lt {l : List Int} (h : ∀ x ∈ l, 0 ≤ x ∧ x < 256) : ∀ x ∈ takeL l, 0 ≤ x ∧ x < 256 := by
  unfold takeL
  split
  · exact fun x hx => h x (List.mem_of_mem_take hx)
  · intro x hx; cases hx
theorem get_put {p : Pk} (h : whyP p = 0) : getP (putL p) = p ∧ getR (putL p) = none := by
  have e : putL p = addI (bodyI p) := if_pos h
  unfold getP getR
  rw [e, if_pos (takeE_add _), if_pos (takeE_add _), takeL_add, bodyG_bodyI h]
  exact ⟨rfl, er_none.2 rfl⟩
theorem put_get {l : List Int} (hl : ∀ x ∈ l, 0 ≤ x ∧ x < 256) (h : getR l = none) : whyP (getP l) = 0 ∧ putL (getP l) = l := by
  unfold getR at h
  by_cases e : takeE l = 0
  · rw [if_pos e] at h
    have e0 := er_none.1 h
    have eG : getP l = (bodyG (takeL l)).1 := if_pos e
    obtain ⟨k1, k2⟩ := bodyI_bodyG (takeL_lt hl) e0
    rw [eG]
    refine ⟨k1, ?_⟩
    rw [show putL (bodyG (takeL l)).1 = addI (bodyI (bodyG (takeL l)).1) from if_pos k1, k2, takeE_zero e]
  · rw [if_neg e] at h; cases h
theorem put_inj {p q : Pk} (hp : whyP p = 0) (hq : whyP q = 0) : putL p = putL q ↔ p = q :=
  ⟨fun e => by rw [← (get_put hp).1, e, (get_put hq).1], fun e => by rw [e]⟩
theorem putR_none {p : Pk} : putR p = none ↔ whyP p = 0 := by
  unfold putR
  by_cases h : whyP p = 0
  · rw [if_pos h]; exact ⟨fun _ => h, fun _ => rfl⟩
  · rw [if_neg h]; exact ⟨fun e => (by cases e), fun e => absurd e h⟩
theorem bodyI_len {p : Pk} (h : whyP p = 0) : (bodyI p).length ≤ 81 := by
  obtain ⟨r, f⟩ := whyP_zero h
  unfold bodyI
  rcases f with ⟨k, f⟩ | ⟨k, f⟩
  · have := f.1.2
    rw [if_pos k]
    simp only [List.length_append, beI_len]
    omega
  · rw [if_neg (by omega)]
    simp only [List.length_append, beI_len]
    omega
theorem putL_len {p : Pk} (h : whyP p = 0) : (putL p).length ≤ 85 := by
  have := bodyI_len h
  rw [show putL p = addI (bodyI p) from if_pos h, addI_len]
  omega
theorem putBody_lt (p : Pk) (h : ∀ x ∈ p.data, 0 ≤ x ∧ x < 256) : ∀ x ∈ bodyI p, 0 ≤ x ∧ x < 256 := by
  intro x hx
  unfold bodyI at hx
  simp only [List.mem_append] at hx
  split at hx
  all_goals
    simp only [List.mem_append] at hx
    repeat (first | exact h x (by assumption) | exact beI_lt _ _ x (by assumption) | (rcases hx with hx | hx))
theorem putL_lt (p : Pk) (h : ∀ x ∈ p.data, 0 ≤ x ∧ x < 256) : ∀ x ∈ putL p, 0 ≤ x ∧ x < 256 := by
  unfold putL
  split
  · refine addI_lt (fun x hx => ?_)
    unfold bodyI at hx
    simp only [List.mem_append] at hx
    split at hx
    all_goals
      simp only [List.mem_append] at hx
      repeat (first | exact h x (by assumption) | exact beI_lt _ _ x (by assumption) | (rcases hx with hx | hx))
  · intro x hx; cases hx
end Go.Proofs.YtfcofokbhhnfkaaDoor.Byt
