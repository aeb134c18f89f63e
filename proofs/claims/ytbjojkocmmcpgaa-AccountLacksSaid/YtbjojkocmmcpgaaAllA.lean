/- geyserlaw20.all, by its contract: all data of a tick. Conditions: a level from 0 to 7. -/
import Derived.Test.YtbjojkocmmcpgaaLawsA
namespace Go.Proofs.Ytbjojkocmmcpgaa.Acc
set_option linter.unusedSimpArgs false
set_option linter.unusedVariables false
open Go.RowKit Go.Maps Go.Proofs.Ytbjojkocmmcpgaa.Er Go.Proofs.Ytbjojkocmmcpgaa.Mod Go.Proofs.YtbjojkocmmcpgaaW.PrintWords
def pkRow (l : List Dat) : List Value := l.flatMap pkCells
/-- A slice of packets, of one's own from block B on. -/
def Pks (w : World) (B : Nat) (v : Value) (l : List Dat) : Prop := w.ownsRow B 34 20 v l.length (pkRow l)
theorem pkRow_app (l m : List Dat) : pkRow (l ++ m) = pkRow l ++ pkRow m := by simp [pkRow]
theorem Pks.val {w : World} {B : Nat} {v : Value} {ms : List Dat} (h : Pks w B v ms) : ∃ A c, v = .slice A ms.length c ∧ ms.length ≤ c ∧ ms.length ≤ maxLen := by
  obtain ⟨h1, h2⟩ := h
  rcases h2 with ⟨rfl, h⟩ | ⟨b, cap, cur, e, hb, hc, h3, h4, _⟩
  · exact ⟨none, 0, by rw [h], Nat.le_of_eq h, by rw [h]; exact Nat.zero_le _⟩
  · exact ⟨_, _, e, h3, Nat.le_trans h3 h4⟩
theorem Pks.of_block {w w' : World} {B : Nat} {v : Value} {l : List Dat} (h : Pks w B v l) (hb : ∀ k, B ≤ k → k < w.heap.size → w'.heap[k]? = w.heap[k]?) : Pks w' B v l := by
  obtain ⟨h1, h2⟩ := h
  refine ⟨h1, ?_⟩
  rcases h2 with h2 | ⟨b, cap, cur, e, hB, hc, h3⟩
  · exact .inl h2
  · have hlt : b < w.heap.size := by
      rcases Nat.lt_or_ge b w.heap.size with h | h
      · exact h
      · rw [Array.getElem?_eq_none h] at hc; cases hc
    exact .inr ⟨b, cap, cur, e, hB, (hb b hB hlt).trans hc, h3⟩
theorem Pks.below {w w' : World} {B : Nat} {v : Value} {l : List Dat} (h : Pks w B v l) (hb : Below w.heap.size w w') : Pks w' B v l := h.of_block (fun k _ hk => hb.block k hk)
theorem Pks.mono {w : World} {B B' : Nat} {v : Value} {l : List Dat} (h : Pks w B v l) (hB : B' ≤ B) : Pks w B' v l := by
  obtain ⟨h1, h2⟩ := h
  refine ⟨h1, ?_⟩
  rcases h2 with h2 | ⟨b, cap, cur, e, hb, hc, h3⟩
  · exact .inl h2
  · exact .inr ⟨b, cap, cur, e, Nat.le_trans hB hb, hc, h3⟩
theorem pk_at : ∀ (ms : List Dat) (i : Nat) (m : Dat) (j : Nat), ms[i]? = some m → j < 20 → (pkRow ms)[i * 20 + j]? = (pkCells m)[j]?
  | [], i, m, j, h, _ => by simp at h
  | x :: ms, 0, m, j, h, hj => by
    obtain rfl : x = m := by simpa using h
    show (pkCells x ++ pkRow ms)[0 * 20 + j]? = _
    rw [Nat.zero_mul, Nat.zero_add, List.getElem?_append_left (by simpa [pkCells] using hj)]
  | x :: ms, i + 1, m, j, h, hj => by
    show (pkCells x ++ pkRow ms)[(i + 1) * 20 + j]? = _
    rw [List.getElem?_append_right (by simp [pkCells]; omega), show (i + 1) * 20 + j - (pkCells x).length = i * 20 + j by simp [pkCells]; omega]
    exact pk_at ms i m j (by simpa using h) hj
theorem Pks.cells {w : World} {B : Nat} {v : Value} {ms : List Dat} (h : Pks w B v ms) (hne : 0 < ms.length) : ∃ b c, v = .slice (some ⟨b, 0, none⟩) ms.length c ∧ B ≤ b ∧ b < w.heap.size ∧ ms.length ≤ c ∧ (∀ i m, ms[i]? = some m → ∀ j v, (pkCells m)[j]? = some v → w.cell? ⟨b, i * 20 + j, none⟩ = some v) := by
  obtain ⟨h1, h2⟩ := h
  rcases h2 with ⟨rfl, h⟩ | ⟨b, cap, cur, e, hb, hc, h3, h4, h5, h6⟩
  · omega
  · have hlt : b < w.heap.size := by
      rcases Nat.lt_or_ge b w.heap.size with h | h
      · exact h
      · rw [Array.getElem?_eq_none h] at hc; cases hc
    refine ⟨b, cap, e, hb, hlt, h3, fun i m hi j v hv => ?_⟩
    have hil : i < ms.length := (List.getElem?_eq_some_iff.1 hi).1
    have hj : j < 20 := (List.getElem?_eq_some_iff.1 hv).1
    rw [← hv, ← pk_at ms i m j hi hj, ← h6, List.getElem?_take, if_pos (by omega)]
    simp [World.cell?, hc]
/-- Of each layer how many: one to four. -/
def manyOf (x : Nat → Int) (l : Nat) : Nat := 1 + (x l % 4).toNat
def allOne (m : Nat → Nat) (t : Int) (l j : Nat) : List Dat := (List.range j).map fun (p : Nat) => mkD l t (p : Int) (m l : Int)
def allUp (m : Nat → Nat) (t : Int) : Nat → List Dat
  | 0 => []
  | k + 1 => allUp m t k ++ allOne m t k (m k)
theorem allOne_succ (m : Nat → Nat) (t : Int) (l j : Nat) : allOne m t l (j + 1) = allOne m t l j ++ [mkD l t (j : Int) (m l : Int)] := by
  unfold allOne; rw [List.range_succ, List.map_append]; rfl
theorem allOne_len (m : Nat → Nat) (t : Int) (l j : Nat) : (allOne m t l j).length = j := by simp [allOne]
theorem allUp_len (m : Nat → Nat) (t : Int) (hm : ∀ l, m l ≤ 4) : ∀ k, (allUp m t k).length ≤ 4 * k
  | 0 => by simp [allUp]
  | k + 1 => by
    have := allUp_len m t hm k
    have := hm k
    simp only [allUp, List.length_append, allOne_len]; omega
def tkV (x : Nat → Int) (t l b : Int) : Value := .agg #[.int .i64 t, .int .u8 (x 0), .int .u8 (x 1), .int .u8 (x 2), .int .u8 (x 3), .int .u8 (x 4), .int .u8 (x 5), .int .u8 (x 6), .int .u8 (x 7), .int .i64 l, .int .i64 b]
def tkCell (x : Nat → Int) (t l b : Int) : Nat → Value
  | 0 => .int .i64 t
  | 9 => .int .i64 l
  | 10 => .int .i64 b
  | j => .int .u8 (x (j - 1))
theorem tk_row (w : World) (x : Nat → Int) (t l b : Int) : (w.alloc (.cells #[.int .i64 t, .int .u8 (x 0), .int .u8 (x 1), .int .u8 (x 2), .int .u8 (x 3), .int .u8 (x 4), .int .u8 (x 5), .int .u8 (x 6), .int .u8 (x 7), .int .i64 l, .int .i64 b] 42)).rowIs w.heap.size 42 11 (tkCell x t l b) :=
  World.rowIs_alloc w #[.int .i64 t, .int .u8 (x 0), .int .u8 (x 1), .int .u8 (x 2), .int .u8 (x 3), .int .u8 (x 4), .int .u8 (x 5), .int .u8 (x 6), .int .u8 (x 7), .int .i64 l, .int .i64 b] _ (tkCell x t l b) (fun i hi => by
    match i, hi with
    | 0, _ => rfl
    | 1, _ => rfl
    | 2, _ => rfl
    | 3, _ => rfl
    | 4, _ => rfl
    | 5, _ => rfl
    | 6, _ => rfl
    | 7, _ => rfl
    | 8, _ => rfl
    | 9, _ => rfl
    | 10, _ => rfl
    | i + 11, h => exact absurd h (by simp))
theorem tk_many (x : Nat → Int) (t l b : Int) (k : Nat) (hk : k < 8) : tkCell x t l b (1 + k) = .int .u8 (x k) := by
  match k, hk with
  | 0, _ => rfl
  | 1, _ => rfl
  | 2, _ => rfl
  | 3, _ => rfl
  | 4, _ => rfl
  | 5, _ => rfl
  | 6, _ => rfl
  | 7, _ => rfl
  | k + 8, h => exact absurd h (by omega)
theorem info34_ : (Try.prog.info? 34).map (fun i => (i.zero, i.size, i.bytes)) = some (some (.agg #[.int .i64 0, .int .i64 0, .int .i64 0, .int .i64 0, .bool false, .int .i64 0, .int .i64 0, .int .i64 0, .int .i64 0, .int .i64 0, .slice none 0 0, .int .i64 0, .int .i64 0, .int .i64 0, .int .i64 0, .int .i64 0, .int .i64 0, .int .i64 0, .int .i64 0, .int .i64 0]), 20, 176) := by kernel_rfl
set_option maxHeartbeats 4000000 in
set_option maxRecDepth 100000 in
theorem all_calls (x : Nat → Int) (t l b lv tk : Int) (W : World) (hx : ∀ i, 0 ≤ x i ∧ x i < 256) (hl : 0 ≤ lv ∧ lv ≤ 7) :
    Calls Try.prog 12 #[tkV x t l b, .int .i64 lv, .int .i64 tk] W fun e w' => ∃ v, e = .returned v ∧ Pks w' W.heap.size v (allUp (manyOf x) tk (lv + 1).toNat) ∧ Below W.heap.size W w' := by
  have HT := Lib.hid (tk_row W x t l b)
  have HX := Lib.hid hx
  obtain ⟨l0, l7⟩ := hl
  have HL : Hid (0 ≤ lv ∧ lv ≤ 7) := Lib.hid ⟨l0, l7⟩
  clear hx
  unfold tkV
  go_enter Try.func12, Try.ntmps12
  go_wp2
  have HB : Hid (Below W.heap.size W ((W.alloc (.cells #[.int .i64 t, .int .u8 (x 0), .int .u8 (x 1), .int .u8 (x 2), .int .u8 (x 3), .int .u8 (x 4), .int .u8 (x 5), .int .u8 (x 6), .int .u8 (x 7), .int .i64 l, .int .i64 b] 42)).alloc (.cells #[] 34))) := Lib.hid (((Below.refl _ _).alloc (Nat.le_refl _) _).alloc (by simp) _)
  have HT2 := Lib.hid (HT.out.alloc (.cells #[] 34))
  have HP : Hid (Pks ((W.alloc (.cells #[.int .i64 t, .int .u8 (x 0), .int .u8 (x 1), .int .u8 (x 2), .int .u8 (x 3), .int .u8 (x 4), .int .u8 (x 5), .int .u8 (x 6), .int .u8 (x 7), .int .i64 l, .int .i64 b] 42)).alloc (.cells #[] 34)) (W.heap.size + 1) (.slice (some ⟨W.heap.size + 1, 0, none⟩) 0 0) (allUp (manyOf x) tk 0)) :=
    Lib.hid ⟨rfl, .inr ⟨W.heap.size + 1, 0, #[], rfl, Nat.le_refl _, by have := heap_new (W.alloc (.cells #[.int .i64 t, .int .u8 (x 0), .int .u8 (x 1), .int .u8 (x 2), .int .u8 (x 3), .int .u8 (x 4), .int .u8 (x 5), .int .u8 (x 6), .int .u8 (x 7), .int .i64 l, .int .i64 b] 42)) (.cells #[] 34); simpa using this, Nat.le_refl _, by decide, rfl, rfl⟩⟩
  go_loopg [7, 8, 9, 10] 9 (fun kq v7 v8 v9 v10 wr => ∃ k : Nat, v8 = .int .i64 k ∧ Hid ((k : Int) ≤ lv + 1 ∧ kq = 9 - k) ∧ Hid (Pks wr (W.heap.size + 1) v7 (allUp (manyOf x) tk k)) ∧ Hid (wr.rowIs W.heap.size 42 11 (tkCell x t l b)) ∧ Hid (Below W.heap.size W wr))
  case atStart => exact ⟨0, rfl, Lib.hid ⟨by omega, by omega⟩, HP, HT2, HB⟩
  case round =>
    obtain ⟨k, rfl, HK, HA, HR, HW⟩ := hrel
    clear HP HT HT2 HB
    by_cases hk : (k : Int) ≤ lv
    · have hk' : decide ((k : Int) ≤ lv) = true := decide_eq_true hk
      have k8 : k < 8 := by omega
      have z0 := HR.out.cell (i := 1 + k) (by omega)
      rw [tk_many x t l b k k8] at z0
      obtain ⟨z, hz⟩ : ∃ z, z = x k := ⟨_, rfl⟩
      rw [← hz] at z0
      have hz1 := HX.out k
      rw [← hz] at hz1
      obtain ⟨hz2, hz3⟩ := hz1
      have HZ := Lib.hid hz
      clear hz
      go_upto_block 2 with (fail)
      obtain ⟨m, hm⟩ : ∃ m : Nat, m = manyOf x k := ⟨_, rfl⟩
      have e : (1 + z % 4 : Int) = (m : Int) := by rw [hm, HZ.out]; unfold manyOf; have := HX.out k; omega
      have m4 : m ≤ 4 := by rw [hm]; unfold manyOf; have := HX.out k; omega
      rw [e]
      have HM := Lib.hid hm
      clear e z0 hm
      obtain ⟨wo, hwo⟩ : ∃ wo : World, wo = wr := ⟨_, rfl⟩
      rw [← hwo] at HA HR HW ⊢
      clear hwo
      go_wp2
      go_loopg [7, 10] (m + 1) (fun kq v7 v10 wr => ∃ j : Nat, v10 = .int .i64 j ∧ Hid (j ≤ m ∧ kq = m + 1 - j) ∧ Hid (Pks wr (W.heap.size + 1) v7 (allUp (manyOf x) tk k ++ allOne (manyOf x) tk k j)) ∧ Hid (wr.rowIs W.heap.size 42 11 (tkCell x t l b)) ∧ Hid (Below W.heap.size W wr))
      case atStart => exact ⟨0, rfl, Lib.hid ⟨by omega, by omega⟩, Lib.hid (by simpa [allOne] using HA.out), HR, HW⟩
      case round =>
        obtain ⟨j, rfl, HJ, HA2, HR2, HW2⟩ := hrel
        clear HA HR HW
        by_cases hj : j < m
        · have hj' : decide ((j : Int) < (m : Int)) = true := decide_eq_true (by omega)
          obtain ⟨i0, hi, hz0, hz1, hz2'⟩ := info_parts info34_
          obtain ⟨ds, hds⟩ : ∃ ds, ds = allUp (manyOf x) tk k ++ allOne (manyOf x) tk k j := ⟨_, rfl⟩
          rw [← hds] at HA2
          have HDL : Hid (ds.length ≤ 40) := Lib.hid (by
            rw [hds, List.length_append, allOne_len]
            have := allUp_len (manyOf x) tk (fun l => by unfold manyOf; have := HX.out l; omega) k
            omega)
          have HDS := Lib.hid hds
          clear hds
          go_wp2_with (first
            | (go_at_call 9; refine (dataOf_calls k tk j m _).mono ?_; rintro e w2 ⟨rfl, h⟩; have HB2 := Lib.hid h; clear h; unfold pkV mkD)
            | (at_builtin; refine wpList_append_own _ rfl (.tmp 29) (.tmp 35) 44 rfl (W.heap.size + 1) 34 i0 (.agg #[.int .i64 0, .int .i64 0, .int .i64 0, .int .i64 0, .bool false, .int .i64 0, .int .i64 0, .int .i64 0, .int .i64 0, .int .i64 0, .slice none 0 0, .int .i64 0, .int .i64 0, .int .i64 0, .int .i64 0, .int .i64 0, .int .i64 0, .int .i64 0, .int .i64 0, .int .i64 0]) 20 176 Try.underlying44 hi hz0 hz1 hz2' rfl (by decide) _ _ _ rfl ((HA2.out.below HB2.out).alloc _) ⟨w2.heap.size, 0, none⟩ 1 1 (pkCells (mkD k tk j m)) rfl rfl ?c1 ?c2 ?c3 ?c4 ?c5 ?_))
          case c1 =>
            intro j' u hu
            have hadd : (⟨w2.heap.size, 0, none⟩ : Addr).add j' = ⟨w2.heap.size, j', none⟩ := by unfold Addr.add; split <;> simp_all
            rw [hadd]
            have := heap_new w2 (.cells (pkCells (mkD k tk j m)).toArray 34)
            simp only [World.cell?]
            exact (congrArg (fun o => (match o with | some (Obj.cells cs _ _) => cs[j']? | _ => none)) this).trans (by simpa using hu)
          case c2 => exact pkCells_one _
          case c3 => have := HDL.out; simp only [maxLen]; omega
          case c4 => have := HDL.out; omega
          case c5 => have := HW2.out.size; have := HR2.out.lt; have := HB2.out.size; simp; omega
          intro v' w5 hown hgr hnil
          have hne : ∀ q, u7.ownBlock = some q → W.heap.size + 1 ≤ q := fun q hq => (HA2.out.lt q hq).1
          have P5 : Hid (Pks w5 (W.heap.size + 1) v' (allUp (manyOf x) tk k ++ allOne (manyOf x) tk k (j + 1))) := Lib.hid (by
            unfold Pks
            rw [allOne_succ, ← List.append_assoc, ← HDS.out, pkRow_app, List.length_append, show pkRow [mkD k tk (j : Int) ((manyOf x k : Nat) : Int)] = pkCells (mkD k tk (j : Int) (m : Int)) from by rw [HM.out]; simp [pkRow]]
            exact hown)
          have R5 : Hid (w5.rowIs W.heap.size 42 11 (tkCell x t l b)) := Lib.hid ((HR2.out.of_block (HB2.out.block _ HR2.out.lt)).alloc _ |>.of_block (hgr.block _ (by have := HR2.out.lt; have := HB2.out.size; simp; omega) (fun e => by have := hne _ e.symm; omega)))
          have W5 : Hid (Below W.heap.size W w5) := Lib.hid (((HW2.out.trans (HB2.out.mono HW2.out.size)).alloc (by have := HW2.out.size; have := HB2.out.size; omega) _).grown hgr (by have := HW2.out.size; have := HB2.out.size; simp; omega) (fun q hq => by have := hne q hq; omega))
          clear hne hown hgr hnil HA2 HR2 HW2 HB2
          go_wp2
          go_roundg (m - j)
          case measure => have := HJ.out; omega
          case rel => exact ⟨j + 1, by go_num, Lib.hid ⟨by omega, by omega⟩, P5, R5, W5⟩
        · have hj' : decide ((j : Int) < (m : Int)) = false := decide_eq_false (by omega)
          have P6 : Hid (Pks wr (W.heap.size + 1) u7 (allUp (manyOf x) tk (k + 1))) := Lib.hid (by
            have e : j = manyOf x k := by rw [← HM.out]; have := HJ.out; omega
            rw [e] at HA2
            exact HA2.out)
          clear HA2
          go_wp2
          go_roundg (8 - k)
          case measure => have := HK.out; omega
          case rel => exact ⟨k + 1, by go_num, Lib.hid ⟨by omega, by have := HK.out; omega⟩, P6, HR2, HW2⟩
    · have hk' : decide ((k : Int) ≤ lv) = false := decide_eq_false hk
      have P7 : Hid (Pks wr W.heap.size u7 (allUp (manyOf x) tk (lv + 1).toNat)) := Lib.hid (by
        have e : k = (lv + 1).toNat := by have := HK.out; omega
        rw [← e]
        exact HA.out.mono (by omega))
      clear HA
      go_wp2
      go_ret
      exact ⟨_, rfl, P7.out, HW.out⟩
end Go.Proofs.Ytbjojkocmmcpgaa.Acc
