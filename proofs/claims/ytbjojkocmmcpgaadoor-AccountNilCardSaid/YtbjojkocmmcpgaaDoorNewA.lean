/- account.New, by its contract. Conditions: none. -/
import Derived.Test.YtbjojkocmmcpgaaDoorSetLev
namespace Go.Proofs.YtbjojkocmmcpgaaDoor.Acc
set_option linter.unusedSimpArgs false
set_option linter.unusedVariables false
open Go.RowKit Go.Maps Go.Proofs.YtbjojkocmmcpgaaDoor.Er Go.Proofs.YtbjojkocmmcpgaaDoor.Mod
def upM (g k : Nat) (i : Nat) : Option Nat := if i < k then some (g + 1 + i) else none
/-- A new account at block g. -/
structure NewP (w : World) (g : Nat) (M : Nat → Nat) (w' : World) : Prop where
  acc : IsAcc w' g M acc0
  bel : Below w.heap.size w w'
  own : ∀ k, AS g M k → w.heap.size ≤ k
theorem new_row (w : World) : (w.alloc (.cells #[.int .i64 0, .bool false, .int .i64 0, .bool false, .bool false, .int .i64 0, .bool false, .int .i64 0, .map none, .bool false, .int .i64 0, .map none, .bool false, .int .i64 0, .map none, .bool false, .int .i64 0, .map none, .bool false, .int .i64 0, .map none, .bool false, .int .i64 0, .map none, .bool false, .int .i64 0, .map none, .bool false, .int .i64 0, .map none] 48)).rowIs w.heap.size 48 30 (cellAt (upM w.heap.size 0) acc0) :=
  World.rowIs_alloc w #[.int .i64 0, .bool false, .int .i64 0, .bool false, .bool false, .int .i64 0, .bool false, .int .i64 0, .map none, .bool false, .int .i64 0, .map none, .bool false, .int .i64 0, .map none, .bool false, .int .i64 0, .map none, .bool false, .int .i64 0, .map none, .bool false, .int .i64 0, .map none, .bool false, .int .i64 0, .map none, .bool false, .int .i64 0, .map none] _ (cellAt (upM w.heap.size 0) acc0) (fun i hi => by
    match i, hi with
    | 0, _ => rfl
    | 1, _ => rfl
    | 2, _ => rfl
    | 3, _ => rfl
    | 4, _ => rfl
    | 5, _ => rfl
    | 6, _ => rfl
    | 7, _ => rfl
    | 8, _ => rfl
    | 9, _ => rfl
    | 10, _ => rfl
    | 11, _ => rfl
    | 12, _ => rfl
    | 13, _ => rfl
    | 14, _ => rfl
    | 15, _ => rfl
    | 16, _ => rfl
    | 17, _ => rfl
    | 18, _ => rfl
    | 19, _ => rfl
    | 20, _ => rfl
    | 21, _ => rfl
    | 22, _ => rfl
    | 23, _ => rfl
    | 24, _ => rfl
    | 25, _ => rfl
    | 26, _ => rfl
    | 27, _ => rfl
    | 28, _ => rfl
    | 29, _ => rfl
    | i + 30, h => exact absurd h (by simp))
set_option maxHeartbeats 4000000 in
set_option maxRecDepth 100000 in
theorem new_calls (w : World) : Calls Tryd.prog 14 #[] w fun e w' => ∃ g M, e = .returned (.pointer (some ⟨g, 0, none⟩)) ∧ NewP w g M w' := by
  obtain ⟨g, hg⟩ : ∃ g, g = w.heap.size := ⟨_, rfl⟩
  have HR := Lib.hid (new_row w)
  have HG := Lib.hid hg
  clear hg
  go_enter Tryd.func14, Tryd.ntmps14
  go_wp2
  rw [← HG.out] at HR ⊢
  have HB : Hid (Below w.heap.size w (w.alloc (.cells #[.int .i64 0, .bool false, .int .i64 0, .bool false, .bool false, .int .i64 0, .bool false, .int .i64 0, .map none, .bool false, .int .i64 0, .map none, .bool false, .int .i64 0, .map none, .bool false, .int .i64 0, .map none, .bool false, .int .i64 0, .map none, .bool false, .int .i64 0, .map none, .bool false, .int .i64 0, .map none, .bool false, .int .i64 0, .map none] 48))) := Lib.hid ((Below.refl _ _).alloc (Nat.le_refl _) _)
  go_loopg [2, 5] 9 (fun kq v2 v5 wr => ∃ k : Nat, v5 = .int .i64 k ∧ Hid (k ≤ 8 ∧ kq = 9 - k ∧ wr.heap.size = g + 1 + k) ∧ Hid (wr.rowIs g 48 30 (cellAt (upM g k) acc0)) ∧ Hid (∀ i, i < k → IsSet wr (g + 1 + i) []) ∧ Hid (Below w.heap.size w wr))
  case atStart => exact ⟨0, rfl, Lib.hid ⟨by omega, by omega, by simp [HG.out]⟩, HR, Lib.hid (fun i hi => absurd hi (by omega)), HB⟩
  case round =>
    obtain ⟨k, rfl, HK, HA, HS, HW⟩ := hrel
    clear HR HB
    by_cases hk : k < 8
    · have m2 := HA.out.cell (i := 6 + k * 3 + 2) (by omega)
      rw [cell_map] at m2
      have n2 := HA.out.frozen (6 + k * 3 + 2)
      have hlt := HA.out.lt
      have hmm := @run_makeMap Tryd.prog
      have hs : wr.heap.size = g + 1 + k := HK.out.2.2
      have HS2 := Lib.hid hs
      clear hs
      have HZ : Hid (World.rowIs ((wr.setCell ⟨g, 6 + k * 3 + 2, none⟩ (.map (some wr.heap.size))).alloc (.map #[] 0)) g 48 30 (cellAt (upM g (k + 1)) acc0) ∧ (∀ i, i < k + 1 → IsSet ((wr.setCell ⟨g, 6 + k * 3 + 2, none⟩ (.map (some wr.heap.size))).alloc (.map #[] 0)) (g + 1 + i) []) ∧ Below w.heap.size w ((wr.setCell ⟨g, 6 + k * 3 + 2, none⟩ (.map (some wr.heap.size))).alloc (.map #[] 0)) ∧ ((wr.setCell ⟨g, 6 + k * 3 + 2, none⟩ (.map (some wr.heap.size))).alloc (.map #[] 0)).heap.size = g + 1 + (k + 1)) := Lib.hid (by
        refine ⟨((HA.out.set _ _).congr ?_).alloc _, fun i hi => ?_, (HW.out.setCell (by rw [HG.out]; exact Nat.le_refl _) _).alloc (by simpa using HW.out.size) _, by simp [HS2.out]; omega⟩
        · refine cell_ext (f := fun j => if j = 6 + k * 3 + 2 then .map (some wr.heap.size) else cellAt (upM g k) acc0 j) (if_neg (by omega)) (if_neg (by omega)) (if_neg (by omega)) (if_neg (by omega)) (if_neg (by omega)) (if_neg (by omega)) (fun i hi => ?_)
          refine ⟨(if_neg (by omega)).trans (cell_heard _ _ _), (if_neg (by omega)).trans (cell_many _ _ _), ?_⟩
          by_cases e : i = k
          · subst e
            exact (if_pos rfl).trans (by rw [upM, if_pos (by omega), HS2.out])
          · refine (if_neg (by omega)).trans ?_
            rw [cell_map]
            unfold upM
            by_cases e2 : i < k
            · rw [if_pos e2, if_pos (by omega)]
            · rw [if_neg e2, if_neg (by omega)]
        · by_cases e : i = k
          · rw [e, ← HS2.out]
            have := IsSet.new (wr.setCell ⟨g, 6 + k * 3 + 2, none⟩ (.map (some wr.heap.size)))
            simpa using this
          · have h0 : IsSet (wr.setCell ⟨g, 6 + k * 3 + 2, none⟩ (.map (some wr.heap.size))) (g + 1 + i) [] := (HS.out i (by omega)).of_block (Deep.blk_setCell_other _ _ _ _ (by show g + 1 + i ≠ g; omega))
            exact h0.of_block (Deep.blk_alloc_lt _ _ _ h0.lt))
      clear HA HS HW
      go_wp2
      go_roundg (8 - k)
      case measure => have := HK.out; omega
      case rel => exact ⟨k + 1, by go_num, Lib.hid ⟨by omega, by omega, HZ.out.2.2.2⟩, Lib.hid HZ.out.1, Lib.hid HZ.out.2.1, Lib.hid HZ.out.2.2.1⟩
    · have e : k = 8 := by have := HK.out.1; omega
      have HP : Hid (NewP w g (fun i => g + 1 + i) wr) := Lib.hid (by
        subst e
        refine ⟨⟨HA.out.congr (cell_ext rfl rfl rfl rfl rfl rfl (fun i hi => ⟨cell_heard _ _ _, cell_many _ _ _, (cell_map _ _ _).trans (by rw [upM, if_pos hi])⟩)), fun i hi => HS.out i hi, fun i j _ _ h => by omega⟩, HW.out, ?_⟩
        rintro k (rfl | ⟨i, hi, rfl⟩)
        · rw [HG.out]; exact Nat.le_refl _
        · rw [HG.out]; show w.heap.size ≤ w.heap.size + 1 + i; omega)
      clear HA HS HW e
      go_wp2
      go_ret
      exact ⟨_, _, rfl, HP.out⟩
end Go.Proofs.YtbjojkocmmcpgaaDoor.Acc
