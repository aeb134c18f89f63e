/- (*account.Account).begin, by its contract. Conditions: none. -/
import Derived.Test.YtbjojkocmmcpgaaDoorAcc
import Derived.Deep.LoopGhost
import Derived.Deep.DeepCutAuto
import Derived.Deep.CutBlock
import Derived.Deep.RegionHeld3
import Derived.Deep.QuietTactic
import Derived.BigQuiet
import Derived.RowKit3
import Derived.Tactics
namespace Go.Proofs.YtbjojkocmmcpgaaDoor.Acc
set_option linter.unusedSimpArgs false
set_option linter.unusedVariables false
open Go.RowKit Go.Maps Go.Proofs.YtbjojkocmmcpgaaDoor.Er Go.Proofs.YtbjojkocmmcpgaaDoor.Mod
/-- One of the first six cells is written: the layers stay. -/
theorem cell_low {M : Nat → Option Nat} {a a' : Acc} {j : Nat} {v : Value} (hj : j < 6) (hL : ∀ i, i < 8 → a'.L i = a.L i) (h : ∀ k, k < 6 → (if k = j then v else cellAt M a k) = cellAt M a' k) : ∀ k, k < 30 → (if k = j then v else cellAt M a k) = cellAt M a' k :=
  cell_ext (f := fun k => if k = j then v else cellAt M a k) (h 0 (by omega)) (h 1 (by omega)) (h 2 (by omega)) (h 3 (by omega)) (h 4 (by omega)) (h 5 (by omega)) (fun i hi => by
    rw [hL i hi]
    exact ⟨(if_neg (by omega)).trans (cell_heard _ _ _), (if_neg (by omega)).trans (cell_many _ _ _), (if_neg (by omega)).trans (cell_map _ _ _)⟩)
/-- A layer's number is written. -/
theorem cell_lay {M : Nat → Option Nat} {a a' : Acc} {i : Nat} {x : Int} (h : ∀ k, k < 6 → cellAt M a k = cellAt M a' k) (hL : ∀ j, j < 8 → (a'.L j).heard = (a.L j).heard ∧ (a'.L j).many = if j = i then x else (a.L j).many) :
    ∀ k, k < 30 → (if k = 6 + i * 3 + 1 then .int .i64 x else cellAt M a k) = cellAt M a' k :=
  cell_ext (f := fun k => if k = 6 + i * 3 + 1 then .int .i64 x else cellAt M a k) ((if_neg (by omega)).trans (h 0 (by omega))) ((if_neg (by omega)).trans (h 1 (by omega))) ((if_neg (by omega)).trans (h 2 (by omega))) ((if_neg (by omega)).trans (h 3 (by omega))) ((if_neg (by omega)).trans (h 4 (by omega))) ((if_neg (by omega)).trans (h 5 (by omega))) (fun j hj => by
    obtain ⟨h1, h2⟩ := hL j hj
    rw [h1, h2]
    refine ⟨(if_neg (by omega)).trans (cell_heard _ _ _), ?_, (if_neg (by omega)).trans (cell_map _ _ _)⟩
    by_cases e : j = i
    · subst e; exact (if_pos rfl).trans (by rw [if_pos rfl])
    · exact (if_neg (by omega)).trans (by rw [cell_many, if_neg e]))
theorem cell_hrd {M : Nat → Option Nat} {a a' : Acc} {i : Nat} {x : Bool} (h : ∀ k, k < 6 → cellAt M a k = cellAt M a' k) (hL : ∀ j, j < 8 → (a'.L j).many = (a.L j).many ∧ (a'.L j).heard = if j = i then x else (a.L j).heard) :
    ∀ k, k < 30 → (if k = 6 + i * 3 then .bool x else cellAt M a k) = cellAt M a' k :=
  cell_ext (f := fun k => if k = 6 + i * 3 then .bool x else cellAt M a k) ((if_neg (by omega)).trans (h 0 (by omega))) ((if_neg (by omega)).trans (h 1 (by omega))) ((if_neg (by omega)).trans (h 2 (by omega))) ((if_neg (by omega)).trans (h 3 (by omega))) ((if_neg (by omega)).trans (h 4 (by omega))) ((if_neg (by omega)).trans (h 5 (by omega))) (fun j hj => by
    obtain ⟨h1, h2⟩ := hL j hj
    rw [h1, h2]
    refine ⟨?_, (if_neg (by omega)).trans (cell_many _ _ _), (if_neg (by omega)).trans (cell_map _ _ _)⟩
    by_cases e : j = i
    · subst e; exact (if_pos rfl).trans (by rw [if_pos rfl])
    · exact (if_neg (by omega)).trans (by rw [cell_heard, if_neg e]))
theorem six {P : Nat → Prop} (h0 : P 0) (h1 : P 1) (h2 : P 2) (h3 : P 3) (h4 : P 4) (h5 : P 5) : ∀ k, k < 6 → P k
  | 0, _ => h0
  | 1, _ => h1
  | 2, _ => h2
  | 3, _ => h3
  | 4, _ => h4
  | 5, _ => h5
  | k + 6, h => absurd h (by omega)
theorem acc_begin_up (w : World) (g : Nat) (M : Nat → Nat) (a : Acc) (t : Int) (h : IsAcc w g M a) : IsAcc (((w.setCell ⟨g, 1, none⟩ (.bool true)).setCell ⟨g, 2, none⟩ (.int .i64 t)).setCell ⟨g, 3, none⟩ (.bool false)) g M ((a.at t).bareUp 0) := by
  refine IsAcc.set (a := ⟨a.level, true, t, a.first, a.burst, a.sync, a.L⟩) (IsAcc.set (a := ⟨a.level, true, a.tick, a.first, a.burst, a.sync, a.L⟩) (IsAcc.set h 1 _ ?_ ?_) 2 _ ?_ ?_) 3 _ ?_ ?_
  all_goals first
    | exact cell_low (by omega) (fun _ _ => rfl) (six rfl rfl rfl rfl rfl rfl)
    | exact fun _ _ => rfl
/-- A layer is cleared. -/
theorem acc_bare {w : World} {g : Nat} {M : Nat → Nat} {a a' : Acc} {k : Nat} (hk : k < 8) (h : IsAcc w g M a) (h6 : ∀ j, j < 6 → cellAt (fun i => some (M i)) a j = cellAt (fun i => some (M i)) a' j) (hL : ∀ j, j < 8 → a'.L j = if j = k then ⟨(a.L j).heard, 0, []⟩ else a.L j) :
    ∃ w2, (∀ ty, (Builtin.clear_ #[43] ty #[.map (some (M k))]).run Tryd.prog (w.setCell ⟨g, 6 + k * 3 + 1, none⟩ (.int .i64 0)) = .ok (.tuple #[]) w2) ∧ IsAcc w2 g M a' ∧ Fr w w2 (AS g M) := by
  have h1 : IsAcc (w.setCell ⟨g, 6 + k * 3 + 1, none⟩ (.int .i64 0)) g M ⟨a.level, a.has, a.tick, a.first, a.burst, a.sync, fun j => if j = k then ⟨(a.L j).heard, 0, (a.L j).pl⟩ else a.L j⟩ :=
    h.set _ _ (cell_lay (six rfl rfl rfl rfl rfl rfl) (fun j hj => by by_cases e : j = k <;> simp [e])) (fun i hi => by by_cases e : i = k <;> simp [e])
  obtain ⟨w2, hrun, hs, ht⟩ := (h1.sets k hk).clear
  refine ⟨w2, hrun, h1.turn k hk ht (by rw [hL k hk, if_pos rfl]; exact hs) ?_ ?_, ((Fr.refl _ _).set (.inl (.inl rfl)) _).turned ht (.inl (.inr ⟨k, hk, rfl⟩))⟩
  · refine cell_ext (h6 0 (by omega)) (h6 1 (by omega)) (h6 2 (by omega)) (h6 3 (by omega)) (h6 4 (by omega)) (h6 5 (by omega)) (fun j hj => ?_)
    rw [cell_heard, cell_many, cell_map, hL j hj]
    by_cases e : j = k <;> simp [e]
  · intro j hj e
    simp [hL j hj, e]
set_option maxHeartbeats 4000000 in
set_option maxRecDepth 100000 in
theorem begin_calls (w : World) (g : Nat) (M : Nat → Nat) (a : Acc) (t : Int) (h : IsAcc w g M a) :
    Calls Tryd.prog 16 #[.pointer (some ⟨g, 0, none⟩), .int .i64 t] w fun e w' => e = .returned (.tuple #[]) ∧ IsAcc w' g M (a.begin t) ∧ Fr w w' (AS g M) := by
  have k1 : w.cell? ⟨g, 1, none⟩ = some (.bool a.has) := h.row.cell (by omega)
  have k2 : w.cell? ⟨g, 2, none⟩ = some (.int .i64 a.tick) := h.row.cell (by omega)
  have k3 : w.cell? ⟨g, 3, none⟩ = some (.bool a.first) := h.row.cell (by omega)
  have f1 := h.row.frozen 1
  have f2 := h.row.frozen 2
  have f3 := h.row.frozen 3
  have H1 := Lib.hid (acc_begin_up w g M a t h)
  have F1 := Lib.hid ((((Fr.refl w (AS g M)).set (a := ⟨g, 1, none⟩) (.inl (.inl rfl)) (.bool true)).set (a := ⟨g, 2, none⟩) (.inl (.inl rfl)) (.int .i64 t)).set (a := ⟨g, 3, none⟩) (.inl (.inl rfl)) (.bool false))
  clear h
  go_enter Tryd.func16, Tryd.ntmps16
  go_wp2
  go_loopg [4, 15] 9 (fun kq v4 v15 wr => ∃ k : Nat, v15 = .int .i64 k ∧ Hid (k ≤ 8 ∧ kq = 9 - k) ∧ Hid (IsAcc wr g M ((a.at t).bareUp k)) ∧ Hid (Fr w wr (AS g M)))
  case atStart => exact ⟨0, rfl, Lib.hid ⟨by omega, by omega⟩, H1, F1⟩
  case round =>
    obtain ⟨k, rfl, HK, HA, HF⟩ := hrel
    clear H1 F1 k1 k2 k3 f1 f2 f3
    by_cases hk : k < 8
    · have m1 := HA.out.row.cell (i := 6 + k * 3 + 1) (by omega)
      rw [cell_many] at m1
      have m2 := HA.out.row.cell (i := 6 + k * 3 + 2) (by omega)
      rw [cell_map] at m2
      have n1 := HA.out.row.frozen (6 + k * 3 + 1)
      obtain ⟨w2, hrun, h2, f2⟩ := acc_bare (a' := (a.at t).bareUp (k + 1)) hk HA.out (six rfl rfl rfl rfl rfl rfl) (fun j hj => by
        show (if j < k + 1 then (a.L j).bare else a.L j) = if j = k then ⟨(if j < k then (a.L j).bare else a.L j).heard, 0, []⟩ else if j < k then (a.L j).bare else a.L j
        by_cases e : j = k
        · subst e; rw [if_pos (by omega), if_pos rfl, if_neg (by omega)]; rfl
        · rw [if_neg e]
          by_cases e2 : j < k
          · rw [if_pos (by omega), if_pos e2]
          · rw [if_neg (by omega), if_neg e2])
      have H2 := Lib.hid h2
      have F2 := Lib.hid (HF.out.trans f2)
      clear h2 f2 HA HF
      go_wp2
      go_roundg (8 - k)
      case measure => have := HK.out; omega
      case rel => exact ⟨k + 1, by go_num, Lib.hid ⟨by omega, by omega⟩, H2, F2⟩
    · have e : k = 8 := by have := HK.out; omega
      have HB : Hid (IsAcc wr g M (a.begin t)) := Lib.hid ⟨HA.out.row.congr (by
          subst e
          refine cell_ext rfl rfl rfl rfl rfl rfl (fun i hi => ?_)
          rw [cell_heard, cell_many, cell_map, show ((a.at t).bareUp 8).L i = (a.begin t).L i from if_pos hi]
          exact ⟨rfl, rfl, rfl⟩), fun i hi => by
          have := HA.out.sets i hi
          subst e
          rw [show ((a.at t).bareUp 8).L i = (a.begin t).L i from if_pos hi] at this
          exact this, HA.out.apart⟩
      clear HA e
      go_wp2
      go_end0
      exact ⟨rfl, HB.out, HF.out⟩
end Go.Proofs.YtbjojkocmmcpgaaDoor.Acc
