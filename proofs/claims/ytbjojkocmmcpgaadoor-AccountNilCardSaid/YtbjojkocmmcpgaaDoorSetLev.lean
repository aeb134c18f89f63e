/- (*account.Account).SetLevel, by its contract, at a level from 0 to 7, and at a nil account; New, Level, Tick, Heard. Conditions: as told. -/
import Derived.Test.YtbjojkocmmcpgaaDoorClose
namespace Go.Proofs.YtbjojkocmmcpgaaDoor.Acc
set_option linter.unusedSimpArgs false
set_option linter.unusedVariables false
open Go.RowKit Go.Maps Go.Proofs.YtbjojkocmmcpgaaDoor.Er Go.Proofs.YtbjojkocmmcpgaaDoor.Mod
/-- A layer is let go. -/
theorem acc_zero {w : World} {g : Nat} {M : Nat → Nat} {a a' : Acc} {k : Nat} (hk : k < 8) (h : IsAcc w g M a) (h6 : ∀ j, j < 6 → cellAt (fun i => some (M i)) a j = cellAt (fun i => some (M i)) a' j) (hL : ∀ j, j < 8 → a'.L j = if j = k then lay0 else a.L j) :
    ∃ w2, (∀ ty, (Builtin.clear_ #[43] ty #[.map (some (M k))]).run Tryd.prog ((w.setCell ⟨g, 6 + k * 3, none⟩ (.bool false)).setCell ⟨g, 6 + k * 3 + 1, none⟩ (.int .i64 0)).drew = .ok (.tuple #[]) w2) ∧ IsAcc w2 g M a' ∧ Fr w w2 (AS g M) := by
  have h0 : IsAcc (w.setCell ⟨g, 6 + k * 3, none⟩ (.bool false)) g M ⟨a.level, a.has, a.tick, a.first, a.burst, a.sync, fun j => if j = k then ⟨false, (a.L j).many, (a.L j).pl⟩ else a.L j⟩ :=
    h.set _ _ (cell_hrd (six rfl rfl rfl rfl rfl rfl) (fun j hj => by by_cases e : j = k <;> simp [e])) (fun i hi => by by_cases e : i = k <;> simp [e])
  have h1 : IsAcc ((w.setCell ⟨g, 6 + k * 3, none⟩ (.bool false)).setCell ⟨g, 6 + k * 3 + 1, none⟩ (.int .i64 0)) g M ⟨a.level, a.has, a.tick, a.first, a.burst, a.sync, fun j => if j = k then ⟨false, 0, (a.L j).pl⟩ else a.L j⟩ :=
    h0.set _ _ (cell_lay (six rfl rfl rfl rfl rfl rfl) (fun j hj => by by_cases e : j = k <;> simp [e])) (fun i hi => by by_cases e : i = k <;> simp [e])
  have h2 := h1.drew
  obtain ⟨w2, hrun, hs, ht⟩ := (h2.sets k hk).clear
  refine ⟨w2, hrun, h2.turn k hk ht (by rw [hL k hk, if_pos rfl]; exact hs) ?_ ?_, ((((Fr.refl _ _).set (.inl (.inl rfl)) _).set (.inl (.inl rfl)) _).drew).turned ht (.inl (.inr ⟨k, hk, rfl⟩))⟩
  · refine cell_ext (h6 0 (by omega)) (h6 1 (by omega)) (h6 2 (by omega)) (h6 3 (by omega)) (h6 4 (by omega)) (h6 5 (by omega)) (fun j hj => ?_)
    rw [cell_heard, cell_many, cell_map, hL j hj]
    by_cases e : j = k <;> simp [e, lay0]
  · intro j hj e
    simp [hL j hj, e]
set_option maxHeartbeats 4000000 in
set_option maxRecDepth 100000 in
theorem setLevel_calls (w : World) (g : Nat) (M : Nat → Nat) (a : Acc) (l : Int) (h : IsAcc w g M a) (hl : 0 ≤ l ∧ l ≤ 7) :
    Calls Tryd.prog 7 #[.pointer (some ⟨g, 0, none⟩), .int .i64 l] w fun e w' => e = .returned .nilIface ∧ IsAcc w' g M (a.setLevel l) ∧ Fr w w' (AS g M) := by
  have k0 : w.cell? ⟨g, 0, none⟩ = some (.int .i64 a.level) := h.row.cell (by omega)
  have f0 := h.row.frozen 0
  have H1 : Hid (IsAcc (w.setCell ⟨g, 0, none⟩ (.int .i64 l)) g M (a.setUp l (l + 1).toNat)) := Lib.hid (h.set 0 _ (cell_low (by omega) (fun i hi => by
      show (if l < i ∧ i < (l + 1).toNat then lay0 else a.L i) = a.L i
      rw [if_neg (by omega)]) (six rfl rfl rfl rfl rfl rfl)) (fun i hi => by
      show (if l < i ∧ i < (l + 1).toNat then lay0 else a.L i).pl = (a.L i).pl
      rw [if_neg (by omega)]))
  have F1 := Lib.hid ((Fr.refl w (AS g M)).set (a := ⟨g, 0, none⟩) (.inl (.inl rfl)) (.int .i64 l))
  have hl0 := hl.1
  have hl7 := hl.2
  have HL := Lib.hid hl
  clear h hl
  go_enter Tryd.func7, Tryd.ntmps7
  go_wp2
  go_loopg [5] (9 - (l + 1).toNat) (fun kq v5 wr => ∃ k : Nat, v5 = .int .i64 k ∧ Hid (l < k ∧ k ≤ 8 ∧ kq = 9 - k) ∧ Hid (IsAcc wr g M (a.setUp l k)) ∧ Hid (Fr w wr (AS g M)))
  case atStart => exact ⟨(l + 1).toNat, by rw [show (((l + 1).toNat : Nat) : Int) = l + 1 by omega], Lib.hid ⟨by omega, by omega, by omega⟩, H1, F1⟩
  case round =>
    obtain ⟨k, rfl, HK, HA, HF⟩ := hrel
    clear H1 F1 k0 f0
    by_cases hk : k < 8
    · have m0 := HA.out.row.cell (i := 6 + k * 3) (by omega)
      rw [cell_heard] at m0
      have m1 := HA.out.row.cell (i := 6 + k * 3 + 1) (by omega)
      rw [cell_many] at m1
      have m2 := HA.out.row.cell (i := 6 + k * 3 + 2) (by omega)
      rw [cell_map] at m2
      have n0 := HA.out.row.frozen (6 + k * 3)
      have n1 := HA.out.row.frozen (6 + k * 3 + 1)
      obtain ⟨w2, hrun, h2, f2⟩ := acc_zero (a' := a.setUp l (k + 1)) hk HA.out (six rfl rfl rfl rfl rfl rfl) (fun j hj => by
        show (if l < j ∧ j < k + 1 then lay0 else a.L j) = if j = k then lay0 else if l < j ∧ j < k then lay0 else a.L j
        have := HK.out
        by_cases e : j = k
        · subst e; rw [if_pos (by omega), if_pos rfl]
        · rw [if_neg e]
          by_cases e2 : l < j ∧ j < k
          · rw [if_pos (by omega), if_pos e2]
          · rw [if_neg (by omega), if_neg e2])
      have H2 := Lib.hid h2
      have F2 := Lib.hid (HF.out.trans f2)
      clear h2 f2 HA HF
      go_wp2
      go_region
      go_wp2
      go_roundg (8 - k)
      case measure => have := HK.out; omega
      case rel => exact ⟨k + 1, by go_num, Lib.hid ⟨by have := HK.out; omega, by omega, by omega⟩, H2, F2⟩
    · have e : k = 8 := by have := HK.out; omega
      have HB : Hid (IsAcc wr g M (a.setLevel l)) := Lib.hid ⟨HA.out.row.congr (by
          subst e
          refine cell_ext rfl rfl rfl rfl rfl rfl (fun i hi => ?_)
          rw [cell_heard, cell_many, cell_map, show (a.setUp l 8).L i = (a.setLevel l).L i from by
            show (if l < i ∧ i < 8 then lay0 else a.L i) = if l < i then lay0 else a.L i
            simp [hi]]
          exact ⟨rfl, rfl, rfl⟩), fun i hi => by
          have := HA.out.sets i hi
          subst e
          rw [show (a.setUp l 8).L i = (a.setLevel l).L i from by
            show (if l < i ∧ i < 8 then lay0 else a.L i) = if l < i then lay0 else a.L i
            simp [hi]] at this
          exact this, HA.out.apart⟩
      clear HA e
      go_wp2
      go_ret
      exact ⟨rfl, HB.out, HF.out⟩
set_option maxHeartbeats 4000000 in
theorem heard_calls (w : World) (g : Nat) (M : Nat → Nat) (a : Acc) (i : Nat) (h : IsAcc w g M a) (hi : i < 8) :
    Calls Tryd.prog 9 #[.pointer (some ⟨g, 0, none⟩), .int .i64 (i : Int)] w fun e w' => e = .returned (.bool (a.L i).heard) ∧ w' = w := by
  have m0 := h.row.cell (i := 6 + i * 3) (by omega)
  rw [cell_heard] at m0
  have d1 : decide ((i : Int) < 8) = true := decide_eq_true (by omega)
  clear h
  go_enter Tryd.func9, Tryd.ntmps9
  go_wp2
  go_ret
  exact ⟨rfl, rfl⟩
end Go.Proofs.YtbjojkocmmcpgaaDoor.Acc
