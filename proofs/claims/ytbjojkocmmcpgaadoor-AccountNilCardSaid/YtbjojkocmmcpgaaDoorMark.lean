/- (*account.Account).mark, by its contract. Conditions: a level from 0 to 7. -/
import Derived.Test.YtbjojkocmmcpgaaDoorBegin
namespace Go.Proofs.YtbjojkocmmcpgaaDoor.Acc
set_option linter.unusedSimpArgs false
set_option linter.unusedVariables false
open Go.RowKit Go.Maps Go.Proofs.YtbjojkocmmcpgaaDoor.Er Go.Proofs.YtbjojkocmmcpgaaDoor.Mod
def mkCell (m : Mk) : Nat → Value
  | 0 => .bool m.full
  | 1 => .bool m.burst
  | 2 => .bool m.lost
  | _ => .int .i64 m.sync
def mkV (m : Mk) : Value := .agg #[.bool m.full, .bool m.burst, .bool m.lost, .int .i64 m.sync]
theorem row_mk (w : World) (m : Mk) : (w.alloc (.cells #[.bool m.full, .bool m.burst, .bool m.lost, .int .i64 m.sync] 60)).rowIs w.heap.size 60 4 (mkCell m) :=
  World.rowIs_alloc w #[.bool m.full, .bool m.burst, .bool m.lost, .int .i64 m.sync] _ (mkCell m) (fun i hi => by
    match i, hi with
    | 0, _ => rfl
    | 1, _ => rfl
    | 2, _ => rfl
    | 3, _ => rfl
    | i + 4, h => exact absurd h (by simp))
theorem row_mk_set {w : World} {b : Nat} {m : Mk} (h : w.rowIs b 60 4 (mkCell m)) (x y : Bool) : ((w.setCell ⟨b, 0, none⟩ (.bool x)).setCell ⟨b, 2, none⟩ (.bool y)).rowIs b 60 4 (mkCell ⟨x, m.burst, y, m.sync⟩) :=
  ((h.set 0 _).set 2 _).congr (fun i hi => by
    match i, hi with
    | 0, _ => rfl
    | 1, _ => rfl
    | 2, _ => rfl
    | 3, _ => rfl
    | i + 4, h => exact absurd h (by omega))
theorem mark_start (w : World) (f b l : Bool) (s : Int) :
    World.rowIs ((w.alloc (.cells #[.bool false, .bool false, .bool false, .int .i64 0] 60)).alloc (.cells #[.bool f, .bool b, .bool l, .int .i64 s] 60)).drew (w.heap.size + 1) 60 4 (mkCell ⟨f, b, l, s⟩) ∧
    World.rowIs ((w.alloc (.cells #[.bool false, .bool false, .bool false, .int .i64 0] 60)).alloc (.cells #[.bool f, .bool b, .bool l, .int .i64 s] 60)).drew w.heap.size 60 4 (mkCell ⟨false, false, false, 0⟩) ∧
    Below w.heap.size w ((w.alloc (.cells #[.bool false, .bool false, .bool false, .int .i64 0] 60)).alloc (.cells #[.bool f, .bool b, .bool l, .int .i64 s] 60)).drew := by
  refine ⟨?_, ((row_mk w ⟨false, false, false, 0⟩).alloc _).drew, (((Below.refl _ _).alloc (Nat.le_refl _) _).alloc (by simp) _).drew⟩
  have h := (row_mk (w.alloc (.cells #[.bool false, .bool false, .bool false, .int .i64 0] 60)) ⟨f, b, l, s⟩).drew
  simpa using h
theorem markUp_burst (L : Nat → Lay) (m : Mk) : ∀ k, (markUp L m k).burst = m.burst ∧ (markUp L m k).sync = m.sync
  | 0 => ⟨rfl, rfl⟩
  | k + 1 => ⟨rfl, rfl⟩
set_option maxHeartbeats 4000000 in
set_option maxRecDepth 100000 in
theorem mark_calls (w : World) (g : Nat) (M : Nat → Nat) (a : Acc) (h : IsAcc w g M a) (hl : 0 ≤ a.level ∧ a.level ≤ 7) :
    Calls Tryd.prog 17 #[.pointer (some ⟨g, 0, none⟩)] w fun e w' => e = .returned (mkV a.mark) ∧ Below w.heap.size w w' := by
  have k0 : w.cell? ⟨g, 0, none⟩ = some (.int .i64 a.level) := h.row.cell (by omega)
  have k3 : w.cell? ⟨g, 3, none⟩ = some (.bool a.first) := h.row.cell (by omega)
  have k4 : w.cell? ⟨g, 4, none⟩ = some (.bool a.burst) := h.row.cell (by omega)
  have k5 : w.cell? ⟨g, 5, none⟩ = some (.int .i64 a.sync) := h.row.cell (by omega)
  have hlt := h.row.lt
  have HH := Lib.hid h
  clear h
  obtain ⟨m0, hm0⟩ : ∃ m0, m0 = a.mark0 := ⟨_, rfl⟩
  have HE := Lib.hid (show a.mark = markUp a.L m0 (a.level + 1).toNat by rw [hm0]; rfl)
  cases hf : a.first
  all_goals
    rw [hf] at k3
    have hm : m0 = _ := hm0.trans (show a.mark0 = _ by unfold Acc.mark0; rw [hf])
    have HM := Lib.hid hm
    clear hf hm hm0
    go_enter Tryd.func17, Tryd.ntmps17
    go_wp2
    go_region
    go_wp2
    go_loopg [4, 5, 28] 9 (fun kq v4 v5 v28 wr => ∃ k : Nat, v28 = .int .i64 k ∧ Hid ((k : Int) ≤ a.level + 1 ∧ kq = 9 - k) ∧ Hid (wr.rowIs (w.heap.size + 1) 60 4 (mkCell (markUp a.L m0 k))) ∧ Hid (wr.rowIs w.heap.size 60 4 (mkCell ⟨false, false, false, 0⟩)) ∧ Hid (Below w.heap.size w wr))
    case atStart => exact ⟨0, rfl, Lib.hid ⟨by omega, by omega⟩, Lib.hid (by rw [show markUp a.L m0 0 = m0 from rfl, HM.out]; exact (mark_start w _ _ _ _).1), Lib.hid (mark_start w _ _ _ _).2.1, Lib.hid (mark_start w _ _ _ _).2.2⟩
    case round =>
      obtain ⟨k, rfl, HK, HA, HZ, HW⟩ := hrel
      clear k0 k3 k4 k5 HM
      have hI := HH.out.below HW.out
      by_cases hk : (k : Int) < a.level + 1
      · have hk8 : k < 8 := by omega
        have m0_ := hI.row.cell (i := 6 + k * 3) (by omega)
        rw [cell_heard] at m0_
        have m1 := hI.row.cell (i := 6 + k * 3 + 1) (by omega)
        rw [cell_many] at m1
        have m2 := hI.row.cell (i := 6 + k * 3 + 2) (by omega)
        rw [cell_map] at m2
        have b0 : wr.cell? ⟨w.heap.size + 1, 0, none⟩ = some (.bool (markUp a.L m0 k).full) := HA.out.cell (by omega)
        have b2 : wr.cell? ⟨w.heap.size + 1, 2, none⟩ = some (.bool (markUp a.L m0 k).lost) := HA.out.cell (by omega)
        have p0 := HA.out.frozen 0
        have p2 := HA.out.frozen 2
        have hbl := HA.out.lt
        have hlen : ∀ ty b c n, (Builtin.len_ #[43] ty #[.map (some (M k))]).run Tryd.prog ((wr.setCell ⟨w.heap.size + 1, 0, none⟩ (.bool b)).alloc (.cells #[.bool c, .int .i64 n, .map (some (M k))] 45)) = .ok (.int .i64 ((a.L k).pl.length : Int)) ((wr.setCell ⟨w.heap.size + 1, 0, none⟩ (.bool b)).alloc (.cells #[.bool c, .int .i64 n, .map (some (M k))] 45)) := fun ty b c n => by
          have h1 : IsSet (wr.setCell ⟨w.heap.size + 1, 0, none⟩ (.bool b)) (M k) (a.L k).pl := (hI.sets k hk8).of_block (Deep.blk_setCell_other _ _ _ _ ((hI.sets k hk8).ne_row HA.out))
          exact (h1.of_block (Deep.blk_alloc_lt _ _ _ h1.lt)).len ty
        have HP : Hid (∀ x y c n, x = ((markUp a.L m0 k).full && (a.L k).heard) → y = ((markUp a.L m0 k).lost || (a.L k).lost) → World.rowIs (((wr.setCell ⟨w.heap.size + 1, 0, none⟩ (.bool x)).setCell ⟨w.heap.size + 1, 2, none⟩ (.bool y)).alloc (.cells #[.bool c, .int .i64 n, .map (some (M k))] 45)) (w.heap.size + 1) 60 4 (mkCell (markUp a.L m0 (k + 1)))) := Lib.hid (fun x y c n hx hy => by
          rw [show markUp a.L m0 (k + 1) = ⟨x, (markUp a.L m0 k).burst, y, (markUp a.L m0 k).sync⟩ by rw [(markUp_burst _ _ k).1, (markUp_burst _ _ k).2, hx, hy]; rfl]
          exact (row_mk_set HA.out x y).alloc _)
        have HQ : Hid (∀ x y c n, World.rowIs (((wr.setCell ⟨w.heap.size + 1, 0, none⟩ (.bool x)).setCell ⟨w.heap.size + 1, 2, none⟩ (.bool y)).alloc (.cells #[.bool c, .int .i64 n, .map (some (M k))] 45)) w.heap.size 60 4 (mkCell ⟨false, false, false, 0⟩) ∧
            Below w.heap.size w (((wr.setCell ⟨w.heap.size + 1, 0, none⟩ (.bool x)).setCell ⟨w.heap.size + 1, 2, none⟩ (.bool y)).alloc (.cells #[.bool c, .int .i64 n, .map (some (M k))] 45))) := Lib.hid (fun x y c n =>
          ⟨((HZ.out.setOther (by simp) _).setOther (by simp) _).alloc _, ((HW.out.setCell (by simp) _).setCell (by simp) _).alloc (by simpa using HW.out.size) _⟩)
        generalize hfu : (markUp a.L m0 k).full = fu at b0 HP
        generalize hlo : (markUp a.L m0 k).lost = lo at b2 HP
        generalize hla : a.L k = la at m0_ m1 hlen HP
        obtain ⟨hd, mn, pl⟩ := la
        have HX := Lib.hid (show (Lay.lost ⟨hd, mn, pl⟩) = (hd && (mn == 0 || decide ((pl.length : Int) < mn))) from rfl)
        have hkk : (k : Int) + 1 ≤ a.level + 1 := by omega
        clear hI HA HZ HW hfu hlo hla
        dsimp only at m0_ m1 hlen HP
        go_wp2
        all_goals go_roundg (8 - k)
        all_goals first
          | (have := HK.out; omega)
          | (refine ⟨k + 1, by go_num, Lib.hid ⟨by omega, by omega⟩, Lib.hid (HP.out _ _ _ _ ?_ ?_), Lib.hid (HQ.out _ _ _ _).1, Lib.hid (HQ.out _ _ _ _).2⟩; (first | rfl | simp_all); (rw [HX.out]; simp_all))
      · have e : k = (a.level + 1).toNat := by have := HK.out.1; omega
        have b0 : wr.cell? ⟨w.heap.size + 1, 0, none⟩ = some (.bool (markUp a.L m0 k).full) := HA.out.cell (by omega)
        have b1 : wr.cell? ⟨w.heap.size + 1, 1, none⟩ = some (.bool (markUp a.L m0 k).burst) := HA.out.cell (by omega)
        have b2 : wr.cell? ⟨w.heap.size + 1, 2, none⟩ = some (.bool (markUp a.L m0 k).lost) := HA.out.cell (by omega)
        have b3 : wr.cell? ⟨w.heap.size + 1, 3, none⟩ = some (.int .i64 (markUp a.L m0 k).sync) := HA.out.cell (by omega)
        have c0 : wr.cell? ⟨w.heap.size, 0, none⟩ = some (.bool false) := HZ.out.cell (i := 0) (by omega)
        have c1 : wr.cell? ⟨w.heap.size, 1, none⟩ = some (.bool false) := HZ.out.cell (i := 1) (by omega)
        have c2 : wr.cell? ⟨w.heap.size, 2, none⟩ = some (.bool false) := HZ.out.cell (i := 2) (by omega)
        have c3 : wr.cell? ⟨w.heap.size, 3, none⟩ = some (.int .i64 0) := HZ.out.cell (i := 3) (by omega)
        have z0 := HZ.out.frozen 0
        have z1 := HZ.out.frozen 1
        have z2 := HZ.out.frozen 2
        have z3 := HZ.out.frozen 3
        have HE2 : Hid (a.mark = markUp a.L m0 k) := Lib.hid (by rw [HE.out, e])
        clear hI e HE
        go_wp2
        exact bodyPost_ret (v := .agg #[.bool (markUp a.L m0 k).full, .bool (markUp a.L m0 k).burst, .bool (markUp a.L m0 k).lost, .int .i64 (markUp a.L m0 k).sync]) (by simp [results, Tryd.results17, go_sem, c0, c1, c2, c3]) rfl
          ⟨by rw [HE2.out]; rfl, (((HW.out.setCell (by simp) _).setCell (by simp) _).setCell (by simp) _).setCell (by simp) _⟩
end Go.Proofs.YtbjojkocmmcpgaaDoor.Acc
