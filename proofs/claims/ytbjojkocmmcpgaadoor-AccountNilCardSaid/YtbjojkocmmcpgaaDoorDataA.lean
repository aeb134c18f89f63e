/- (*account.Account).Data, by its contract, at data that an account takes. Conditions: as told. -/
import Derived.Test.YtbjojkocmmcpgaaDoorNewA
namespace Go.Proofs.YtbjojkocmmcpgaaDoor.Acc
set_option linter.unusedSimpArgs false
set_option linter.unusedVariables false
open Go.RowKit Go.Maps Go.Proofs.YtbjojkocmmcpgaaDoor.Er Go.Proofs.YtbjojkocmmcpgaaDoor.Mod
/-- A packet of data as the laws make it. -/
def pkV (d : Dat) : Value := .agg #[.int .i64 1, .int .i64 0, .int .i64 d.layer, .int .i64 d.tick, .bool d.burst, .int .i64 d.sync, .int .i64 d.many, .int .i64 d.place, .int .i64 0, .int .i64 0, .slice none 0 0, .int .i64 0, .int .i64 0, .int .i64 0, .int .i64 0, .int .i64 0, .int .i64 0, .int .i64 0, .int .i64 0, .int .i64 0]
structure Dat.Ok (d : Dat) : Prop where
  l7 : d.layer < 8
  t0 : 0 ≤ d.tick
  t1 : d.tick < 1099511627776
  m0 : 1 ≤ d.many
  m1 : d.many ≤ 4096
  p0 : 0 ≤ d.place
  p1 : d.place < d.many
structure DataP (w : World) (g : Nat) (M : Nat → Nat) (a : Acc) (ms : List Mk) (v : Value) (w' : World) : Prop where
  acc : IsAcc w' g M a
  fr : Fr w w' (AS g M)
  marks : Marks w' w.heap.size v ms
/-- The packet's box. -/
def Bx (w : World) (b : Nat) (d : Dat) : Prop := w.heap[b]? = some (.cells #[.int .i64 1, .int .i64 0, .int .i64 d.layer, .int .i64 d.tick, .bool d.burst, .int .i64 d.sync, .int .i64 d.many, .int .i64 d.place, .int .i64 0, .int .i64 0, .slice none 0 0, .int .i64 0, .int .i64 0, .int .i64 0, .int .i64 0, .int .i64 0, .int .i64 0, .int .i64 0, .int .i64 0, .int .i64 0] 26 (0, 0))
theorem Bx.fr {w w' : World} {b g : Nat} {M : Nat → Nat} {d : Dat} (h : Bx w b d) (hf : Fr w w' (AS g M)) (hb : ¬ AS g M b) : Bx w' b d := by
  have hlt : b < w.heap.size := by
    rcases Nat.lt_or_ge b w.heap.size with h2 | h2
    · exact h2
    · unfold Bx at h; rw [Array.getElem?_eq_none h2] at h; cases h
  exact (hf.block b hlt hb).trans h
theorem Marks.mono {w : World} {B B' : Nat} {v : Value} {l : List Mk} (h : Marks w B v l) (hB : B' ≤ B) : Marks w B' v l := by
  obtain ⟨h1, h2⟩ := h
  refine ⟨h1, ?_⟩
  rcases h2 with h2 | ⟨b, cap, cur, e, hb, hc, h3⟩
  · exact .inl h2
  · exact .inr ⟨b, cap, cur, e, Nat.le_trans hB hb, hc, h3⟩
theorem come_close {a : Acc} {d : Dat} (h : a.has = false ∨ a.tick < d.tick) : a.come d = a.close d.tick := by
  unfold Acc.come
  rw [if_neg]
  rintro ⟨h1, h2⟩
  rcases h with h | h
  · rw [h1] at h; cases h
  · omega
theorem come_same {a : Acc} {d : Dat} (h : a.has = true) (h2 : a.tick = d.tick) : a.come d = (a, []) := if_pos ⟨h, h2⟩
theorem close_has {a : Acc} {t : Int} (h : a.has = false) : a.close t = (a.begin t, []) := by unfold Acc.close; rw [h]; rfl
theorem goes_has (a : Acc) : ∀ k, (a.goes k).1.has = a.has ∨ 0 < k := fun k => by
  cases k with
  | zero => exact .inl rfl
  | succ k => exact .inr (Nat.succ_pos k)
theorem goes_pl (a : Acc) (i : Nat) : ∀ k, ((a.goes k).1.L i).pl.length ≤ (a.L i).pl.length
  | 0 => Nat.le_refl _
  | k + 1 => Nat.zero_le _
theorem come_pl (a : Acc) (d : Dat) (i : Nat) : ((a.come d).1.L i).pl.length ≤ (a.L i).pl.length := by
  unfold Acc.come
  split
  · exact Nat.le_refl _
  · unfold Acc.close
    split
    · refine Nat.le_trans (goes_pl _ i _) ?_
      exact Nat.zero_le _
    · exact Nat.zero_le _
theorem told_L (b : Acc) (d : Dat) : (b.told d).L = b.L := by unfold Acc.told; split <;> rfl
/-- The layer has been heard, and how many. -/
def Acc.hear (a : Acc) (d : Dat) : Acc := ⟨a.level, a.has, a.tick, a.first, a.burst, a.sync, fun i => if i = d.layer then ⟨true, if (a.L i).many = 0 then d.many else (a.L i).many, (a.L i).pl⟩ else a.L i⟩
structure Stg (w : World) (g : Nat) (M : Nat → Nat) (b : Acc) (d : Dat) (v : Value) (ms : List Mk) (W : World) : Prop where
  acc : IsAcc W g M b
  fr : Fr w W (AS g M)
  marks : Marks W w.heap.size v ms
  box : Bx W w.heap.size d
theorem Stg.step {w W W' : World} {g : Nat} {M : Nat → Nat} {b b' : Acc} {d : Dat} {v : Value} {ms : List Mk} (h : Stg w g M b d v ms W) (hf : Fr W W' (AS g M)) (ha : IsAcc W' g M b') (hB : ∀ k, AS g M k → k < w.heap.size) : Stg w g M b' d v ms W' :=
  ⟨ha, h.fr.trans hf, h.marks.fr hf hB, h.box.fr hf (fun e => by have := hB _ e; omega)⟩
theorem told_step {w W : World} {g : Nat} {M : Nat → Nat} {b : Acc} {d : Dat} {v : Value} {ms : List Mk} (h : Stg w g M b d v ms W) (hB : ∀ k, AS g M k → k < w.heap.size) (hf : b.first = false) :
    Stg w g M (Acc.told b d) d v ms (((W.setCell ⟨g, 3, none⟩ (.bool true)).setCell ⟨g, 4, none⟩ (.bool d.burst)).setCell ⟨g, 5, none⟩ (.int .i64 d.sync)).drew := by
  refine h.step (((((Fr.refl _ _).set (.inl (.inl rfl)) _).set (.inl (.inl rfl)) _).set (.inl (.inl rfl)) _).drew) ?_ hB
  rw [show Acc.told b d = ⟨b.level, b.has, b.tick, true, d.burst, d.sync, b.L⟩ from by unfold Acc.told; rw [hf]; rfl]
  refine IsAcc.drew ?_
  refine IsAcc.set (a := ⟨b.level, b.has, b.tick, true, d.burst, b.sync, b.L⟩) (IsAcc.set (a := ⟨b.level, b.has, b.tick, true, b.burst, b.sync, b.L⟩) (IsAcc.set h.acc 3 _ ?_ ?_) 4 _ ?_ ?_) 5 _ ?_ ?_
  all_goals first
    | exact cell_low (by omega) (fun _ _ => rfl) (six rfl rfl rfl rfl rfl rfl)
    | exact fun _ _ => rfl
theorem hear_more {w W : World} {g : Nat} {M : Nat → Nat} {b : Acc} {d : Dat} {v : Value} {ms : List Mk} (h : Stg w g M b d v ms W) (hB : ∀ k, AS g M k → k < w.heap.size) (hm : (b.L d.layer).many ≠ 0) :
    Stg w g M (Acc.hear b d) d v ms (W.setCell ⟨g, 6 + d.layer * 3, none⟩ (.bool true)).drew := by
  refine h.step (((Fr.refl _ _).set (.inl (.inl rfl)) _).drew) (IsAcc.drew ?_) hB
  refine h.acc.set _ _ (cell_hrd (six rfl rfl rfl rfl rfl rfl) (fun j hj => ?_)) (fun i hi => ?_)
  · show (if j = d.layer then (⟨true, if (b.L j).many = 0 then d.many else (b.L j).many, (b.L j).pl⟩ : Lay) else b.L j).many = _ ∧ (if j = d.layer then (⟨true, if (b.L j).many = 0 then d.many else (b.L j).many, (b.L j).pl⟩ : Lay) else b.L j).heard = _
    by_cases e : j = d.layer
    · subst e; simp [hm]
    · simp [e]
  · show (if i = d.layer then (⟨true, if (b.L i).many = 0 then d.many else (b.L i).many, (b.L i).pl⟩ : Lay) else b.L i).pl = _
    by_cases e : i = d.layer <;> simp [e]
theorem hear_none {w W : World} {g : Nat} {M : Nat → Nat} {b : Acc} {d : Dat} {v : Value} {ms : List Mk} (h : Stg w g M b d v ms W) (hB : ∀ k, AS g M k → k < w.heap.size) (hm : (b.L d.layer).many = 0) :
    Stg w g M (Acc.hear b d) d v ms ((W.setCell ⟨g, 6 + d.layer * 3, none⟩ (.bool true)).setCell ⟨g, 6 + d.layer * 3 + 1, none⟩ (.int .i64 d.many)).drew := by
  refine h.step ((((Fr.refl _ _).set (.inl (.inl rfl)) _).set (.inl (.inl rfl)) _).drew) (IsAcc.drew ?_) hB
  have h1 : IsAcc (W.setCell ⟨g, 6 + d.layer * 3, none⟩ (.bool true)) g M ⟨b.level, b.has, b.tick, b.first, b.burst, b.sync, fun j => if j = d.layer then ⟨true, (b.L j).many, (b.L j).pl⟩ else b.L j⟩ :=
    h.acc.set _ _ (cell_hrd (six rfl rfl rfl rfl rfl rfl) (fun j hj => by by_cases e : j = d.layer <;> simp [e])) (fun i hi => by by_cases e : i = d.layer <;> simp [e])
  refine h1.set _ _ (cell_lay (six rfl rfl rfl rfl rfl rfl) (fun j hj => ?_)) (fun i hi => ?_)
  · show (if j = d.layer then (⟨true, if (b.L j).many = 0 then d.many else (b.L j).many, (b.L j).pl⟩ : Lay) else b.L j).heard = _ ∧ (if j = d.layer then (⟨true, if (b.L j).many = 0 then d.many else (b.L j).many, (b.L j).pl⟩ : Lay) else b.L j).many = _
    by_cases e : j = d.layer
    · subst e; simp [hm]
    · simp [e]
  · show (if i = d.layer then (⟨true, if (b.L i).many = 0 then d.many else (b.L i).many, (b.L i).pl⟩ : Lay) else b.L i).pl = _
    by_cases e : i = d.layer <;> simp [e]
theorem put_step {w W : World} {g : Nat} {M : Nat → Nat} {b : Acc} {d : Dat} {v : Value} {ms : List Mk} (h : Stg w g M (Acc.hear b d) d v ms W) (hB : ∀ k, AS g M k → k < w.heap.size) (hd : Dat.Ok d) (hn : (b.L d.layer).pl.length < 1000000) :
    ∃ W2, (Instr.mapUpdate 43 (.map (some (M d.layer))) (.int .i64 d.place) (.bool true)).run Tryd.prog W = .ok () W2 ∧ Stg w g M (b.put d) d v ms W2 := by
  have hx : (Lit.int .i64 d.place).wf = true := WalkArith.wf_i64 ⟨by have := hd.p0; omega, by have := hd.p1; have := hd.m1; omega⟩
  have hpl : ((Acc.hear b d).L d.layer).pl = (b.L d.layer).pl := by
    show (if d.layer = d.layer then (⟨true, if (b.L d.layer).many = 0 then d.many else (b.L d.layer).many, (b.L d.layer).pl⟩ : Lay) else b.L d.layer).pl = _
    rw [if_pos rfl]
  obtain ⟨W2, hrun, hs, ht⟩ := (h.acc.sets d.layer hd.l7).put d.place hx (by rw [hpl]; simp only [maxLen]; omega)
  rw [hpl] at hs
  refine ⟨W2, hrun, h.step ((Fr.refl _ _).turned ht (.inl (.inr ⟨d.layer, hd.l7, rfl⟩))) (h.acc.turn d.layer hd.l7 ht ?_ ?_ ?_) hB⟩
  · rw [show ((b.put d).L d.layer).pl = if d.place ∈ (b.L d.layer).pl then (b.L d.layer).pl else (b.L d.layer).pl ++ [d.place] from by
      show (if d.layer = d.layer then (b.L d.layer).put d else b.L d.layer).pl = _
      rw [if_pos rfl]; rfl]
    exact hs
  · refine cell_ext rfl rfl rfl rfl rfl rfl (fun j hj => ?_)
    rw [cell_heard, cell_many, cell_map]
    by_cases e : j = d.layer
    · subst e; simp [Acc.hear, Acc.put, Lay.put]
    · simp [Acc.hear, Acc.put, e]
  · intro j hj e
    simp [Acc.hear, Acc.put, e]
theorem ret3e {v : Value} {x y : Bool} (h : x = y) : Ending.returned (.tuple #[v, .bool x, .nilIface]) = .returned (.tuple #[v, .bool y, .nilIface]) := by rw [h]
set_option maxHeartbeats 8000000 in
set_option maxRecDepth 100000 in
theorem data_calls (w : World) (g : Nat) (M : Nat → Nat) (a : Acc) (d : Dat) (h : IsAcc w g M a) (hl : 0 ≤ a.level ∧ a.level ≤ 7) (ht : 0 ≤ a.tick ∧ a.tick ≤ 1099511627776) (hd : Dat.Ok d) (hly : (d.layer : Int) ≤ a.level) (hge : a.has = true → a.tick ≤ d.tick) (hpl : ∀ i, (a.L i).pl.length < 1000000) :
    Calls Tryd.prog 4 #[.pointer (some ⟨g, 0, none⟩), pkV d] w fun e w' => ∃ v, e = .returned (.tuple #[v, .bool (a.fresh d), .nilIface]) ∧ DataP w g M (a.data d) (a.come d).2 v w' := by
  have c0 : decide ((d.layer : Int) < 0) = false := decide_eq_false (by omega)
  have c1 : decide (8 ≤ (d.layer : Int)) = false := decide_eq_false (by have := hd.l7; omega)
  have c2 : decide (d.tick < 0) = false := decide_eq_false (by have := hd.t0; omega)
  have c3 : decide (1099511627776 ≤ d.tick) = false := decide_eq_false (by have := hd.t1; omega)
  have c4 : decide (d.many < 1) = false := decide_eq_false (by have := hd.m0; omega)
  have c5 : decide (4096 < d.many) = false := decide_eq_false (by have := hd.m1; omega)
  have c6 : decide (d.place < 0) = false := decide_eq_false (by have := hd.p0; omega)
  have c7 : decide (d.many ≤ d.place) = false := decide_eq_false (by have := hd.p1; omega)
  have c8 : decide (a.level < (d.layer : Int)) = false := decide_eq_false (by omega)
  have k0 : w.cell? ⟨g, 0, none⟩ = some (.int .i64 a.level) := h.row.cell (by omega)
  have k1 : w.cell? ⟨g, 1, none⟩ = some (.bool a.has) := h.row.cell (by omega)
  have k2 : w.cell? ⟨g, 2, none⟩ = some (.int .i64 a.tick) := h.row.cell (by omega)
  have glt := h.row.lt
  have HH := Lib.hid h
  have HD := Lib.hid hd
  have HPL := Lib.hid hpl
  have HLL := Lib.hid (And.intro hl (And.intro ht hly))
  unfold pkV
  clear h hd hpl hl ht hly
  have hc : a.has = false ∨ (a.has = true ∧ a.tick < d.tick) ∨ (a.has = true ∧ a.tick = d.tick) := by
    cases hh : a.has with
    | false => exact .inl rfl
    | true =>
      have := hge hh
      rcases (by omega : a.tick < d.tick ∨ a.tick = d.tick) with h | h
      · exact .inr (.inl ⟨rfl, h⟩)
      · exact .inr (.inr ⟨rfl, h⟩)
  clear hge
  have HBX : Hid (∀ n, Bx ((w.alloc (.cells #[.int .i64 1, .int .i64 0, .int .i64 d.layer, .int .i64 d.tick, .bool d.burst, .int .i64 d.sync, .int .i64 d.many, .int .i64 d.place, .int .i64 0, .int .i64 0, .slice none 0 0, .int .i64 0, .int .i64 0, .int .i64 0, .int .i64 0, .int .i64 0, .int .i64 0, .int .i64 0, .int .i64 0, .int .i64 0] 26)).drewN n) w.heap.size d) := Lib.hid (fun n => heap_new w _)
  obtain ⟨b, hb⟩ : ∃ b, b = (a.come d).1 := ⟨_, rfl⟩
  have HB := Lib.hid hb
  clear hb
  rcases hc with hh | ⟨hh, hlt⟩ | ⟨hh, heq⟩
  · have HCM : Hid (a.come d = (a.begin d.tick, [])) := Lib.hid ((come_close (.inl hh)).trans (close_has hh))
    have HHH := Lib.hid hh
    rw [hh] at k1
    clear hh
    go_enter Tryd.func4, Tryd.ntmps4
    go_wp2
    go_quiet (fail)
    go_wp2
    go_quiet (fail)
    go_upto_region 10 with (first
      | (go_at_call 12; refine (close_none _ g M a _ ((HH.out.alloc _).drewN _) HHH.out).mono ?_; rintro e w3 ⟨rfl, h3⟩; have HS : Hid (Stg w g M b d (.slice none 0 0) (a.come d).2 w3) := Lib.hid ⟨by rw [HB.out, HCM.out]; exact h3.acc, (((Fr.refl w _).alloc _).drewN _).trans h3.fr, by rw [HCM.out]; exact h3.marks.mono (by simp), (HBX.out _).fr h3.fr (fun e => by have := HH.out.lt _ e; omega)⟩; clear h3))
    clear HHH HCM
    clear HBX k0 k1 k2 c0 c1 c2 c3 c4 c5 c6 c7 c8
    have k3 : w3.cell? ⟨g, 3, none⟩ = some (.bool b.first) := HS.out.acc.row.cell (by omega)
    have k4 : w3.cell? ⟨g, 4, none⟩ = some (.bool b.burst) := HS.out.acc.row.cell (by omega)
    have k5 : w3.cell? ⟨g, 5, none⟩ = some (.int .i64 b.sync) := HS.out.acc.row.cell (by omega)
    have f3 := HS.out.acc.row.frozen 3
    have f4 := HS.out.acc.row.frozen 4
    have f5 := HS.out.acc.row.frozen 5
    have x4 : w3.cell? ⟨w.heap.size, 4, none⟩ = some (.bool d.burst) := by have := HS.out.box; unfold Bx at this; simp [World.cell?, this]
    have x5 : w3.cell? ⟨w.heap.size, 5, none⟩ = some (.int .i64 d.sync) := by have := HS.out.box; unfold Bx at this; simp [World.cell?, this]
    cases hf : b.first
    · rw [hf] at k3
      have HT := Lib.hid (told_step HS.out HH.out.lt hf)
      clear hf
      go_wp2
      go_region
      generalize (((w3.setCell ⟨g, 3, none⟩ (.bool true)).setCell ⟨g, 4, none⟩ (.bool d.burst)).setCell ⟨g, 5, none⟩ (.int .i64 d.sync)).drew = w4 at HT ⊢
      clear HS k3 k4 k5 f3 f4 f5 x4 x5
      obtain ⟨b4, hb4⟩ : ∃ b4, b4 = b.told d := ⟨_, rfl⟩
      rw [← hb4] at HT
      have HB4 := Lib.hid hb4
      clear hb4
      have x2 : w4.cell? ⟨w.heap.size, 2, none⟩ = some (.int .i64 (d.layer : Int)) := by have := HT.out.box; unfold Bx at this; simp [World.cell?, this]
      have x6 : w4.cell? ⟨w.heap.size, 6, none⟩ = some (.int .i64 d.many) := by have := HT.out.box; unfold Bx at this; simp [World.cell?, this]
      have m0 := HT.out.acc.row.cell (i := 6 + d.layer * 3) (by have := HD.out.l7; omega)
      rw [cell_heard] at m0
      have m1 := HT.out.acc.row.cell (i := 6 + d.layer * 3 + 1) (by have := HD.out.l7; omega)
      rw [cell_many] at m1
      have n0 := HT.out.acc.row.frozen (6 + d.layer * 3)
      have n1 := HT.out.acc.row.frozen (6 + d.layer * 3 + 1)
      have hne := HH.out.row.lt
      have l7 : d.layer < 8 := HD.out.l7
      go_wp2
      go_region
      by_cases hm : (b4.L d.layer).many = 0
      · have hm1 : ((b4.L d.layer).many == 0) = true := by simp [hm]
        have HN := Lib.hid (hear_none HT.out HH.out.lt hm)
        clear hm
        go_upto_region 16 with (fail)
        generalize ((w4.setCell ⟨g, 6 + d.layer * 3, none⟩ (.bool true)).setCell ⟨g, 6 + d.layer * 3 + 1, none⟩ (.int .i64 d.many)).drew = w5 at HN ⊢
        clear HT m0 m1 n0 n1 x2 x6 hm1
        have m2 := HN.out.acc.row.cell (i := 6 + d.layer * 3 + 2) (by have := HD.out.l7; omega)
        rw [cell_map] at m2
        have x7 : w5.cell? ⟨w.heap.size, 7, none⟩ = some (.int .i64 d.place) := by have := HN.out.box; unfold Bx at this; simp [World.cell?, this]
        have hwf : (Lit.int .i64 d.place).wf = true := WalkArith.wf_i64 ⟨by have := HD.out.p0; omega, by have := HD.out.p1; have := HD.out.m1; omega⟩
        have hlook := (HN.out.acc.drew.sets d.layer l7).look d.place hwf
        rw [show ((Acc.hear b4 d).L d.layer).pl = (b.L d.layer).pl from by simp [Acc.hear, HB4.out, told_L]] at hlook
        obtain ⟨W2, hrun, h2⟩ := put_step (b := b4) (HN.out.step ((Fr.refl _ _).drew.drew) HN.out.acc.drew.drew HH.out.lt) HH.out.lt HD.out (by rw [HB4.out, told_L, HB.out]; exact Nat.lt_of_le_of_lt (come_pl a d _) (HPL.out _))
        have H2 : Hid (DataP w g M (a.data d) (a.come d).2 (.slice none 0 0) W2) := Lib.hid ⟨by have := h2.acc; rw [HB4.out, HB.out] at this; exact this, h2.fr, h2.marks⟩
        have HFR : Hid (a.fresh d = !decide (d.place ∈ (b.L d.layer).pl)) := Lib.hid (by rw [HB.out]; rfl)
        clear h2 hwf HN
        go_region
        go_wp2
        go_region
        go_wp2
        go_ret3
        exact ⟨(.slice none 0 0), ret3e HFR.out.symm, H2.out⟩
      · have hm1 : ((b4.L d.layer).many == 0) = false := by simp [hm]
        have HN := Lib.hid (hear_more HT.out HH.out.lt hm)
        clear hm
        go_upto_region 16 with (fail)
        generalize (w4.setCell ⟨g, 6 + d.layer * 3, none⟩ (.bool true)).drew = w5 at HN ⊢
        clear HT m0 m1 n0 n1 x2 x6 hm1
        have m2 := HN.out.acc.row.cell (i := 6 + d.layer * 3 + 2) (by have := HD.out.l7; omega)
        rw [cell_map] at m2
        have x7 : w5.cell? ⟨w.heap.size, 7, none⟩ = some (.int .i64 d.place) := by have := HN.out.box; unfold Bx at this; simp [World.cell?, this]
        have hwf : (Lit.int .i64 d.place).wf = true := WalkArith.wf_i64 ⟨by have := HD.out.p0; omega, by have := HD.out.p1; have := HD.out.m1; omega⟩
        have hlook := (HN.out.acc.drew.sets d.layer l7).look d.place hwf
        rw [show ((Acc.hear b4 d).L d.layer).pl = (b.L d.layer).pl from by simp [Acc.hear, HB4.out, told_L]] at hlook
        obtain ⟨W2, hrun, h2⟩ := put_step (b := b4) (HN.out.step ((Fr.refl _ _).drew.drew) HN.out.acc.drew.drew HH.out.lt) HH.out.lt HD.out (by rw [HB4.out, told_L, HB.out]; exact Nat.lt_of_le_of_lt (come_pl a d _) (HPL.out _))
        have H2 : Hid (DataP w g M (a.data d) (a.come d).2 (.slice none 0 0) W2) := Lib.hid ⟨by have := h2.acc; rw [HB4.out, HB.out] at this; exact this, h2.fr, h2.marks⟩
        have HFR : Hid (a.fresh d = !decide (d.place ∈ (b.L d.layer).pl)) := Lib.hid (by rw [HB.out]; rfl)
        clear h2 hwf HN
        go_region
        go_wp2
        go_region
        go_wp2
        go_ret3
        exact ⟨(.slice none 0 0), ret3e HFR.out.symm, H2.out⟩
    · rw [hf] at k3
      obtain ⟨w4, hw4⟩ : ∃ w4, w4 = w3 := ⟨_, rfl⟩
      have HT : Hid (Stg w g M (b.told d) d (.slice none 0 0) (a.come d).2 w4) := Lib.hid (by rw [hw4, show b.told d = b from by unfold Acc.told; rw [hf]; rfl]; exact HS.out)
      rw [← hw4] at k3 ⊢
      clear hf HS hw4 k4 k5 f3 f4 f5 x4 x5
      obtain ⟨b4, hb4⟩ : ∃ b4, b4 = b.told d := ⟨_, rfl⟩
      rw [← hb4] at HT
      have HB4 := Lib.hid hb4
      clear hb4
      have x2 : w4.cell? ⟨w.heap.size, 2, none⟩ = some (.int .i64 (d.layer : Int)) := by have := HT.out.box; unfold Bx at this; simp [World.cell?, this]
      have x6 : w4.cell? ⟨w.heap.size, 6, none⟩ = some (.int .i64 d.many) := by have := HT.out.box; unfold Bx at this; simp [World.cell?, this]
      have m0 := HT.out.acc.row.cell (i := 6 + d.layer * 3) (by have := HD.out.l7; omega)
      rw [cell_heard] at m0
      have m1 := HT.out.acc.row.cell (i := 6 + d.layer * 3 + 1) (by have := HD.out.l7; omega)
      rw [cell_many] at m1
      have n0 := HT.out.acc.row.frozen (6 + d.layer * 3)
      have n1 := HT.out.acc.row.frozen (6 + d.layer * 3 + 1)
      have hne := HH.out.row.lt
      have l7 : d.layer < 8 := HD.out.l7
      go_wp2
      go_region
      by_cases hm : (b4.L d.layer).many = 0
      · have hm1 : ((b4.L d.layer).many == 0) = true := by simp [hm]
        have HN := Lib.hid (hear_none HT.out HH.out.lt hm)
        clear hm
        go_upto_region 16 with (fail)
        generalize ((w4.setCell ⟨g, 6 + d.layer * 3, none⟩ (.bool true)).setCell ⟨g, 6 + d.layer * 3 + 1, none⟩ (.int .i64 d.many)).drew = w5 at HN ⊢
        clear HT m0 m1 n0 n1 x2 x6 hm1
        have m2 := HN.out.acc.row.cell (i := 6 + d.layer * 3 + 2) (by have := HD.out.l7; omega)
        rw [cell_map] at m2
        have x7 : w5.cell? ⟨w.heap.size, 7, none⟩ = some (.int .i64 d.place) := by have := HN.out.box; unfold Bx at this; simp [World.cell?, this]
        have hwf : (Lit.int .i64 d.place).wf = true := WalkArith.wf_i64 ⟨by have := HD.out.p0; omega, by have := HD.out.p1; have := HD.out.m1; omega⟩
        have hlook := (HN.out.acc.drew.sets d.layer l7).look d.place hwf
        rw [show ((Acc.hear b4 d).L d.layer).pl = (b.L d.layer).pl from by simp [Acc.hear, HB4.out, told_L]] at hlook
        obtain ⟨W2, hrun, h2⟩ := put_step (b := b4) (HN.out.step ((Fr.refl _ _).drew.drew) HN.out.acc.drew.drew HH.out.lt) HH.out.lt HD.out (by rw [HB4.out, told_L, HB.out]; exact Nat.lt_of_le_of_lt (come_pl a d _) (HPL.out _))
        have H2 : Hid (DataP w g M (a.data d) (a.come d).2 (.slice none 0 0) W2) := Lib.hid ⟨by have := h2.acc; rw [HB4.out, HB.out] at this; exact this, h2.fr, h2.marks⟩
        have HFR : Hid (a.fresh d = !decide (d.place ∈ (b.L d.layer).pl)) := Lib.hid (by rw [HB.out]; rfl)
        clear h2 hwf HN
        go_region
        go_wp2
        go_region
        go_wp2
        go_ret3
        exact ⟨(.slice none 0 0), ret3e HFR.out.symm, H2.out⟩
      · have hm1 : ((b4.L d.layer).many == 0) = false := by simp [hm]
        have HN := Lib.hid (hear_more HT.out HH.out.lt hm)
        clear hm
        go_upto_region 16 with (fail)
        generalize (w4.setCell ⟨g, 6 + d.layer * 3, none⟩ (.bool true)).drew = w5 at HN ⊢
        clear HT m0 m1 n0 n1 x2 x6 hm1
        have m2 := HN.out.acc.row.cell (i := 6 + d.layer * 3 + 2) (by have := HD.out.l7; omega)
        rw [cell_map] at m2
        have x7 : w5.cell? ⟨w.heap.size, 7, none⟩ = some (.int .i64 d.place) := by have := HN.out.box; unfold Bx at this; simp [World.cell?, this]
        have hwf : (Lit.int .i64 d.place).wf = true := WalkArith.wf_i64 ⟨by have := HD.out.p0; omega, by have := HD.out.p1; have := HD.out.m1; omega⟩
        have hlook := (HN.out.acc.drew.sets d.layer l7).look d.place hwf
        rw [show ((Acc.hear b4 d).L d.layer).pl = (b.L d.layer).pl from by simp [Acc.hear, HB4.out, told_L]] at hlook
        obtain ⟨W2, hrun, h2⟩ := put_step (b := b4) (HN.out.step ((Fr.refl _ _).drew.drew) HN.out.acc.drew.drew HH.out.lt) HH.out.lt HD.out (by rw [HB4.out, told_L, HB.out]; exact Nat.lt_of_le_of_lt (come_pl a d _) (HPL.out _))
        have H2 : Hid (DataP w g M (a.data d) (a.come d).2 (.slice none 0 0) W2) := Lib.hid ⟨by have := h2.acc; rw [HB4.out, HB.out] at this; exact this, h2.fr, h2.marks⟩
        have HFR : Hid (a.fresh d = !decide (d.place ∈ (b.L d.layer).pl)) := Lib.hid (by rw [HB.out]; rfl)
        clear h2 hwf HN
        go_region
        go_wp2
        go_region
        go_wp2
        go_ret3
        exact ⟨(.slice none 0 0), ret3e HFR.out.symm, H2.out⟩
  · have HCM : Hid (a.come d = a.close d.tick) := Lib.hid (come_close (.inr hlt))
    have HHH := Lib.hid hh
    have e1 : decide (d.tick < a.tick) = false := decide_eq_false (by omega)
    have e2 : decide (a.tick < d.tick) = true := decide_eq_true hlt
    rw [hh] at k1
    clear hh hlt
    go_enter Tryd.func4, Tryd.ntmps4
    go_wp2
    go_quiet (fail)
    go_wp2
    go_quiet (fail)
    go_upto_region 10 with (first
      | (go_at_call 12; refine (close_some _ g M a _ ((HH.out.alloc _).drewN _) HHH.out HLL.out.1 ⟨HLL.out.2.1.1, by have := HLL.out.2.1.2; omega⟩ ⟨HD.out.t0, by have := HD.out.t1; omega⟩).mono ?_; rintro e w3 ⟨v, rfl, h3⟩; have HS : Hid (Stg w g M b d v (a.come d).2 w3) := Lib.hid ⟨by rw [HB.out, HCM.out]; exact h3.acc, (((Fr.refl w _).alloc _).drewN _).trans h3.fr, by rw [HCM.out]; exact h3.marks.mono (by simp), (HBX.out _).fr h3.fr (fun e => by have := HH.out.lt _ e; omega)⟩; clear h3))
    clear HHH HCM
    clear HBX k0 k1 k2 c0 c1 c2 c3 c4 c5 c6 c7 c8 e1 e2
    have k3 : w3.cell? ⟨g, 3, none⟩ = some (.bool b.first) := HS.out.acc.row.cell (by omega)
    have k4 : w3.cell? ⟨g, 4, none⟩ = some (.bool b.burst) := HS.out.acc.row.cell (by omega)
    have k5 : w3.cell? ⟨g, 5, none⟩ = some (.int .i64 b.sync) := HS.out.acc.row.cell (by omega)
    have f3 := HS.out.acc.row.frozen 3
    have f4 := HS.out.acc.row.frozen 4
    have f5 := HS.out.acc.row.frozen 5
    have x4 : w3.cell? ⟨w.heap.size, 4, none⟩ = some (.bool d.burst) := by have := HS.out.box; unfold Bx at this; simp [World.cell?, this]
    have x5 : w3.cell? ⟨w.heap.size, 5, none⟩ = some (.int .i64 d.sync) := by have := HS.out.box; unfold Bx at this; simp [World.cell?, this]
    cases hf : b.first
    · rw [hf] at k3
      have HT := Lib.hid (told_step HS.out HH.out.lt hf)
      clear hf
      go_wp2
      go_region
      generalize (((w3.setCell ⟨g, 3, none⟩ (.bool true)).setCell ⟨g, 4, none⟩ (.bool d.burst)).setCell ⟨g, 5, none⟩ (.int .i64 d.sync)).drew = w4 at HT ⊢
      clear HS k3 k4 k5 f3 f4 f5 x4 x5
      obtain ⟨b4, hb4⟩ : ∃ b4, b4 = b.told d := ⟨_, rfl⟩
      rw [← hb4] at HT
      have HB4 := Lib.hid hb4
      clear hb4
      have x2 : w4.cell? ⟨w.heap.size, 2, none⟩ = some (.int .i64 (d.layer : Int)) := by have := HT.out.box; unfold Bx at this; simp [World.cell?, this]
      have x6 : w4.cell? ⟨w.heap.size, 6, none⟩ = some (.int .i64 d.many) := by have := HT.out.box; unfold Bx at this; simp [World.cell?, this]
      have m0 := HT.out.acc.row.cell (i := 6 + d.layer * 3) (by have := HD.out.l7; omega)
      rw [cell_heard] at m0
      have m1 := HT.out.acc.row.cell (i := 6 + d.layer * 3 + 1) (by have := HD.out.l7; omega)
      rw [cell_many] at m1
      have n0 := HT.out.acc.row.frozen (6 + d.layer * 3)
      have n1 := HT.out.acc.row.frozen (6 + d.layer * 3 + 1)
      have hne := HH.out.row.lt
      have l7 : d.layer < 8 := HD.out.l7
      go_wp2
      go_region
      by_cases hm : (b4.L d.layer).many = 0
      · have hm1 : ((b4.L d.layer).many == 0) = true := by simp [hm]
        have HN := Lib.hid (hear_none HT.out HH.out.lt hm)
        clear hm
        go_upto_region 16 with (fail)
        generalize ((w4.setCell ⟨g, 6 + d.layer * 3, none⟩ (.bool true)).setCell ⟨g, 6 + d.layer * 3 + 1, none⟩ (.int .i64 d.many)).drew = w5 at HN ⊢
        clear HT m0 m1 n0 n1 x2 x6 hm1
        have m2 := HN.out.acc.row.cell (i := 6 + d.layer * 3 + 2) (by have := HD.out.l7; omega)
        rw [cell_map] at m2
        have x7 : w5.cell? ⟨w.heap.size, 7, none⟩ = some (.int .i64 d.place) := by have := HN.out.box; unfold Bx at this; simp [World.cell?, this]
        have hwf : (Lit.int .i64 d.place).wf = true := WalkArith.wf_i64 ⟨by have := HD.out.p0; omega, by have := HD.out.p1; have := HD.out.m1; omega⟩
        have hlook := (HN.out.acc.drew.sets d.layer l7).look d.place hwf
        rw [show ((Acc.hear b4 d).L d.layer).pl = (b.L d.layer).pl from by simp [Acc.hear, HB4.out, told_L]] at hlook
        obtain ⟨W2, hrun, h2⟩ := put_step (b := b4) (HN.out.step ((Fr.refl _ _).drew.drew) HN.out.acc.drew.drew HH.out.lt) HH.out.lt HD.out (by rw [HB4.out, told_L, HB.out]; exact Nat.lt_of_le_of_lt (come_pl a d _) (HPL.out _))
        have H2 : Hid (DataP w g M (a.data d) (a.come d).2 v W2) := Lib.hid ⟨by have := h2.acc; rw [HB4.out, HB.out] at this; exact this, h2.fr, h2.marks⟩
        have HFR : Hid (a.fresh d = !decide (d.place ∈ (b.L d.layer).pl)) := Lib.hid (by rw [HB.out]; rfl)
        clear h2 hwf HN
        go_region
        go_wp2
        go_region
        go_wp2
        go_ret3
        exact ⟨v, ret3e HFR.out.symm, H2.out⟩
      · have hm1 : ((b4.L d.layer).many == 0) = false := by simp [hm]
        have HN := Lib.hid (hear_more HT.out HH.out.lt hm)
        clear hm
        go_upto_region 16 with (fail)
        generalize (w4.setCell ⟨g, 6 + d.layer * 3, none⟩ (.bool true)).drew = w5 at HN ⊢
        clear HT m0 m1 n0 n1 x2 x6 hm1
        have m2 := HN.out.acc.row.cell (i := 6 + d.layer * 3 + 2) (by have := HD.out.l7; omega)
        rw [cell_map] at m2
        have x7 : w5.cell? ⟨w.heap.size, 7, none⟩ = some (.int .i64 d.place) := by have := HN.out.box; unfold Bx at this; simp [World.cell?, this]
        have hwf : (Lit.int .i64 d.place).wf = true := WalkArith.wf_i64 ⟨by have := HD.out.p0; omega, by have := HD.out.p1; have := HD.out.m1; omega⟩
        have hlook := (HN.out.acc.drew.sets d.layer l7).look d.place hwf
        rw [show ((Acc.hear b4 d).L d.layer).pl = (b.L d.layer).pl from by simp [Acc.hear, HB4.out, told_L]] at hlook
        obtain ⟨W2, hrun, h2⟩ := put_step (b := b4) (HN.out.step ((Fr.refl _ _).drew.drew) HN.out.acc.drew.drew HH.out.lt) HH.out.lt HD.out (by rw [HB4.out, told_L, HB.out]; exact Nat.lt_of_le_of_lt (come_pl a d _) (HPL.out _))
        have H2 : Hid (DataP w g M (a.data d) (a.come d).2 v W2) := Lib.hid ⟨by have := h2.acc; rw [HB4.out, HB.out] at this; exact this, h2.fr, h2.marks⟩
        have HFR : Hid (a.fresh d = !decide (d.place ∈ (b.L d.layer).pl)) := Lib.hid (by rw [HB.out]; rfl)
        clear h2 hwf HN
        go_region
        go_wp2
        go_region
        go_wp2
        go_ret3
        exact ⟨v, ret3e HFR.out.symm, H2.out⟩
    · rw [hf] at k3
      obtain ⟨w4, hw4⟩ : ∃ w4, w4 = w3 := ⟨_, rfl⟩
      have HT : Hid (Stg w g M (b.told d) d v (a.come d).2 w4) := Lib.hid (by rw [hw4, show b.told d = b from by unfold Acc.told; rw [hf]; rfl]; exact HS.out)
      rw [← hw4] at k3 ⊢
      clear hf HS hw4 k4 k5 f3 f4 f5 x4 x5
      obtain ⟨b4, hb4⟩ : ∃ b4, b4 = b.told d := ⟨_, rfl⟩
      rw [← hb4] at HT
      have HB4 := Lib.hid hb4
      clear hb4
      have x2 : w4.cell? ⟨w.heap.size, 2, none⟩ = some (.int .i64 (d.layer : Int)) := by have := HT.out.box; unfold Bx at this; simp [World.cell?, this]
      have x6 : w4.cell? ⟨w.heap.size, 6, none⟩ = some (.int .i64 d.many) := by have := HT.out.box; unfold Bx at this; simp [World.cell?, this]
      have m0 := HT.out.acc.row.cell (i := 6 + d.layer * 3) (by have := HD.out.l7; omega)
      rw [cell_heard] at m0
      have m1 := HT.out.acc.row.cell (i := 6 + d.layer * 3 + 1) (by have := HD.out.l7; omega)
      rw [cell_many] at m1
      have n0 := HT.out.acc.row.frozen (6 + d.layer * 3)
      have n1 := HT.out.acc.row.frozen (6 + d.layer * 3 + 1)
      have hne := HH.out.row.lt
      have l7 : d.layer < 8 := HD.out.l7
      go_wp2
      go_region
      by_cases hm : (b4.L d.layer).many = 0
      · have hm1 : ((b4.L d.layer).many == 0) = true := by simp [hm]
        have HN := Lib.hid (hear_none HT.out HH.out.lt hm)
        clear hm
        go_upto_region 16 with (fail)
        generalize ((w4.setCell ⟨g, 6 + d.layer * 3, none⟩ (.bool true)).setCell ⟨g, 6 + d.layer * 3 + 1, none⟩ (.int .i64 d.many)).drew = w5 at HN ⊢
        clear HT m0 m1 n0 n1 x2 x6 hm1
        have m2 := HN.out.acc.row.cell (i := 6 + d.layer * 3 + 2) (by have := HD.out.l7; omega)
        rw [cell_map] at m2
        have x7 : w5.cell? ⟨w.heap.size, 7, none⟩ = some (.int .i64 d.place) := by have := HN.out.box; unfold Bx at this; simp [World.cell?, this]
        have hwf : (Lit.int .i64 d.place).wf = true := WalkArith.wf_i64 ⟨by have := HD.out.p0; omega, by have := HD.out.p1; have := HD.out.m1; omega⟩
        have hlook := (HN.out.acc.drew.sets d.layer l7).look d.place hwf
        rw [show ((Acc.hear b4 d).L d.layer).pl = (b.L d.layer).pl from by simp [Acc.hear, HB4.out, told_L]] at hlook
        obtain ⟨W2, hrun, h2⟩ := put_step (b := b4) (HN.out.step ((Fr.refl _ _).drew.drew) HN.out.acc.drew.drew HH.out.lt) HH.out.lt HD.out (by rw [HB4.out, told_L, HB.out]; exact Nat.lt_of_le_of_lt (come_pl a d _) (HPL.out _))
        have H2 : Hid (DataP w g M (a.data d) (a.come d).2 v W2) := Lib.hid ⟨by have := h2.acc; rw [HB4.out, HB.out] at this; exact this, h2.fr, h2.marks⟩
        have HFR : Hid (a.fresh d = !decide (d.place ∈ (b.L d.layer).pl)) := Lib.hid (by rw [HB.out]; rfl)
        clear h2 hwf HN
        go_region
        go_wp2
        go_region
        go_wp2
        go_ret3
        exact ⟨v, ret3e HFR.out.symm, H2.out⟩
      · have hm1 : ((b4.L d.layer).many == 0) = false := by simp [hm]
        have HN := Lib.hid (hear_more HT.out HH.out.lt hm)
        clear hm
        go_upto_region 16 with (fail)
        generalize (w4.setCell ⟨g, 6 + d.layer * 3, none⟩ (.bool true)).drew = w5 at HN ⊢
        clear HT m0 m1 n0 n1 x2 x6 hm1
        have m2 := HN.out.acc.row.cell (i := 6 + d.layer * 3 + 2) (by have := HD.out.l7; omega)
        rw [cell_map] at m2
        have x7 : w5.cell? ⟨w.heap.size, 7, none⟩ = some (.int .i64 d.place) := by have := HN.out.box; unfold Bx at this; simp [World.cell?, this]
        have hwf : (Lit.int .i64 d.place).wf = true := WalkArith.wf_i64 ⟨by have := HD.out.p0; omega, by have := HD.out.p1; have := HD.out.m1; omega⟩
        have hlook := (HN.out.acc.drew.sets d.layer l7).look d.place hwf
        rw [show ((Acc.hear b4 d).L d.layer).pl = (b.L d.layer).pl from by simp [Acc.hear, HB4.out, told_L]] at hlook
        obtain ⟨W2, hrun, h2⟩ := put_step (b := b4) (HN.out.step ((Fr.refl _ _).drew.drew) HN.out.acc.drew.drew HH.out.lt) HH.out.lt HD.out (by rw [HB4.out, told_L, HB.out]; exact Nat.lt_of_le_of_lt (come_pl a d _) (HPL.out _))
        have H2 : Hid (DataP w g M (a.data d) (a.come d).2 v W2) := Lib.hid ⟨by have := h2.acc; rw [HB4.out, HB.out] at this; exact this, h2.fr, h2.marks⟩
        have HFR : Hid (a.fresh d = !decide (d.place ∈ (b.L d.layer).pl)) := Lib.hid (by rw [HB.out]; rfl)
        clear h2 hwf HN
        go_region
        go_wp2
        go_region
        go_wp2
        go_ret3
        exact ⟨v, ret3e HFR.out.symm, H2.out⟩
  · have HCM : Hid (a.come d = (a, [])) := Lib.hid (come_same hh heq)
    have e1 : decide (d.tick < a.tick) = false := decide_eq_false (by omega)
    have e2 : decide (a.tick < d.tick) = false := decide_eq_false (by omega)
    rw [hh] at k1
    clear hh heq
    go_enter Tryd.func4, Tryd.ntmps4
    go_wp2
    go_quiet (fail)
    revert nq
    intro n1
    go_wp2
    go_quiet (fail)
    go_upto_region 10 with (fail)
    have HS : Hid (Stg w g M b d (.slice none 0 0) (a.come d).2 (((w.alloc (.cells #[.int .i64 1, .int .i64 0, .int .i64 d.layer, .int .i64 d.tick, .bool d.burst, .int .i64 d.sync, .int .i64 d.many, .int .i64 d.place, .int .i64 0, .int .i64 0, .slice none 0 0, .int .i64 0, .int .i64 0, .int .i64 0, .int .i64 0, .int .i64 0, .int .i64 0, .int .i64 0, .int .i64 0, .int .i64 0] 26)).drewN n1).drewN nq)) := Lib.hid ⟨by rw [HB.out, HCM.out]; exact ((HH.out.alloc _).drewN _).drewN _, ((((Fr.refl w _).alloc _).drewN _).drewN _), by rw [HCM.out]; exact ⟨by simp [rowOf], .inl ⟨rfl, rfl⟩⟩, HBX.out n1⟩
    generalize ((w.alloc (.cells #[.int .i64 1, .int .i64 0, .int .i64 d.layer, .int .i64 d.tick, .bool d.burst, .int .i64 d.sync, .int .i64 d.many, .int .i64 d.place, .int .i64 0, .int .i64 0, .slice none 0 0, .int .i64 0, .int .i64 0, .int .i64 0, .int .i64 0, .int .i64 0, .int .i64 0, .int .i64 0, .int .i64 0, .int .i64 0] 26)).drewN n1).drewN nq = w3 at HS ⊢
    clear HCM
    clear HBX k0 k1 k2 c0 c1 c2 c3 c4 c5 c6 c7 c8 e1 e2
    have k3 : w3.cell? ⟨g, 3, none⟩ = some (.bool b.first) := HS.out.acc.row.cell (by omega)
    have k4 : w3.cell? ⟨g, 4, none⟩ = some (.bool b.burst) := HS.out.acc.row.cell (by omega)
    have k5 : w3.cell? ⟨g, 5, none⟩ = some (.int .i64 b.sync) := HS.out.acc.row.cell (by omega)
    have f3 := HS.out.acc.row.frozen 3
    have f4 := HS.out.acc.row.frozen 4
    have f5 := HS.out.acc.row.frozen 5
    have x4 : w3.cell? ⟨w.heap.size, 4, none⟩ = some (.bool d.burst) := by have := HS.out.box; unfold Bx at this; simp [World.cell?, this]
    have x5 : w3.cell? ⟨w.heap.size, 5, none⟩ = some (.int .i64 d.sync) := by have := HS.out.box; unfold Bx at this; simp [World.cell?, this]
    cases hf : b.first
    · rw [hf] at k3
      have HT := Lib.hid (told_step HS.out HH.out.lt hf)
      clear hf
      go_wp2
      go_region
      generalize (((w3.setCell ⟨g, 3, none⟩ (.bool true)).setCell ⟨g, 4, none⟩ (.bool d.burst)).setCell ⟨g, 5, none⟩ (.int .i64 d.sync)).drew = w4 at HT ⊢
      clear HS k3 k4 k5 f3 f4 f5 x4 x5
      obtain ⟨b4, hb4⟩ : ∃ b4, b4 = b.told d := ⟨_, rfl⟩
      rw [← hb4] at HT
      have HB4 := Lib.hid hb4
      clear hb4
      have x2 : w4.cell? ⟨w.heap.size, 2, none⟩ = some (.int .i64 (d.layer : Int)) := by have := HT.out.box; unfold Bx at this; simp [World.cell?, this]
      have x6 : w4.cell? ⟨w.heap.size, 6, none⟩ = some (.int .i64 d.many) := by have := HT.out.box; unfold Bx at this; simp [World.cell?, this]
      have m0 := HT.out.acc.row.cell (i := 6 + d.layer * 3) (by have := HD.out.l7; omega)
      rw [cell_heard] at m0
      have m1 := HT.out.acc.row.cell (i := 6 + d.layer * 3 + 1) (by have := HD.out.l7; omega)
      rw [cell_many] at m1
      have n0 := HT.out.acc.row.frozen (6 + d.layer * 3)
      have n1 := HT.out.acc.row.frozen (6 + d.layer * 3 + 1)
      have hne := HH.out.row.lt
      have l7 : d.layer < 8 := HD.out.l7
      go_wp2
      go_region
      by_cases hm : (b4.L d.layer).many = 0
      · have hm1 : ((b4.L d.layer).many == 0) = true := by simp [hm]
        have HN := Lib.hid (hear_none HT.out HH.out.lt hm)
        clear hm
        go_upto_region 16 with (fail)
        generalize ((w4.setCell ⟨g, 6 + d.layer * 3, none⟩ (.bool true)).setCell ⟨g, 6 + d.layer * 3 + 1, none⟩ (.int .i64 d.many)).drew = w5 at HN ⊢
        clear HT m0 m1 n0 n1 x2 x6 hm1
        have m2 := HN.out.acc.row.cell (i := 6 + d.layer * 3 + 2) (by have := HD.out.l7; omega)
        rw [cell_map] at m2
        have x7 : w5.cell? ⟨w.heap.size, 7, none⟩ = some (.int .i64 d.place) := by have := HN.out.box; unfold Bx at this; simp [World.cell?, this]
        have hwf : (Lit.int .i64 d.place).wf = true := WalkArith.wf_i64 ⟨by have := HD.out.p0; omega, by have := HD.out.p1; have := HD.out.m1; omega⟩
        have hlook := (HN.out.acc.drew.sets d.layer l7).look d.place hwf
        rw [show ((Acc.hear b4 d).L d.layer).pl = (b.L d.layer).pl from by simp [Acc.hear, HB4.out, told_L]] at hlook
        obtain ⟨W2, hrun, h2⟩ := put_step (b := b4) (HN.out.step ((Fr.refl _ _).drew.drew) HN.out.acc.drew.drew HH.out.lt) HH.out.lt HD.out (by rw [HB4.out, told_L, HB.out]; exact Nat.lt_of_le_of_lt (come_pl a d _) (HPL.out _))
        have H2 : Hid (DataP w g M (a.data d) (a.come d).2 (.slice none 0 0) W2) := Lib.hid ⟨by have := h2.acc; rw [HB4.out, HB.out] at this; exact this, h2.fr, h2.marks⟩
        have HFR : Hid (a.fresh d = !decide (d.place ∈ (b.L d.layer).pl)) := Lib.hid (by rw [HB.out]; rfl)
        clear h2 hwf HN
        go_region
        go_wp2
        go_region
        go_wp2
        go_ret3
        exact ⟨(.slice none 0 0), ret3e HFR.out.symm, H2.out⟩
      · have hm1 : ((b4.L d.layer).many == 0) = false := by simp [hm]
        have HN := Lib.hid (hear_more HT.out HH.out.lt hm)
        clear hm
        go_upto_region 16 with (fail)
        generalize (w4.setCell ⟨g, 6 + d.layer * 3, none⟩ (.bool true)).drew = w5 at HN ⊢
        clear HT m0 m1 n0 n1 x2 x6 hm1
        have m2 := HN.out.acc.row.cell (i := 6 + d.layer * 3 + 2) (by have := HD.out.l7; omega)
        rw [cell_map] at m2
        have x7 : w5.cell? ⟨w.heap.size, 7, none⟩ = some (.int .i64 d.place) := by have := HN.out.box; unfold Bx at this; simp [World.cell?, this]
        have hwf : (Lit.int .i64 d.place).wf = true := WalkArith.wf_i64 ⟨by have := HD.out.p0; omega, by have := HD.out.p1; have := HD.out.m1; omega⟩
        have hlook := (HN.out.acc.drew.sets d.layer l7).look d.place hwf
        rw [show ((Acc.hear b4 d).L d.layer).pl = (b.L d.layer).pl from by simp [Acc.hear, HB4.out, told_L]] at hlook
        obtain ⟨W2, hrun, h2⟩ := put_step (b := b4) (HN.out.step ((Fr.refl _ _).drew.drew) HN.out.acc.drew.drew HH.out.lt) HH.out.lt HD.out (by rw [HB4.out, told_L, HB.out]; exact Nat.lt_of_le_of_lt (come_pl a d _) (HPL.out _))
        have H2 : Hid (DataP w g M (a.data d) (a.come d).2 (.slice none 0 0) W2) := Lib.hid ⟨by have := h2.acc; rw [HB4.out, HB.out] at this; exact this, h2.fr, h2.marks⟩
        have HFR : Hid (a.fresh d = !decide (d.place ∈ (b.L d.layer).pl)) := Lib.hid (by rw [HB.out]; rfl)
        clear h2 hwf HN
        go_region
        go_wp2
        go_region
        go_wp2
        go_ret3
        exact ⟨(.slice none 0 0), ret3e HFR.out.symm, H2.out⟩
    · rw [hf] at k3
      obtain ⟨w4, hw4⟩ : ∃ w4, w4 = w3 := ⟨_, rfl⟩
      have HT : Hid (Stg w g M (b.told d) d (.slice none 0 0) (a.come d).2 w4) := Lib.hid (by rw [hw4, show b.told d = b from by unfold Acc.told; rw [hf]; rfl]; exact HS.out)
      rw [← hw4] at k3 ⊢
      clear hf HS hw4 k4 k5 f3 f4 f5 x4 x5
      obtain ⟨b4, hb4⟩ : ∃ b4, b4 = b.told d := ⟨_, rfl⟩
      rw [← hb4] at HT
      have HB4 := Lib.hid hb4
      clear hb4
      have x2 : w4.cell? ⟨w.heap.size, 2, none⟩ = some (.int .i64 (d.layer : Int)) := by have := HT.out.box; unfold Bx at this; simp [World.cell?, this]
      have x6 : w4.cell? ⟨w.heap.size, 6, none⟩ = some (.int .i64 d.many) := by have := HT.out.box; unfold Bx at this; simp [World.cell?, this]
      have m0 := HT.out.acc.row.cell (i := 6 + d.layer * 3) (by have := HD.out.l7; omega)
      rw [cell_heard] at m0
      have m1 := HT.out.acc.row.cell (i := 6 + d.layer * 3 + 1) (by have := HD.out.l7; omega)
      rw [cell_many] at m1
      have n0 := HT.out.acc.row.frozen (6 + d.layer * 3)
      have n1 := HT.out.acc.row.frozen (6 + d.layer * 3 + 1)
      have hne := HH.out.row.lt
      have l7 : d.layer < 8 := HD.out.l7
      go_wp2
      go_region
      by_cases hm : (b4.L d.layer).many = 0
      · have hm1 : ((b4.L d.layer).many == 0) = true := by simp [hm]
        have HN := Lib.hid (hear_none HT.out HH.out.lt hm)
        clear hm
        go_upto_region 16 with (fail)
        generalize ((w4.setCell ⟨g, 6 + d.layer * 3, none⟩ (.bool true)).setCell ⟨g, 6 + d.layer * 3 + 1, none⟩ (.int .i64 d.many)).drew = w5 at HN ⊢
        clear HT m0 m1 n0 n1 x2 x6 hm1
        have m2 := HN.out.acc.row.cell (i := 6 + d.layer * 3 + 2) (by have := HD.out.l7; omega)
        rw [cell_map] at m2
        have x7 : w5.cell? ⟨w.heap.size, 7, none⟩ = some (.int .i64 d.place) := by have := HN.out.box; unfold Bx at this; simp [World.cell?, this]
        have hwf : (Lit.int .i64 d.place).wf = true := WalkArith.wf_i64 ⟨by have := HD.out.p0; omega, by have := HD.out.p1; have := HD.out.m1; omega⟩
        have hlook := (HN.out.acc.drew.sets d.layer l7).look d.place hwf
        rw [show ((Acc.hear b4 d).L d.layer).pl = (b.L d.layer).pl from by simp [Acc.hear, HB4.out, told_L]] at hlook
        obtain ⟨W2, hrun, h2⟩ := put_step (b := b4) (HN.out.step ((Fr.refl _ _).drew.drew) HN.out.acc.drew.drew HH.out.lt) HH.out.lt HD.out (by rw [HB4.out, told_L, HB.out]; exact Nat.lt_of_le_of_lt (come_pl a d _) (HPL.out _))
        have H2 : Hid (DataP w g M (a.data d) (a.come d).2 (.slice none 0 0) W2) := Lib.hid ⟨by have := h2.acc; rw [HB4.out, HB.out] at this; exact this, h2.fr, h2.marks⟩
        have HFR : Hid (a.fresh d = !decide (d.place ∈ (b.L d.layer).pl)) := Lib.hid (by rw [HB.out]; rfl)
        clear h2 hwf HN
        go_region
        go_wp2
        go_region
        go_wp2
        go_ret3
        exact ⟨(.slice none 0 0), ret3e HFR.out.symm, H2.out⟩
      · have hm1 : ((b4.L d.layer).many == 0) = false := by simp [hm]
        have HN := Lib.hid (hear_more HT.out HH.out.lt hm)
        clear hm
        go_upto_region 16 with (fail)
        generalize (w4.setCell ⟨g, 6 + d.layer * 3, none⟩ (.bool true)).drew = w5 at HN ⊢
        clear HT m0 m1 n0 n1 x2 x6 hm1
        have m2 := HN.out.acc.row.cell (i := 6 + d.layer * 3 + 2) (by have := HD.out.l7; omega)
        rw [cell_map] at m2
        have x7 : w5.cell? ⟨w.heap.size, 7, none⟩ = some (.int .i64 d.place) := by have := HN.out.box; unfold Bx at this; simp [World.cell?, this]
        have hwf : (Lit.int .i64 d.place).wf = true := WalkArith.wf_i64 ⟨by have := HD.out.p0; omega, by have := HD.out.p1; have := HD.out.m1; omega⟩
        have hlook := (HN.out.acc.drew.sets d.layer l7).look d.place hwf
        rw [show ((Acc.hear b4 d).L d.layer).pl = (b.L d.layer).pl from by simp [Acc.hear, HB4.out, told_L]] at hlook
        obtain ⟨W2, hrun, h2⟩ := put_step (b := b4) (HN.out.step ((Fr.refl _ _).drew.drew) HN.out.acc.drew.drew HH.out.lt) HH.out.lt HD.out (by rw [HB4.out, told_L, HB.out]; exact Nat.lt_of_le_of_lt (come_pl a d _) (HPL.out _))
        have H2 : Hid (DataP w g M (a.data d) (a.come d).2 (.slice none 0 0) W2) := Lib.hid ⟨by have := h2.acc; rw [HB4.out, HB.out] at this; exact this, h2.fr, h2.marks⟩
        have HFR : Hid (a.fresh d = !decide (d.place ∈ (b.L d.layer).pl)) := Lib.hid (by rw [HB.out]; rfl)
        clear h2 hwf HN
        go_region
        go_wp2
        go_region
        go_wp2
        go_ret3
        exact ⟨(.slice none 0 0), ret3e HFR.out.symm, H2.out⟩
end Go.Proofs.YtbjojkocmmcpgaaDoor.Acc
