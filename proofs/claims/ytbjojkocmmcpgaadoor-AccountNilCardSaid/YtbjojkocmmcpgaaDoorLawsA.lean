/- What the laws of an account need: the calls as they use them; awake. Conditions: none. -/
import Derived.Test.YtbjojkocmmcpgaaDoorPkt
namespace Go.Proofs.YtbjojkocmmcpgaaDoor.Acc
set_option linter.unusedSimpArgs false
set_option linter.unusedVariables false
open Go.RowKit Go.Maps Go.Proofs.YtbjojkocmmcpgaaDoor.Er Go.Proofs.YtbjojkocmmcpgaaDoor.Mod
theorem row_at : ∀ (ms : List Mk) (i : Nat) (m : Mk) (j : Nat), ms[i]? = some m → j < 4 → (rowOf ms)[i * 4 + j]? = (mkCells m)[j]?
  | [], i, m, j, h, _ => by simp at h
  | x :: ms, 0, m, j, h, hj => by
    obtain rfl : x = m := by simpa using h
    show (mkCells x ++ rowOf ms)[0 * 4 + j]? = _
    rw [Nat.zero_mul, Nat.zero_add, List.getElem?_append_left (by simpa [mkCells] using hj)]
  | x :: ms, i + 1, m, j, h, hj => by
    show (mkCells x ++ rowOf ms)[(i + 1) * 4 + j]? = _
    rw [List.getElem?_append_right (by simp [mkCells]; omega), show (i + 1) * 4 + j - (mkCells x).length = i * 4 + j by simp [mkCells]; omega]
    exact row_at ms i m j (by simpa using h) hj
theorem Marks.val {w : World} {B : Nat} {v : Value} {ms : List Mk} (h : Marks w B v ms) : ∃ A c, v = .slice A ms.length c ∧ ms.length ≤ c ∧ ms.length ≤ maxLen := by
  obtain ⟨h1, h2⟩ := h
  rcases h2 with ⟨rfl, h⟩ | ⟨b, cap, cur, e, hb, hc, h3, h4, _⟩
  · exact ⟨none, 0, by rw [h], Nat.le_of_eq h, by rw [h]; exact Nat.zero_le _⟩
  · exact ⟨_, _, e, h3, Nat.le_trans h3 h4⟩
/-- The cells of a mark. -/
def MkAt (w : World) (b : Nat) (i : Nat) (m : Mk) : Prop := w.cell? ⟨b, i * 4, none⟩ = some (.bool m.full) ∧ w.cell? ⟨b, i * 4 + 1, none⟩ = some (.bool m.burst) ∧ w.cell? ⟨b, i * 4 + 2, none⟩ = some (.bool m.lost) ∧ w.cell? ⟨b, i * 4 + 3, none⟩ = some (.int .i64 m.sync)
theorem Marks.cells {w : World} {B : Nat} {v : Value} {ms : List Mk} (h : Marks w B v ms) (hne : 0 < ms.length) : ∃ b c, v = .slice (some ⟨b, 0, none⟩) ms.length c ∧ B ≤ b ∧ b < w.heap.size ∧ ms.length ≤ c ∧ (∀ i m, ms[i]? = some m → MkAt w b i m) := by
  obtain ⟨h1, h2⟩ := h
  rcases h2 with ⟨rfl, h⟩ | ⟨b, cap, cur, e, hb, hc, h3, h4, h5, h6⟩
  · omega
  · have hlt : b < w.heap.size := by
      rcases Nat.lt_or_ge b w.heap.size with h | h
      · exact h
      · rw [Array.getElem?_eq_none h] at hc; cases hc
    refine ⟨b, cap, e, hb, hlt, h3, fun i m hi => ?_⟩
    have hil : i < ms.length := (List.getElem?_eq_some_iff.1 hi).1
    have key : ∀ j, j < 4 → w.cell? ⟨b, i * 4 + j, none⟩ = (mkCells m)[j]? := fun j hj => by
      rw [← row_at ms i m j hi hj, ← h6, List.getElem?_take, if_pos (by omega)]
      simp [World.cell?, hc]
    exact ⟨key 0 (by omega), key 1 (by omega), key 2 (by omega), key 3 (by omega)⟩
/-- An account of the law's own. -/
structure LS (W : World) (g : Nat) (M : Nat → Nat) (a : Acc) (w : World) : Prop where
  acc : IsAcc w g M a
  bel : Below W.heap.size W w
  own : ∀ k, AS g M k → W.heap.size ≤ k
theorem LS.below {W w w' : World} {g : Nat} {M : Nat → Nat} {a : Acc} (h : LS W g M a w) (hb : Below w.heap.size w w') : LS W g M a w' := ⟨h.acc.below hb, h.bel.trans (hb.mono h.bel.size), h.own⟩
theorem LS.fr {W w w' : World} {g : Nat} {M : Nat → Nat} {a a' : Acc} (h : LS W g M a w) (hf : Fr w w' (AS g M)) (ha : IsAcc w' g M a') : LS W g M a' w' := ⟨ha, hf.below h.bel h.bel.size h.own, h.own⟩
/-- An account as the laws have it. -/
structure Good (n : Nat) (a : Acc) : Prop where
  l0 : 0 ≤ a.level
  l7 : a.level ≤ 7
  t0 : 0 ≤ a.tick
  t1 : a.tick ≤ 1099511627776
  pl : ∀ i, (a.L i).pl.length ≤ n
theorem good0 : Good 0 acc0 := ⟨Int.le_refl _, by decide, Int.le_refl _, by decide, fun _ => Nat.le_refl _⟩
theorem come_facts {a : Acc} {d : Dat} (hge : a.has = true → a.tick ≤ d.tick) : (a.come d).1.tick = d.tick ∧ (a.come d).1.level = a.level ∧ (a.come d).1.has = true := by
  unfold Acc.come
  split
  · rename_i h; exact ⟨h.2, rfl, h.1⟩
  · rename_i hn
    unfold Acc.close
    split
    · rename_i hh
      have hlt : a.tick < d.tick := by
        have := hge hh
        rcases (by omega : a.tick < d.tick ∨ a.tick = d.tick) with h | h
        · exact h
        · exact absurd ⟨hh, h⟩ hn
      obtain ⟨e1, e2, _⟩ := goes_tick (a.from d.tick) (d.tick - (a.from d.tick).tick).toNat
      have hf := (from_tick a d.tick).1
      refine ⟨?_, e2, ?_⟩
      · show ((a.from d.tick).goes (d.tick - (a.from d.tick).tick).toNat).1.tick = d.tick
        rw [e1]; omega
      · show ((a.from d.tick).goes (d.tick - (a.from d.tick).tick).toNat).1.has = true
        cases (d.tick - (a.from d.tick).tick).toNat with
        | zero => rfl
        | succ k => rfl
    · exact ⟨rfl, rfl, rfl⟩
theorem data_facts {a : Acc} {d : Dat} (hge : a.has = true → a.tick ≤ d.tick) : (a.data d).tick = d.tick ∧ (a.data d).level = a.level ∧ (a.data d).has = true ∧ (a.data d).first = true := by
  obtain ⟨h1, h2, h3⟩ := come_facts hge
  have e : (Acc.told (a.come d).1 d).tick = (a.come d).1.tick ∧ (Acc.told (a.come d).1 d).level = (a.come d).1.level ∧ (Acc.told (a.come d).1 d).has = (a.come d).1.has ∧ (Acc.told (a.come d).1 d).first = true := by
    unfold Acc.told; split
    · rename_i h; exact ⟨rfl, rfl, rfl, h⟩
    · exact ⟨rfl, rfl, rfl, rfl⟩
  exact ⟨e.1.trans h1, e.2.1.trans h2, e.2.2.1.trans h3, e.2.2.2⟩
theorem good_data {a : Acc} {d : Dat} {n : Nat} (h : Good n a) (hd : Dat.Ok d) (hge : a.has = true → a.tick ≤ d.tick) : Good (n + 1) (a.data d) := by
  obtain ⟨h1, h2, _, _⟩ := data_facts hge
  refine ⟨by rw [h2]; exact h.l0, by rw [h2]; exact h.l7, by rw [h1]; exact hd.t0, by rw [h1]; have := hd.t1; omega, fun i => ?_⟩
  show ((if i = d.layer then ((Acc.told (a.come d).1 d).L i).put d else (Acc.told (a.come d).1 d).L i) : Lay).pl.length ≤ n + 1
  rw [told_L]
  have h3 := come_pl a d i
  have h4 := h.pl i
  split
  · show (if d.place ∈ ((a.come d).1.L i).pl then ((a.come d).1.L i).pl else ((a.come d).1.L i).pl ++ [d.place]).length ≤ n + 1
    split
    · omega
    · rw [List.length_append, List.length_singleton]; omega
  · omega
theorem new_law (W : World) : Calls Tryd.prog 14 #[] W fun e w' => ∃ g M, e = .returned (.pointer (some ⟨g, 0, none⟩)) ∧ LS W g M acc0 w' :=
  (new_calls W).mono fun _ _ ⟨g, M, e, h⟩ => ⟨g, M, e, h.acc, h.bel, h.own⟩
theorem data_law (W w : World) (g : Nat) (M : Nat → Nat) (a : Acc) (d : Dat) (a' : Acc) (ms : List Mk) (f : Bool) (h : LS W g M a w) {n : Nat} (hn : n < 1000000) (hg : Good n a) (hd : Dat.Ok d) (hly : (d.layer : Int) ≤ a.level) (hge : a.has = true → a.tick ≤ d.tick) (h1 : a.data d = a') (h2 : (a.come d).2 = ms) (h3 : a.fresh d = f) :
    Calls Tryd.prog 4 #[.pointer (some ⟨g, 0, none⟩), pkV d] w fun e w' => ∃ A c, e = .returned (.tuple #[.slice A ms.length c, .bool f, .nilIface]) ∧ LS W g M a' w' ∧ Fr w w' (AS g M) ∧ Marks w' w.heap.size (.slice A ms.length c) ms ∧ ms.length ≤ c := by
  subst h1 h2 h3
  refine (data_calls w g M a d h.acc ⟨hg.l0, hg.l7⟩ ⟨hg.t0, by have := hg.t1; omega⟩ hd hly hge (fun i => Nat.lt_of_le_of_lt (hg.pl i) hn)).mono ?_
  rintro e w' ⟨v, rfl, hp⟩
  obtain ⟨A, c, rfl, hc, _⟩ := hp.marks.val
  exact ⟨A, c, rfl, h.fr hp.fr hp.acc, hp.fr, hp.marks, hc⟩
theorem dataOk (l : Nat) (t p m : Int) (h1 : l < 8) (h2 : 0 ≤ t ∧ t < 1099511627776) (h3 : 0 ≤ p ∧ p < m) (h4 : m ≤ 4096) : Dat.Ok (mkD l t p m) := ⟨h1, h2.1, h2.2, by show 1 ≤ m; omega, h4, h3.1, h3.2⟩
set_option maxHeartbeats 4000000 in
set_option maxRecDepth 100000 in
theorem awake_calls (W : World) : Calls Tryd.prog 10 #[] W fun e w' => e = .returned (.bool true) ∧ Below W.heap.size W w' := by
  obtain ⟨d1, hd1⟩ : ∃ d, d = mkD 0 5 0 2 := ⟨_, rfl⟩
  obtain ⟨d2, hd2⟩ : ∃ d, d = mkD 0 6 0 2 := ⟨_, rfl⟩
  obtain ⟨a1, h1⟩ : ∃ a1, acc0.data d1 = a1 := ⟨_, rfl⟩
  obtain ⟨a2, h2⟩ : ∃ a2, a1.data d2 = a2 := ⟨_, rfl⟩
  have o1 : Dat.Ok d1 := by rw [hd1]; exact dataOk _ _ _ _ (by omega) (by omega) (by omega) (by omega)
  have o2 : Dat.Ok d2 := by rw [hd2]; exact dataOk _ _ _ _ (by omega) (by omega) (by omega) (by omega)
  have g1 : Good 1 a1 := by rw [← h1]; exact good_data good0 o1 (fun h => by cases h)
  have t1 : a1.tick = 5 ∧ a1.level = 0 := by rw [← h1]; have := data_facts (a := acc0) (d := d1) (fun h => by cases h); rw [hd1] at this ⊢; exact ⟨this.1, this.2.1⟩
  have m1 : (acc0.come d1).2 = [] ∧ acc0.fresh d1 = true := by rw [hd1]; exact ⟨rfl, rfl⟩
  have m2 : (a1.come d2).2 = [⟨true, false, true, -1⟩] ∧ a1.fresh d2 = true := by rw [← h1, hd1, hd2]; exact ⟨rfl, rfl⟩
  have H1 := Lib.hid (And.intro h1 (And.intro hd1 (And.intro o1 (And.intro g1 (And.intro t1 m1)))))
  have H2 := Lib.hid (And.intro h2 (And.intro hd2 (And.intro o2 m2)))
  clear h1 hd1 o1 g1 t1 m1 h2 hd2 o2 m2
  go_enter Tryd.func10, Tryd.ntmps10
  go_upto_region 5 with (first
    | (go_at_call 14; refine (new_law _).mono ?_; rintro e w1 ⟨g, M, rfl, h⟩; have HL := Lib.hid h; clear h)
    | (go_at_call 15; refine (dataOf_calls 0 _ _ _ _).mono ?_; rintro e w2 ⟨rfl, h⟩; have HB := Lib.hid h; clear h)
    | (go_at_call 4; refine (data_law W _ g M acc0 (mkD 0 5 0 2) a1 [] true (n := 0) (HL.out.below HB.out) (by omega) good0 (H1.out.2.1 ▸ H1.out.2.2.1) (by decide) (fun h => by cases h) (H1.out.2.1 ▸ H1.out.1) (H1.out.2.1 ▸ H1.out.2.2.2.2.2.1) (H1.out.2.1 ▸ H1.out.2.2.2.2.2.2)).mono ?_; rintro e w3 ⟨A, c, rfl, h, hf, hm, hc⟩; have HL2 := Lib.hid h; clear h hf hm hc HL HB))
  go_upto_region 6 with (first
    | (go_at_call 15; refine (dataOf_calls 0 _ _ _ _).mono ?_; rintro e w4 ⟨rfl, h⟩; have HB := Lib.hid h; clear h)
    | (go_at_call 4; refine (data_law W _ g M a1 (mkD 0 6 0 2) a2 [⟨true, false, true, -1⟩] true (n := 1) (HL2.out.below HB.out) (by omega) H1.out.2.2.2.1 (H2.out.2.1 ▸ H2.out.2.2.1) (by rw [H1.out.2.2.2.2.1.2]; decide) (fun _ => by rw [H1.out.2.2.2.2.1.1]; decide) (H2.out.2.1 ▸ H2.out.1) (H2.out.2.1 ▸ H2.out.2.2.2.1) (H2.out.2.1 ▸ H2.out.2.2.2.2)).mono ?_; rintro e w5 ⟨A5, c5, rfl, h, hf, hm, hc⟩; have HL5 := Lib.hid h; have HM := Lib.hid hm; clear h hf hm hc HL2 HB))
  obtain ⟨b5, c', hv, hbB, hblt, hcc, hcell⟩ := HM.out.cells (by decide)
  cases hv
  have hc0 := hcell 0 _ rfl
  obtain ⟨z0, z1, z2, z3⟩ := hc0
  simp only [Nat.zero_mul, Nat.zero_add] at z0 z1 z2 z3
  clear hcell HM hbB hcc
  go_wp2
  go_ret
  exact ⟨rfl, HL5.out.bel⟩
end Go.Proofs.YtbjojkocmmcpgaaDoor.Acc
