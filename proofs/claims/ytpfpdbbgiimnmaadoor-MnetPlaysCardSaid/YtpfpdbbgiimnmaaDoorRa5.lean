/- (*both).send of geyserlaw22 by its contract. Conditions: numbers small. (*both).told of geyserlaw22 by its contract; mnet.New of a number that is none. Conditions: numbers small. (*both).step of geyserlaw22 by its contract: any act. Conditions: numbers small. Acts as arguments. Conditions: acts as they may come in. geyserlaw22.MnetPlays: it answers true. Conditions: acts as they may come in; errors.As's own state is laid. -/
import Derived.Test.YtpfpdbbgiimnmaaDoorPg
import Derived.Test.YtpfpdbbgiimnmaaDoorRa4
import Derived.Test.YtpfpdbbgiimnmaaDoorActs
import Derived.Test.YtpfpdbbgiimnmaaDoorDgs
import Derived.Test.YtpfpdbbgiimnmaaDoorAwake
namespace Go.Proofs.YtpfpdbbgiimnmaaDoor.Net
set_option linter.unusedSimpArgs false
set_option linter.unusedVariables false
section
open Go.RowKit Go.Deep Go.Proofs.YtpfpdbbgiimnmaaDoor.Er Go.Proofs.YtpfpdbbgiimnmaaDoor.As Go.Proofs.YtpfpdbbgiimnmaaDoor.Mod Go.Proofs.YtpfpdbbgiimnmaaDoorW.PrintWords Go.Proofs.YtpfpdbbgiimnmaaDoorW.PrintLast
theorem infoDg : (Tryd.prog.info? 60).map (fun i => (i.zero, i.size, i.bytes)) = some (some (.agg #[.int .i64 0, .slice none 0 0]), 2, 32) := by kernel_rfl
def dgC (p : Value × Dg) : List Value := [.int .i64 p.2.layer, p.1]
theorem dgC_len (vs : List (Value × Dg)) : (vs.flatMap dgC).length = vs.length * 2 := by
  induction vs with
  | nil => rfl
  | cons x q ih => show (dgC x ++ q.flatMap dgC).length = _; rw [List.length_append, ih]; simp [dgC]; omega
theorem dgC_at : ∀ (vs : List (Value × Dg)) (i : Nat) (x : Value × Dg) (j : Nat), vs[i]? = some x → j < 2 → (vs.flatMap dgC)[i * 2 + j]? = (dgC x)[j]?
  | [], i, x, j, h, _ => by simp at h
  | y :: q, 0, x, j, h, hj => by
    obtain rfl : y = x := by simpa using h
    show (dgC y ++ q.flatMap dgC)[0 * 2 + j]? = _
    rw [Nat.zero_mul, Nat.zero_add, List.getElem?_append_left (by simpa [dgC] using hj)]
  | y :: q, i + 1, x, j, h, hj => by
    show (dgC y ++ q.flatMap dgC)[(i + 1) * 2 + j]? = _
    rw [List.getElem?_append_right (by simp [dgC]; omega), show (i + 1) * 2 + j - (dgC y).length = i * 2 + j by simp [dgC]; omega]
    exact dgC_at q i x j (by simpa using h) hj
/-- Datagrams in a row of one's own, their bytes too. -/
def OD (B : Nat) (w : World) (v : Value) (l : List Dg) : Prop := ∃ vs : List (Value × Dg), vs.map (·.2) = l ∧ w.ownsRow B 60 2 v l.length (vs.flatMap dgC) ∧ ∀ p ∈ vs, RB (fun k => B ≤ k) w p.1 p.2.b ∧ p.2.b.length ≤ 140737488355328
theorem OD.below {B : Nat} {w w' : World} {v : Value} {l : List Dg} (h : OD B w v l) (hb : Below w.heap.size w w') : OD B w' v l := by
  obtain ⟨vs, h1, h2, h3⟩ := h
  exact ⟨vs, h1, own_below h2 hb, fun p hp => ⟨(h3 p hp).1.below hb, (h3 p hp).2⟩⟩
theorem OD.empty {B : Nat} {w : World} (hB : B ≤ w.heap.size) : OD B (w.alloc (.cells #[] 60)) (.slice (some ⟨w.heap.size, 0, none⟩) 0 0) [] := ⟨[], rfl, own_empty hB, fun _ h => nomatch h⟩
theorem OD.append {B : Nat} {w : World} {v : Value} {l : List Dg} (h : OD B w v l) (hl : l.length < 1000) (hB : B ≤ w.heap.size) (ty : TypeId) (g : Addr) (c : Nat) (d : Dg) (bv : Value) (hc : ∀ j u, ([.int .i64 d.layer, bv] : List Value)[j]? = some u → w.cell? (g.add j) = some u) (hx : RB (fun k => B ≤ k) w bv d.b) (hd : d.b.length ≤ 140737488355328) :
    ∃ A L c' w', (Builtin.append_ #[47, 47] ty #[v, .slice (some g) 1 c]).run Tryd.prog w = .ok (.slice A L c') w' ∧ OD B w' (.slice A L c') (l ++ [d]) ∧ w.grownBy w' v.ownBlock ∧ ∀ r, v.ownBlock = some r → B ≤ r := by
  obtain ⟨i, hi, hz0, hz1, hz2⟩ := info_parts infoDg
  obtain ⟨vs, h1, h2, h3⟩ := h
  have hone : ∀ u ∈ ([.int .i64 d.layer, bv] : List Value), u.oneCell' = true := by
    intro u hu
    simp only [List.mem_cons, List.not_mem_nil, or_false] at hu
    rcases hu with rfl | rfl
    · rfl
    · obtain ⟨_, _, rfl, _⟩ := hx; rfl
  obtain ⟨v', w', hr, ho', hg, _⟩ := run_append_own (P := Tryd.prog) w B 47 ty 60 i _ 2 32 Tryd.underlying47 hi hz0 hz1 hz2 rfl (by decide) v l.length (vs.flatMap dgC) h2 g 1 c [.int .i64 d.layer, bv] rfl hc hone (by simp only [maxLen]; omega) (by omega) hB
  have hO : OD B w' v' (l ++ [d]) := by
    have hkp : ∀ (k : Nat) (cur : Array Value), w.heap[k]? = some (Obj.cells cur 5 (0, 0)) → w'.heap[k]? = w.heap[k]? := fun k cur e => hg.block k (lt_of e) (fun e2 => by
      obtain ⟨_, cur', hc'⟩ := own_at h2 e2.symm
      rw [e] at hc'; cases hc')
    refine ⟨vs ++ [(bv, d)], by rw [List.map_append, h1]; rfl, ?_, fun p hp => ?_⟩
    · rw [List.length_append, List.flatMap_append]; exact ho'
    · rcases List.mem_append.1 hp with hp | hp
      · exact ⟨(h3 p hp).1.keep (fun b cur e1 e2 => ⟨hkp b cur e2, e1⟩), (h3 p hp).2⟩
      · obtain rfl : p = (bv, d) := by simpa using hp
        exact ⟨hx.keep (fun b cur e1 e2 => ⟨hkp b cur e2, e1⟩), hd⟩
  have hform : ∃ A L c, v' = .slice A L c := by
    obtain ⟨vs', _, h2', _⟩ := hO
    rcases h2'.2 with ⟨rfl, e⟩ | ⟨b, cap, cur, rfl, _⟩
    · exact ⟨none, 0, 0, rfl⟩
    · exact ⟨_, _, _, rfl⟩
  obtain ⟨A', L', c', rfl⟩ := hform
  exact ⟨A', L', c', w', hr, hO, hg, fun r hr => (own_at h2 hr).1⟩
/-- As they may be read. -/
theorem OD.is {B : Nat} {w : World} {v : Value} {l : List Dg} (h : OD B w v l) (hl : l.length ≤ 4398046511104) : DgIs (fun k => B ≤ k ∧ k < w.heap.size) w v l := by
  obtain ⟨vs, h1, h2, h3⟩ := h
  have hlen : vs.length = l.length := by rw [← h1, List.length_map]
  rcases h2.2 with ⟨rfl, e⟩ | ⟨b, cap, cur, rfl, hb, hc, k1, k2, k3, k4⟩
  · exact ⟨none, 0, by rw [e], by omega, hl, fun hne => absurd (List.length_eq_zero_iff.1 e) hne⟩
  · refine ⟨_, cap, rfl, k1, hl, fun _ => ⟨b, 0, rfl, ⟨hb, lt_of hc⟩, fun j d hj => ?_⟩⟩
    have hjl : j < l.length := (List.getElem?_eq_some_iff.1 hj).1
    have hp : vs[j]? = some (vs[j]'(by omega)) := List.getElem?_eq_getElem _
    have hx2 : (vs[j]'(by omega)).2 = d := by
      have : (vs.map (·.2))[j]? = some (vs[j]'(by omega)).2 := by rw [List.getElem?_map, hp]; rfl
      rw [h1, hj] at this; cases this; rfl
    have at_ : ∀ i, i < 2 → w.cell? ⟨b, j * 2 + i, none⟩ = (dgC (vs[j]'(by omega)))[i]? := fun i hi => by
      have e := dgC_at vs j _ i hp hi
      rw [← k4, List.getElem?_take, if_pos (by omega)] at e
      rw [← e]; simp [World.cell?, hc]
    obtain ⟨q1, q2⟩ := h3 _ (List.getElem_mem (by omega : j < vs.length))
    refine ⟨(vs[j]'(by omega)).1, ?_, ?_, ?_⟩
    · have := at_ 0 (by omega)
      rw [Nat.zero_add]
      rw [Nat.add_zero] at this
      rw [this, ← hx2]; rfl
    · have := at_ 1 (by omega)
      rw [Nat.zero_add, this]; rfl
    · rw [hx2] at q1 q2
      exact (q1.keep (bb' := fun k => B ≤ k ∧ k < w.heap.size) (fun b cur e1 e2 => ⟨rfl, e1, lt_of e2⟩)).rd q2
/-- Datagrams of one's own: their bytes may be read and written. -/
def OwnD (P : Nat → Prop) (w : World) (A : Option Addr) (n : Nat) : Prop := n = 0 ∨ ∃ ab cur, A = some ⟨ab, 0, none⟩ ∧ P ab ∧ w.heap[ab]? = some (.cells cur 60 (0, 0)) ∧ ∀ j, j < n → ∃ (i : Int) (A2 : Option Addr) (m2 c2 : Nat), cur[j * 2]? = some (.int .i64 i) ∧ cur[j * 2 + 1]? = some (.slice A2 m2 c2) ∧ m2 ≤ 140737488355328 ∧ Own P w A2 m2
theorem OD.own {B : Nat} {w : World} {A : Option Addr} {n c : Nat} {l : List Dg} (h : OD B w (.slice A n c) l) : n = l.length ∧ OwnD (fun k => B ≤ k ∧ k < w.heap.size) w A n := by
  obtain ⟨vs, h1, h2, h3⟩ := h
  have hlen : vs.length = l.length := by rw [← h1, List.length_map]
  rcases h2.2 with ⟨e0, e⟩ | ⟨b, cap, cur, e0, hb, hc, k1, k2, k3, k4⟩
  · cases e0
    exact ⟨e.symm, .inl rfl⟩
  · cases e0
    refine ⟨rfl, .inr ⟨b, cur, rfl, ⟨hb, lt_of hc⟩, hc, fun j hjl => ?_⟩⟩
    have hp : vs[j]? = some (vs[j]'(by omega)) := List.getElem?_eq_getElem _
    have at_ : ∀ i, i < 2 → cur[j * 2 + i]? = (dgC (vs[j]'(by omega)))[i]? := fun i hi => by
      have e := dgC_at vs j _ i hp hi
      rw [← k4, List.getElem?_take, if_pos (by omega)] at e
      rw [← e]; simp
    obtain ⟨q1, q2⟩ := h3 _ (List.getElem_mem (by omega : j < vs.length))
    have q3 := q1.keep (bb' := fun k => B ≤ k ∧ k < w.heap.size) (w' := w) (fun b cur e1 e2 => ⟨rfl, e1, lt_of e2⟩)
    have q4 := q3
    obtain ⟨A2, c2, e2, _⟩ := q4
    rw [e2] at q3
    have a0 := at_ 0 (by omega)
    have a1 := at_ 1 (by omega)
    rw [Nat.add_zero] at a0
    refine ⟨(vs[j]'(by omega)).2.layer, A2, _, c2, a0, by rw [a1]; show some (vs[j]'(by omega)).1 = _; rw [e2], q2, q3.own⟩
theorem Own.keep {P : Nat → Prop} {w w' : World} {A : Option Addr} {n : Nat} (h : Own P w A n) (hk : ∀ k, P k → w'.heap[k]? = w.heap[k]?) : Own P w' A n := by
  rcases h with h0 | ⟨bo, cur, e1, e2, e3, e4⟩
  · exact .inl h0
  · exact .inr ⟨bo, cur, e1, e2, (hk bo e2).trans e3, e4⟩
theorem OwnD.keep {P : Nat → Prop} {w w' : World} {A : Option Addr} {n : Nat} (h : OwnD P w A n) (hk : ∀ k, P k → w'.heap[k]? = w.heap[k]?) : OwnD P w' A n := by
  rcases h with h0 | ⟨ab, cur, e1, e2, e3, e4⟩
  · exact .inl h0
  · refine .inr ⟨ab, cur, e1, e2, (hk ab e2).trans e3, fun j hj => ?_⟩
    obtain ⟨i, A2, m2, c2, f1, f2, f3, f4⟩ := e4 j hj
    exact ⟨i, A2, m2, c2, f1, f2, f3, f4.keep hk⟩
theorem Own.wr2 {P : Nat → Prop} {w : World} {A : Option Addr} {n : Nat} (h : Own P w A n) {bo : Nat} {cur : Array Value} (hc : w.heap[bo]? = some (.cells cur 5 (0, 0))) (j : Nat) (y : Int) : Own P (w.setCell ⟨bo, j, none⟩ (.int .u8 y)) A n := by
  rcases h with h0 | ⟨bo', cur', e1, e2, e3, e4⟩
  · exact .inl h0
  · by_cases e : bo' = bo
    · subst e
      exact Own.wr (.inr ⟨bo', cur', e1, e2, e3, e4⟩) hc j y e1
    · exact .inr ⟨bo', cur', e1, e2, (Below.heap_setCell w ⟨bo, j, none⟩ _ bo' e).trans e3, e4⟩
theorem OwnD.wr {P : Nat → Prop} {w : World} {A : Option Addr} {n : Nat} (h : OwnD P w A n) {bo : Nat} {cur : Array Value} (hc : w.heap[bo]? = some (.cells cur 5 (0, 0))) (j : Nat) (y : Int) : OwnD P (w.setCell ⟨bo, j, none⟩ (.int .u8 y)) A n := by
  rcases h with h0 | ⟨ab, cur', e1, e2, e3, e4⟩
  · exact .inl h0
  · have hne : ab ≠ bo := by
      rintro rfl
      rw [hc] at e3; cases e3
    refine .inr ⟨ab, cur', e1, e2, (Below.heap_setCell w ⟨bo, j, none⟩ _ ab hne).trans e3, fun k hk => ?_⟩
    obtain ⟨i, A2, m2, c2, f1, f2, f3, f4⟩ := e4 k hk
    exact ⟨i, A2, m2, c2, f1, f2, f3, f4.wr2 hc j y⟩
theorem sendP {W : World} {bx nb hb b c : Nat} {sr sp : Nt} {P : Nat → Prop} {w : World} {L : Nat} (h : BP W bx nb hb b c sr sp P w) (hs : Wm sp (L + 1)) (v : Value) (l : List Dg) (hl : DgIs P w v l) (hL : l.length ≤ 20) : Calls Tryd.prog 21 #[.pointer (some ⟨nb, 0, none⟩), v] w fun e w' => e = .returned .nilIface ∧ BP W bx nb hb b c sr (sp.send l) P w' ∧ ∀ k, P k → w'.heap[k]? = w.heap[k]? := by
  obtain ⟨bb, qv, h1, h2, h3, h4⟩ := h.net
  refine (send_calls h1 v l hl (fun k hk => ⟨(h4 k hk).1, (h4 k hk).2.1⟩) ⟨fun i hi => (hs.wf.level i hi).2, fun i hi => ⟨(hs.wf.got i hi).1, by have := (hs.wf.got i hi).2; omega⟩, fun i hi => by have := hs.wf.q i hi; omega⟩).mono ?_
  rintro e w' ⟨e1, e3⟩
  obtain ⟨g1, g2⟩ := h.bo.step h1 h2 h3 e3 rfl
  obtain ⟨g3, g4⟩ := LP.step (P := P) h1 h2 h3 h4 e3 rfl
  exact ⟨e1, ⟨g1.box, g1.ref, g3, h.old, h.own⟩, g4⟩
set_option maxHeartbeats 8000000 in
set_option maxRecDepth 100000 in
theorem send_both {W : World} {bx nb hb b c : Nat} {s : Nt} {w : World} {L : Nat} {D : Nat → Prop} (h : BO W bx nb hb b c s s w) (A : Option Addr) (m cl : Nat) (l : List Dg) (hl : DgIs D w (.slice A m cl) l) (hD : ∀ k, D k → k < w.heap.size) (hW : Wm s (L + 1)) : Calls Tryd.prog 41 #[.pointer (some ⟨bx, 0, none⟩), .slice A m cl] w fun e w' => e = .returned (.bool true) ∧ ∃ b' c', BO W bx nb hb b' c' (s.send (l.take 20)) (s.send (l.take 20)) w' := by
  obtain ⟨own, how⟩ : ∃ own, own = l.take 20 := ⟨_, rfl⟩
  rw [← how]
  have HWN := Lib.hid how
  clear how
  have HB := Lib.hid h
  have HL := Lib.hid (And.intro hl hD)
  have HW := Lib.hid hW
  obtain ⟨hm1, hm2, hm3⟩ := hl.lenm
  have HM := Lib.hid hm1
  have HBE : Hid (∀ A0, A0 = w.heap.size → Below w.heap.size w (w.alloc (.cells #[] 60)) ∧ OD w.heap.size (w.alloc (.cells #[] 60)) (.slice (some ⟨A0, 0, none⟩) 0 0) (l.take 0)) := Lib.hid (by
    rintro A0 rfl
    exact ⟨(Below.refl _ _).alloc (Nat.le_refl _) _, by rw [List.take_zero]; exact OD.empty (Nat.le_refl _)⟩)
  clear h hl hD hW hm1
  go_enter Tryd.func41, Tryd.ntmps41
  go_wp2
  go_loopg [5, 6] (m + 1) (fun kq v5 v6 wr => ∃ (j : Nat) (A5 : Option Addr) (L5 c5 : Nat), v6 = .int .i64 j ∧ v5 = .slice A5 L5 c5 ∧ Hid (j ≤ m ∧ j ≤ 20 ∧ kq = m + 1 - j) ∧ Hid (Below w.heap.size w wr ∧ OD w.heap.size wr (.slice A5 L5 c5) (l.take j)))
  case atStart => exact ⟨0, _, 0, 0, rfl, rfl, Lib.hid ⟨by omega, by omega, by omega⟩, Lib.hid (HBE.out _ rfl)⟩
  case round =>
    rename World => wo
    obtain ⟨j, A5, L5, c5, rfl, rfl, HJ, HO⟩ := hrel
    clear HBE
    by_cases hjj : j < m ∧ j < 20
    · obtain ⟨hj, h20⟩ := hjj
      have hj20 := h20
      obtain ⟨d, hd⟩ : ∃ d, l[j]? = some d := ⟨l[j]'(by rw [← HM.out]; exact hj), List.getElem?_eq_getElem _⟩
      have HDD : Hid (l[j]? = some d ∧ d.b.length ≤ 140737488355328) := Lib.hid ⟨hd, HL.out.1.small j d hd⟩
      obtain ⟨ab, ao, A2, lb, c2, rfl, hab, k1, k2, hrd⟩ := HL.out.1.at2 HL.out.2 j d hd
      have HS0 : Hid (∀ w', Below w.heap.size w w' → RdB D w' (.slice A2 lb c2) d.b ∧ w'.cell? ⟨ab, ao + j * 2, none⟩ = some (.int .i64 d.layer) ∧ w'.cell? ⟨ab, ao + j * 2 + 1, none⟩ = some (.slice A2 lb c2)) := Lib.hid (fun w' hb => ⟨hrd.keep (fun k hk => hb.block k (HL.out.2 k hk)), (hb.cell (p := ⟨ab, _, none⟩) hab).trans k1, (hb.cell (p := ⟨ab, _, none⟩) hab).trans k2⟩)
      have HSB : Hid ((fun w' => Below w.heap.size w w' ∧ OD w.heap.size w' (.slice A5 L5 c5) (l.take j) ∧ RdB D w' (.slice A2 lb c2) d.b ∧ w'.cell? ⟨ab, ao + j * 2, none⟩ = some (.int .i64 d.layer) ∧ w'.cell? ⟨ab, ao + j * 2 + 1, none⟩ = some (.slice A2 lb c2)) wo) := Lib.hid ⟨HO.out.1, HO.out.2, HS0.out wo HO.out.1⟩
      have HS : Hid (∀ w2 w3, ((fun w' => Below w.heap.size w w' ∧ OD w.heap.size w' (.slice A5 L5 c5) (l.take j) ∧ RdB D w' (.slice A2 lb c2) d.b ∧ w'.cell? ⟨ab, ao + j * 2, none⟩ = some (.int .i64 d.layer) ∧ w'.cell? ⟨ab, ao + j * 2 + 1, none⟩ = some (.slice A2 lb c2)) w2) → Below w2.heap.size w2 w3 → ((fun w' => Below w.heap.size w w' ∧ OD w.heap.size w' (.slice A5 L5 c5) (l.take j) ∧ RdB D w' (.slice A2 lb c2) d.b ∧ w'.cell? ⟨ab, ao + j * 2, none⟩ = some (.int .i64 d.layer) ∧ w'.cell? ⟨ab, ao + j * 2 + 1, none⟩ = some (.slice A2 lb c2)) w3)) := Lib.hid (fun w2 w3 h1 h2 => ⟨h1.1.trans (h2.mono h1.1.size), h1.2.1.below h2, HS0.out w3 (h1.1.trans (h2.mono h1.1.size))⟩)
      clear hd k1 k2 hrd HS0 HO hab
      go_upto_region 5 with (fail)
      refine start_ (n := 17) (S := fun w' => Below w.heap.size w w' ∧ OD w.heap.size w' (.slice A5 L5 c5) (l.take j) ∧ RdB D w' (.slice A2 lb c2) d.b ∧ w'.cell? ⟨ab, ao + j * 2, none⟩ = some (.int .i64 d.layer) ∧ w'.cell? ⟨ab, ao + j * 2 + 1, none⟩ = some (.slice A2 lb c2)) (ds := [15]) #[false, false, false, false, false, false, false, false, false, false, false, false, false, false, false, false, false] (by kernel_rfl) rfl rfl (HS.out _ _ HSB.out (Below.refl _ _).drew) (fun hHeld => ?_)
      refine pu_ 0 20 (bm_ 17 0x1) ?_
      refine pu_ 1 21 (bm_ 17 0x3) ?_
      refine pu_ 2 22 (bm_ 17 0x7) ?_
      refine pu_ 3 23 (bm_ 17 0xf) ?_
      refine pu_ 4 24 (bm_ 17 0x1f) ?_
      refine tk_ 5 25 (bm_ 17 0x3f) hHeld ?_
      refine pu_ 7 27 (bm_ 17 0xbf) ?_
      refine pu_ 8 28 (bm_ 17 0x1bf) ?_
      refine pu_ 9 29 (bm_ 17 0x3bf) ?_
      refine pu_ 10 30 (bm_ 17 0x7bf) ?_
      refine tk_ 11 31 (bm_ 17 0xfbf) hHeld ?_
      refine on_ 6 (some 26) (bm_ 17 0xfff) fun K hK => ?_
      refine value_ (by rfl) rfl (v := .slice (some ⟨wo.drew.heap.size, 0, none⟩) 0 0) (w1 := wo.drew.alloc (.cells #[] 5)) (by first | rfl | go_simp) ?_
      refine hK.out _ _ (HS.out _ _ hHeld ((Below.refl _ _).alloc (Nat.le_refl _) _)) (fun hHeld5 => ?_)
      clear hK K hHeld
      generalize (wo.drew.alloc (.cells #[] 5)) = w5 at hHeld5 ⊢
      generalize wo.drew.heap.size = g5
      refine nm_ 26 ?_
      refine on_ 12 (some 32) (bm_ 17 0x1fff) fun K hK => ?_
      obtain ⟨v8, w8, hr8, hRB, hB8⟩ := hHeld5.2.2.1.copy 22 ⟨g5, 0, none⟩ (fun b => w.heap.size ≤ b) (fun i hi => Nat.le_trans hHeld5.1.size hi)
      obtain ⟨A8, L8, c8, rfl⟩ : ∃ A8 L8 c8, v8 = .slice A8 L8 c8 := by obtain ⟨A8, c8, e, _⟩ := hRB; exact ⟨A8, _, c8, e⟩
      have HRB := Lib.hid hRB
      clear hRB
      refine value_ (by rfl) rfl (run_app rfl (by rfl) (by rfl) hr8) ?_
      refine hK.out _ _ (HS.out _ _ hHeld5 hB8) (fun hHeld8 => ?_)
      clear hK K hr8 hB8 hHeld5
      refine nm_ 32 ?_
      refine pu_ 13 33 (bm_ 17 0x3fff) ?_
      refine on_ 14 (some 34) (bm_ 17 0x7fff) fun K hK => ?_
      refine value_ (by rfl) rfl (v := .slice (some ⟨w8.heap.size, 0, none⟩) 1 1) (w1 := w8.alloc (.cells #[.int .i64 d.layer, .slice A8 L8 c8] 60)) (by first | rfl | go_simp) ?_
      have hB9 : Below w8.heap.size w8 (w8.alloc (.cells #[.int .i64 d.layer, .slice A8 L8 c8] 60)) := (Below.refl _ _).alloc (Nat.le_refl _) _
      refine hK.out _ _ (HS.out _ _ hHeld8 hB9) (fun hHeld9 => ?_)
      clear hK K
      have HC9 : Hid (∀ j u, ([.int .i64 d.layer, .slice A8 L8 c8] : List Value)[j]? = some u → (w8.alloc (.cells #[.int .i64 d.layer, .slice A8 L8 c8] 60)).cell? ((⟨w8.heap.size, 0, none⟩ : Addr).add j) = some u) := Lib.hid (fun j u hu => by
        have hadd : (⟨w8.heap.size, 0, none⟩ : Addr).add j = ⟨w8.heap.size, j, none⟩ := by unfold Addr.add; split <;> simp_all
        rw [hadd, World.cell?_alloc_at _ _ _ _ rfl]
        simpa using hu)
      have HRB9 := Lib.hid (HRB.out.below hB9)
      clear hB9 hHeld8 HRB
      generalize (w8.alloc (.cells #[.int .i64 d.layer, .slice A8 L8 c8] 60)) = w9 at hHeld9 HC9 HRB9 ⊢
      generalize w8.heap.size = g9 at HC9 ⊢
      refine nm_ 34 ?_
      refine la_ 15 (some 35) (bm_ 17 0xffff) fun K hK => ?_
      obtain ⟨A15, L15, c15, w15, hr15, hO15, hG15, hQ15⟩ := hHeld9.2.1.append (by rw [List.length_take]; omega) hHeld9.1.size 47 ⟨g9, 0, none⟩ 1 d (.slice A8 L8 c8) HC9.out HRB9.out HDD.out.2
      have HF : Hid (Below w.heap.size w w15 ∧ OD w.heap.size w15 (.slice A15 L15 c15) (l.take (j + 1))) := Lib.hid ⟨hHeld9.1.trans ⟨hG15.os, hG15.tape, hG15.output, hG15.size, fun k hk => hG15.block k (Nat.lt_of_lt_of_le hk hHeld9.1.size) (fun e => absurd (hQ15 k e.symm) (by omega))⟩, by rw [take_snoc HDD.out.1]; exact hO15⟩
      clear hO15 hG15 hQ15 HC9 HRB9
      refine value_ (by rfl) rfl (run_app rfl (by rfl) (by rfl) hr15) ?_
      refine hK.out _ _ ?_
      clear hK K hr15 hHeld9
      refine nm_ 35 ?_
      refine pu_ 16 5 (bm_ 17 0x1ffff) ?_
      refine done_ (by kernel_rfl) ?_
      clear HS HSB
      go_wp2
      go_roundg (m - j)
      case measure => have := HJ.out; omega
      case rel => exact ⟨j + 1, _, _, _, by go_num, rfl, Lib.hid ⟨by omega, by omega, by omega⟩, HF⟩
    · have how := HWN.out
      have hjo : l.take j = own := by
        rw [how]
        by_cases e : j < m
        · rw [show j = 20 by have := HJ.out; omega]
        · rw [List.take_of_length_le (by have := HM.out; omega), List.take_of_length_le (by have := HJ.out; have := HM.out; omega)]
      have how20 : own.length ≤ 20 := by rw [how, List.length_take]; omega
      rw [hjo] at HO
      have HN := Lib.hid (And.intro how20 hjo)
      obtain ⟨hL5, hOW⟩ := HO.out.2.own
      have hDG := HO.out.2.is (by omega)
      obtain ⟨P, HBP, HDG, HPX, HOW⟩ : ∃ P : Nat → Prop, Hid (BP W bx nb hb b c s s P wo) ∧ Hid (DgIs P wo (.slice A5 L5 c5) own) ∧ Hid (∀ k, P k → k < wo.heap.size ∧ k ≠ bx) ∧ Hid (OwnD P wo A5 L5) :=
        ⟨_, Lib.hid (HB.out.own HO.out.1), Lib.hid hDG, Lib.hid (fun k hk => ⟨hk.2, fun e => by have := HB.out.box.lt; have := hk.1; omega⟩), Lib.hid hOW⟩
      have HL5 : Hid (L5 = own.length) := Lib.hid hL5
      have hL520 : L5 ≤ 20 := by omega
      clear hOW hDG HO how how20 hjo hL5 HB
      have a0 : wo.cell? ⟨bx, 0, none⟩ = some (.pointer (some ⟨nb, 0, none⟩)) := HBP.out.box.cell 0
      have a1 : wo.cell? ⟨bx, 1, none⟩ = some (.int .i64 s.now) := HBP.out.box.cell 1
      have a2 : wo.cell? ⟨bx, 2, none⟩ = some (.slice (some ⟨b, 0, none⟩) s.n c) := HBP.out.box.cell 2
      have hcs : ¬ j < m ∨ (j < m ∧ ¬ j < 20) := by omega
      clear hjj
      rcases hcs with hj | ⟨hj, h20⟩ <;> (
        go_upto_region 7 with (first
          | (go_at_call 55; refine (send_r HBP.out.ref HBP.out.bo.n16 A5 L5 c5 own HDG.out (fun k hk => (HPX.out k hk).1) (fun k hk => ⟨(HW.out.wf.level k hk).2, (HW.out.wf.got k hk).1, by have := (HW.out.wf.got k hk).2; have := HN.out.1; omega, by have := HW.out.q k hk; have := HN.out.1; omega⟩)).mono ?_; rintro e w10 ⟨v', rfl, hv, hb⟩; obtain ⟨b5, c5', rfl, _, _⟩ := hv.parts; have HV := Lib.hid hv; have HB2 := Lib.hid (HBP.out.below hb); have HK2 : Hid (∀ k, P k → w10.heap[k]? = wo.heap[k]?) := Lib.hid (fun k hk => hb.block k (HPX.out k hk).1); have e1 : w10.cell? ⟨bx, 1, none⟩ = some (.int .i64 s.now) := HB2.out.box.cell 1; have e2 : w10.cell? ⟨bx, 2, none⟩ = some (.slice (some ⟨b, 0, none⟩) s.n c) := HB2.out.box.cell 2; have f1 := HB2.out.box.frozen 1; have f2 := HB2.out.box.frozen 2; clear hb hv a0 a1 a2))
        have HB3 : Hid (BP W bx nb hb b5 c5' (s.send own) s P ((w10.setCell ⟨bx, 1, none⟩ (.int .i64 (s.send own).now)).setCell ⟨bx, 2, none⟩ (.slice (some ⟨b5, 0, none⟩) (s.send own).n c5')) ∧ ∀ k, P k → ((w10.setCell ⟨bx, 1, none⟩ (.int .i64 (s.send own).now)).setCell ⟨bx, 2, none⟩ (.slice (some ⟨b5, 0, none⟩) (s.send own).n c5')).heap[k]? = wo.heap[k]?) := Lib.hid (by
          obtain ⟨h1, h2⟩ := HB2.out.refd (sr' := s.send own) HV.out
          exact ⟨h1, fun k hk => (h2 k (HPX.out k hk).2).trans (HK2.out k hk)⟩)
        generalize (w10.setCell ⟨bx, 1, none⟩ (.int .i64 (s.send own).now)).setCell ⟨bx, 2, none⟩ (.slice (some ⟨b5, 0, none⟩) (s.send own).n c5') = w20 at HB3 ⊢
        have HDG3 : Hid (DgIs P w20 (.slice A5 L5 c5) own ∧ OwnD P w20 A5 L5) := Lib.hid ⟨HDG.out.keep HB3.out.2, HOW.out.keep HB3.out.2⟩
        clear e1 e2 f1 f2 HB2 HV HK2 HBP HDG HOW HPX
        have a0 : w20.cell? ⟨bx, 0, none⟩ = some (.pointer (some ⟨nb, 0, none⟩)) := HB3.out.1.box.cell 0
        go_wp2_with (first
          | (go_at_call 21; refine (sendP HB3.out.1 HW.out (.slice A5 L5 c5) own HDG3.out.1 HN.out.1).mono ?_; rintro e w11 ⟨rfl, hbo, hkp⟩; have HB4 : Hid (BP W bx nb hb b5 c5' (s.send own) (s.send own) P w11 ∧ OwnD P w11 A5 L5) := Lib.hid ⟨hbo, HDG3.out.2.keep hkp⟩; clear hbo hkp a0))
        clear HB3 HDG3
        go_loopg [7] (L5 + 1) (fun kq v7 wr => ∃ i : Nat, v7 = .int .i64 i ∧ Hid (i ≤ L5 ∧ kq = L5 + 1 - i) ∧ Hid (BP W bx nb hb b5 c5' (s.send own) (s.send own) P wr ∧ OwnD P wr A5 L5))
        case atStart => exact ⟨0, rfl, Lib.hid ⟨by omega, by omega⟩, HB4⟩
        case round =>
          rename World => wi
          obtain ⟨i, rfl, HI, HBi⟩ := hrel
          clear HB4
          by_cases hi : i < L5
          · obtain ⟨ab, cur, ly, A2, m2, c2, rfl, hPa, hca, q0, q1, q2, q3⟩ : ∃ ab cur ly A2 m2 c2, A5 = some ⟨ab, 0, none⟩ ∧ P ab ∧ wi.heap[ab]? = some (.cells cur 60 (0, 0)) ∧ cur[i * 2]? = some (Value.int .i64 ly) ∧ cur[i * 2 + 1]? = some (.slice A2 m2 c2) ∧ m2 ≤ 140737488355328 ∧ Own P wi A2 m2 := by
              rcases HBi.out.2 with h0 | ⟨ab, cur, e1, e2, e3, e4⟩
              · omega
              · obtain ⟨ly, A2, m2, c2, f1, f2, f3, f4⟩ := e4 i hi
                exact ⟨ab, cur, ly, A2, m2, c2, e1, e2, e3, f1, f2, f3, f4⟩
            have HQ : Hid (∀ w' : World, w'.heap[ab]? = wi.heap[ab]? → w'.cell? ⟨ab, 0 + i * 2 + 1, none⟩ = some (.slice A2 m2 c2) ∧ w'.cell? ⟨ab, i * 2 + 1, none⟩ = some (.slice A2 m2 c2)) := Lib.hid (fun w' e => by
              have := (blk_cell (e.trans hca) (i * 2 + 1)).trans q1
              rw [Nat.zero_add]
              exact ⟨this, this⟩)
            have HB5 : Hid (BP W bx nb hb b5 c5' (s.send own) (s.send own) P wi ∧ OwnD P wi (some ⟨ab, 0, none⟩) L5 ∧ Own P wi A2 m2 ∧ wi.heap[ab]? = some (.cells cur 60 (0, 0))) := Lib.hid ⟨HBi.out.1, HBi.out.2, q3, hca⟩
            clear hPa q0 q1 q3 HBi
            clear hca
            go_wp2
            go_loopg [8] (m2 + 1) (fun kq v8 wr => ∃ k : Nat, v8 = .int .i64 k ∧ Hid (k ≤ m2 ∧ kq = m2 + 1 - k) ∧ Hid (BP W bx nb hb b5 c5' (s.send own) (s.send own) P wr ∧ OwnD P wr (some ⟨ab, 0, none⟩) L5 ∧ Own P wr A2 m2 ∧ wr.heap[ab]? = some (.cells cur 60 (0, 0))))
            case atStart => exact ⟨0, rfl, Lib.hid ⟨by omega, by omega⟩, HB5⟩
            case round =>
              rename World => wj
              obtain ⟨k, rfl, HK, HBj⟩ := hrel
              have HQj : Hid (wj.heap[ab]? = wi.heap[ab]?) := Lib.hid (HBj.out.2.2.2.trans HB5.out.2.2.2.symm)
              have y0 := (HQ.out wj HQj.out).1
              have y1 := (HQ.out wj HQj.out).2
              by_cases hk : k < m2
              · obtain ⟨bo, cub, x, rfl, hP, hcur, hx⟩ : ∃ bo cub x, A2 = some ⟨bo, 0, none⟩ ∧ P bo ∧ wj.heap[bo]? = some (.cells cub 5 (0, 0)) ∧ cub[k]? = some (.int .u8 x) := by
                  rcases HBj.out.2.2.1 with h0 | ⟨bo, cub, e1, e2, e3, e4⟩
                  · omega
                  · obtain ⟨x, hx⟩ := e4 k hk
                    exact ⟨bo, cub, x, e1, e2, e3, hx⟩
                have HO : Hid (P bo ∧ wj.heap[bo]? = some (.cells cub 5 (0, 0)) ∧ ab ≠ bo) := Lib.hid ⟨hP, hcur, fun e => by
                  have := HBj.out.2.2.2
                  rw [e, hcur] at this; cases this⟩
                have HS15 : Hid (wj.drew.cell? ⟨bo, k, none⟩ = some (.int .u8 x) ∧ wj.drew.frozen? ⟨bo, k, none⟩ = false ∧ wj.drew.cell? ⟨ab, 0 + i * 2 + 1, none⟩ = some (.slice (some ⟨bo, 0, none⟩) m2 c2) ∧ wj.drew.cell? ⟨ab, i * 2 + 1, none⟩ = some (.slice (some ⟨bo, 0, none⟩) m2 c2)) := Lib.hid ⟨(blk_cell hcur k).trans hx, blk_frozen hcur k, y0, y1⟩
                clear hP hcur hx
                go_upto_region 15 with (fail)
                clear y0 y1
                have y2 := HS15.out.1
                have y3 := HS15.out.2.1
                refine start_ (n := 17) (S := fun w' => w'.cell? ⟨bo, k, none⟩ = some (.int .u8 x) ∧ w'.frozen? ⟨bo, k, none⟩ = false ∧ w'.cell? ⟨ab, 0 + i * 2 + 1, none⟩ = some (.slice (some ⟨bo, 0, none⟩) m2 c2) ∧ w'.cell? ⟨ab, i * 2 + 1, none⟩ = some (.slice (some ⟨bo, 0, none⟩) m2 c2)) (ds := [16]) #[false, false, false, false, false, false, false, false, false, false, false, false, false, false, false, false, false] (by kernel_rfl) rfl rfl HS15.out (fun hHeld => ?_)
                refine pu_ 0 68 (bm_ 17 0x1) ?_
                refine pu_ 1 69 (bm_ 17 0x3) ?_
                refine pu_ 2 70 (bm_ 17 0x7) ?_
                refine pu_ 3 71 (bm_ 17 0xf) ?_
                refine tk_ 4 72 (bm_ 17 0x1f) hHeld ?_
                refine pu_ 5 73 (bm_ 17 0x3f) ?_
                refine pu_ 6 74 (bm_ 17 0x7f) ?_
                refine pu_ 7 75 (bm_ 17 0xff) ?_
                refine pu_ 8 76 (bm_ 17 0x1ff) ?_
                refine pu_ 9 77 (bm_ 17 0x3ff) ?_
                refine tk_ 10 78 (bm_ 17 0x7ff) hHeld ?_
                refine pu_ 11 79 (bm_ 17 0xfff) ?_
                refine pu_ 12 80 (bm_ 17 0x1fff) ?_
                refine tk_ 13 81 (bm_ 17 0x3fff) hHeld ?_
                refine pu_ 14 82 (bm_ 17 0x7fff) ?_
                refine pu_ 15 83 (bm_ 17 0xffff) ?_
                refine la_ 16 none (bm_ 17 0x1ffff) fun K hK => ?_
                refine skip_ (by rfl) rfl (w1 := (wj.drew.setCell ⟨bo, k, none⟩ (.int .u8 (IntKind.u8.wrap (255 - x))))) (by go_simp) ?_
                refine hK.out _ _ ?_
                clear hK K hHeld
                have HBN : Hid (BP W bx nb hb b5 c5' (s.send own) (s.send own) P (wj.drew.setCell ⟨bo, k, none⟩ (.int .u8 (IntKind.u8.wrap (255 - x)))) ∧ OwnD P (wj.drew.setCell ⟨bo, k, none⟩ (.int .u8 (IntKind.u8.wrap (255 - x)))) (some ⟨ab, 0, none⟩) L5 ∧ Own P (wj.drew.setCell ⟨bo, k, none⟩ (.int .u8 (IntKind.u8.wrap (255 - x)))) (some ⟨bo, 0, none⟩) m2 ∧ (wj.drew.setCell ⟨bo, k, none⟩ (.int .u8 (IntKind.u8.wrap (255 - x)))).heap[ab]? = some (.cells cur 60 (0, 0))) := Lib.hid ⟨HBj.out.1.drew.wr HO.out.1 HO.out.2.1 k _, OwnD.wr (w := wj.drew) (HBj.out.2.1.keep (fun _ _ => rfl)) HO.out.2.1 k _, Own.wr2 (w := wj.drew) (HBj.out.2.2.1.keep (fun _ _ => rfl)) HO.out.2.1 k _, (Below.heap_setCell wj.drew ⟨bo, k, none⟩ _ ab HO.out.2.2).trans HBj.out.2.2.2⟩
                generalize (wj.drew.setCell ⟨bo, k, none⟩ (.int .u8 (IntKind.u8.wrap (255 - x)))) = wz at HBN ⊢
                refine done_ (by kernel_rfl) ?_
                clear HS15
                go_wp2
                go_roundg (m2 - k)
                case measure => have := HK.out; omega
                case rel => exact ⟨k + 1, by go_num, Lib.hid ⟨by omega, by omega⟩, HBN⟩
              · have HB6 : Hid (BP W bx nb hb b5 c5' (s.send own) (s.send own) P wj ∧ OwnD P wj (some ⟨ab, 0, none⟩) L5) := Lib.hid ⟨HBj.out.1, HBj.out.2.1⟩
                clear HB5
                go_wp2
                go_roundg (L5 - i)
                case measure => have := HI.out; omega
                case rel => exact ⟨i + 1, by go_num, Lib.hid ⟨by omega, by omega⟩, HB6⟩
          · go_wp2
            go_ret
            exact ⟨rfl, b5, c5', HBi.out.1.bo⟩)

end
section
open Go.RowKit Go.Deep Go.Proofs.YtpfpdbbgiimnmaaDoor.Er Go.Proofs.YtpfpdbbgiimnmaaDoor.As Go.Proofs.YtpfpdbbgiimnmaaDoor.Mod Go.Proofs.YtpfpdbbgiimnmaaDoorW.PrintWords Go.Proofs.YtpfpdbbgiimnmaaDoorW.PrintLast
theorem queue_bad {bb : Nat → Prop} {w : World} {nb hb : Nat} {qv : Nat → Value} {s : Nt} (h : IsNet bb w nb hb qv s) (i : Int) (ha : ¬ s.at i = 0) :
    Calls Tryd.prog 26 #[.pointer (some ⟨nb, 0, none⟩), .int .i64 i] w fun e w' => e = .returned (.slice none 0 0) ∧ Below w.heap.size w w' := by
  have HH := Lib.hid h
  have HI := Lib.hid (at_no ha).2
  clear ha h
  go_enter Tryd.func26, Tryd.ntmps26
  go_wp2_with (first | (go_at_call 30; refine (at_bad HH.out i HI.out).mono ?_; rintro e w1 ⟨rfl, rfl⟩))
  go_ret
  exact ⟨rfl, Below.refl _ _⟩
theorem new_bad (w : World) (n : Int) (hn : n < 1 ∨ 16 < n) : Calls Tryd.prog 12 #[.int .i64 n] w fun e w' => ∃ ev, e = .returned (.tuple #[.pointer none, ev]) ∧ ErR w' ev (er newN 1) ∧ Below w.heap.size w w' := by
  by_cases h1 : n < 1
  · have d1 : decide (n < 1) = true := decide_eq_true h1
    clear hn h1
    go_enter Tryd.func12, Tryd.ntmps12
    go_wp2_with (first | (go_at_call 31; refine (fault_New.calls _ 1 _ _ rfl).mono ?_; rintro e w2 ⟨ev, rfl, h1, h2⟩; have HE := Lib.hid (And.intro h1 h2); clear h1 h2))
    go_ret2
    exact ⟨_, rfl, HE.out⟩
  · have d1 : decide (n < 1) = false := decide_eq_false h1
    have d2 : decide ((16 : Int) < n) = true := decide_eq_true (by omega)
    clear hn h1
    go_enter Tryd.func12, Tryd.ntmps12
    go_wp2_with (first | (go_at_call 31; refine (fault_New.calls _ 1 _ _ rfl).mono ?_; rintro e w2 ⟨ev, rfl, h1, h2⟩; have HE := Lib.hid (And.intro h1 h2); clear h1 h2))
    go_ret2
    exact ⟨_, rfl, HE.out⟩
section
variable {W : World} {bx nb hb b c : Nat} {sr sp : Nt} {w : World} {L : Nat}
theorem queueB (h : BO W bx nb hb b c sr sp w) (hs : Wm sp L) (i : Int) : Calls Tryd.prog 26 #[.pointer (some ⟨nb, 0, none⟩), .int .i64 i] w fun e w' => ∃ v, e = .returned v ∧ OutV w' v (sp.queue i) ∧ Below w.heap.size w w' := by
  have hby := h.bytes
  obtain ⟨bb, qv, h1, h2, h3⟩ := h.net
  by_cases ha : sp.at i = 0
  · obtain ⟨k, rfl, hk⟩ := at_of ha
    have hq := hs.q k hk
    refine (queue_ok h1 k hk (by omega)).mono ?_
    rintro e w' ⟨v, e1, e2, e3⟩
    have e4 : sp.queue (k : Int) = (sp.h k).q.map (·.b) := by unfold Nt.queue; rw [if_pos ha, Int.toNat_natCast]
    rw [e4]
    refine ⟨v, e1, e3.val (by rw [List.length_map]; omega) (fun b hb => ?_), e2⟩
    obtain ⟨y, hy, rfl⟩ := List.mem_map.1 hb
    exact (hby k hk y hy).1
  · refine (queue_bad h1 i ha).mono ?_
    rintro e w' ⟨e1, e2⟩
    refine ⟨_, e1, ?_, e2⟩
    rw [show sp.queue i = [] from if_neg ha]
    exact ⟨none, 0, rfl, Nat.le_refl _, by simp, fun e => absurd rfl e⟩
theorem levelB (h : BO W bx nb hb b c sr sp w) (i : Int) : Calls Tryd.prog 27 #[.pointer (some ⟨nb, 0, none⟩), .int .i64 i] w fun e w' => e = .returned (.int .i64 (sp.levelOf i)) ∧ Below w.heap.size w w' := by
  obtain ⟨bb, qv, h1, h2, h3⟩ := h.net
  refine (level_calls h1 i).mono ?_
  rintro e w' ⟨e1, rfl⟩
  exact ⟨e1, Below.refl _ _⟩
theorem nowB (h : BO W bx nb hb b c sr sp w) : Calls Tryd.prog 28 #[.pointer (some ⟨nb, 0, none⟩)] w fun e w' => e = .returned (.int .i64 sp.now) ∧ Below w.heap.size w w' := by
  obtain ⟨bb, qv, h1, h2, h3⟩ := h.net
  refine (now_calls h1).mono ?_
  rintro e w' ⟨e1, rfl⟩
  exact ⟨e1, Below.refl _ _⟩
theorem BO.keep0 (h : BO W bx nb hb b c sr sp w) : w.cell? ⟨bx, 0, none⟩ = some (.pointer (some ⟨nb, 0, none⟩)) := h.box.cell 0
end
set_option maxHeartbeats 8000000 in
set_option maxRecDepth 100000 in
theorem told_both {W : World} {bx nb hb b c : Nat} {s : Nt} {w : World} {L : Nat} (h : BO W bx nb hb b c s s w) (hW : Wm s L) : Calls Tryd.prog 15 #[.pointer (some ⟨bx, 0, none⟩)] w fun e w' => e = .returned (.bool true) ∧ BO W bx nb hb b c s s w' := by
  have HB := Lib.hid h
  have HW := Lib.hid hW
  have hn16 := h.n16
  clear h hW
  go_enter Tryd.func15, Tryd.ntmps15
  go_wp2
  go_loopg [3, 4] (s.n + 3) (fun kq v3 v4 wr => ∃ vi : Int, v3 = .int .i64 vi ∧ Hid (-1 ≤ vi ∧ vi ≤ s.n + 1 ∧ (kq : Int) = s.n + 2 - vi) ∧ Hid (BO W bx nb hb b c s s wr))
  case atStart => exact ⟨-1, rfl, Lib.hid ⟨by omega, by omega, by omega⟩, HB⟩
  case round =>
    obtain ⟨vi, rfl, HI, HBr⟩ := hrel
    clear HB
    have hi1 := HI.out.1
    have a0 : wr.cell? ⟨bx, 0, none⟩ = some (.pointer (some ⟨nb, 0, none⟩)) := HBr.out.box.cell 0
    have a1 : wr.cell? ⟨bx, 1, none⟩ = some (.int .i64 s.now) := HBr.out.box.cell 1
    have a2 : wr.cell? ⟨bx, 2, none⟩ = some (.slice (some ⟨b, 0, none⟩) s.n c) := HBr.out.box.cell 2
    by_cases hi : vi ≤ (s.n : Int)
    · have d1 : decide (vi ≤ (s.n : Int)) = true := decide_eq_true hi
      have HS : Hid (∀ w2 w3, ((fun w' => BO W bx nb hb b c s s w' ∧ w'.cell? ⟨bx, 0, none⟩ = some (.pointer (some ⟨nb, 0, none⟩))) w2) → Below w2.heap.size w2 w3 → ((fun w' => BO W bx nb hb b c s s w' ∧ w'.cell? ⟨bx, 0, none⟩ = some (.pointer (some ⟨nb, 0, none⟩))) w3)) := Lib.hid (fun w2 w3 h1 h2 => ⟨h1.1.below h2, (h1.1.below h2).keep0⟩)
      by_cases ha : s.at vi = 0
      · obtain ⟨k, rfl, hk⟩ := at_of ha
        obtain ⟨bh, ch, FA, fl, fc, QA, ql, qc, e1, hc, hblt, hx, hrow⟩ := HBr.out.ref.host hk
        cases e1
        have HR := Lib.hid (And.intro hblt (hrow 1 (by omega)))
        have HLV : Hid (s.levelOf (k : Int) = (s.h k).level) := Lib.hid (by unfold Nt.levelOf; rw [if_pos ha, Int.toNat_natCast])
        have HIs : Hid (decide (s.at (k : Int) = 0) = true) := Lib.hid (decide_eq_true ha)
        have hkn : k < s.n := hk
        clear hx hrow hblt hc ha hk hi
        go_upto_region 7 with (first
          | (go_at_call 46; refine (is_calls HBr.out.ref HBr.out.n16 (k : Int)).mono ?_; rintro e w5 ⟨rfl, hb⟩; rw [HIs.out]; have HB5 := Lib.hid (HBr.out.below hb); have r1 : w5.cell? ⟨b, k * 7 + 1, none⟩ = some (.int .i64 (s.h k).level) := (hb.cell (p := ⟨b, _, none⟩) HR.out.1).trans HR.out.2; have b0 : w5.cell? ⟨bx, 0, none⟩ = some (.pointer (some ⟨nb, 0, none⟩)) := HB5.out.box.cell 0; have b2 : w5.cell? ⟨bx, 2, none⟩ = some (.slice (some ⟨b, 0, none⟩) s.n c) := HB5.out.box.cell 2; clear hb a0 a1 a2))
        clear r1 b0 b2 HBr
        have HSB : Hid ((fun w' => BO W bx nb hb b c s s w' ∧ w'.cell? ⟨bx, 0, none⟩ = some (.pointer (some ⟨nb, 0, none⟩))) w5) := Lib.hid ⟨HB5.out, HB5.out.keep0⟩
        refine start_ (n := 24) (S := fun w' => BO W bx nb hb b c s s w' ∧ w'.cell? ⟨bx, 0, none⟩ = some (.pointer (some ⟨nb, 0, none⟩))) (ds := []) #[false, false, false, false, false, false, false, false, false, false, false, false, false, false, false, false, false, false, false, false, false, false, false, false] (by kernel_rfl) rfl rfl (HS.out _ _ HSB.out (Below.refl _ _).drew) (fun hHeld => ?_)
        refine pu_ 0 30 (bm_ 24 0x1) ?_
        refine pu_ 1 31 (bm_ 24 0x3) ?_
        refine pu_ 2 32 (bm_ 24 0x7) ?_
        refine tk_ 3 33 (bm_ 24 0xf) hHeld ?_
        refine pu_ 4 34 (bm_ 24 0x1f) ?_
        refine pu_ 6 36 (bm_ 24 0x5f) ?_
        refine pu_ 7 37 (bm_ 24 0xdf) ?_
        refine pu_ 8 38 (bm_ 24 0x1df) ?_
        refine take_ (i := 9) (N := some 39) (v := .agg #[.int .i64 s.now, .slice (some ⟨b, 0, none⟩) s.n c]) (bm_ 24 0x3df) rfl rfl (by kernel_rfl) (fun _ _ _ h => h) (Or.inl ⟨by rfl, fun w' hs => run_ldq hs.1.box (.tmp 38) rfl rfl⟩) hHeld rfl ?_
        refine nm_ 39 ?_
        refine pu_ 10 40 (bm_ 24 0x7df) ?_
        refine on_ 5 (some 35) (bm_ 24 0x7ff) fun K hK => ?_
        refine gd_ Tryd.func26 (queueB hHeld.1 HW.out (k : Int)) ?_
        rintro e w21 ⟨v1, rfl, ho, hb⟩
        refine ⟨_, rfl, ?_⟩
        have hS1 := HS.out _ _ hHeld hb
        have HO1 := Lib.hid ho
        clear ho hb
        refine hK.out _ _ hS1 (fun hHeld1 => ?_)
        clear hK K hS1 hHeld
        refine nm_ 35 ?_
        refine on_ 11 (some 41) (bm_ 24 0xfff) fun K hK => ?_
        refine gd_ Tryd.func47 (queueq_r hHeld1.1.ref hHeld1.1.n16 (fun k hk => by have := HW.out.q k hk; omega) hHeld1.1.bytes (k : Int)) ?_
        rintro e w22 ⟨v2, rfl, ho, hb⟩
        refine ⟨_, rfl, ?_⟩
        have hS1 := HS.out _ _ hHeld1 hb
        have HO2 := Lib.hid (And.intro (HO1.out.below hb) ho)
        clear ho hb HO1
        refine hK.out _ _ hS1 (fun hHeld2 => ?_)
        clear hK K hS1 hHeld1
        refine nm_ 41 ?_
        refine on_ 12 (some 42) (bm_ 24 0x1fff) fun K hK => ?_
        refine gd_ Tryd.func44 (same_calls w22 v1 v2 (s.queue (k : Int)) HO2.out.1 HO2.out.2) ?_
        rintro e w23 ⟨rfl, hb⟩
        refine ⟨_, rfl, ?_⟩
        have hS1 := HS.out _ _ hHeld2 hb
        clear hb HO2
        refine hK.out _ _ hS1 (fun hHeld3 => ?_)
        clear hK K hS1 hHeld2
        refine nm_ 42 ?_
        refine pu_ 13 43 (bm_ 24 0x3fff) ?_
        refine pu_ 14 44 (bm_ 24 0x7fff) ?_
        refine pu_ 15 45 (bm_ 24 0xffff) ?_
        refine pu_ 16 46 (bm_ 24 0x1ffff) ?_
        refine pu_ 17 47 (bm_ 24 0x3ffff) ?_
        refine tk_ 18 48 (bm_ 24 0x7ffff) hHeld3 ?_
        refine pu_ 19 49 (bm_ 24 0xfffff) ?_
        refine pu_ 21 51 (bm_ 24 0x2fffff) ?_
        refine on_ 20 (some 50) (bm_ 24 0x3fffff) fun K hK => ?_
        refine gd_ Tryd.func27 (levelB hHeld3.1 (k : Int)) ?_
        rintro e w24 ⟨rfl, hb⟩
        refine ⟨_, rfl, ?_⟩
        have hS1 := HS.out _ _ hHeld3 hb
        clear hb
        rw [HLV.out]
        refine hK.out _ _ hS1 (fun hHeld4 => ?_)
        clear hK K hS1 hHeld3
        refine nm_ 50 ?_
        refine pu_ 22 52 (bm_ 24 0x7fffff) ?_
        refine pu_ 23 53 (bm_ 24 0xffffff) ?_
        refine done_ (by kernel_rfl) ?_
        have HB6 := Lib.hid hHeld4.1
        clear HB5 HSB HS HLV HIs hHeld4
        go_wp2
        go_roundg (s.n + 1 - k)
        case measure => have := HI.out; omega
        case rel => exact ⟨k + 1, by go_num, Lib.hid ⟨by omega, by omega, by omega⟩, HB6⟩
      · have HLV : Hid (s.levelOf vi = -1) := Lib.hid (by unfold Nt.levelOf; rw [if_neg ha])
        have HIs : Hid (decide (s.at vi = 0) = false) := Lib.hid (decide_eq_false ha)
        clear ha
        go_upto_region 7 with (first
          | (go_at_call 46; refine (is_calls HBr.out.ref HBr.out.n16 vi).mono ?_; rintro e w5 ⟨rfl, hb⟩; rw [HIs.out]; have HB5 := Lib.hid (HBr.out.below hb); clear hb a0 a1 a2))
        clear HBr
        have HSB : Hid ((fun w' => BO W bx nb hb b c s s w' ∧ w'.cell? ⟨bx, 0, none⟩ = some (.pointer (some ⟨nb, 0, none⟩))) w5) := Lib.hid ⟨HB5.out, HB5.out.keep0⟩
        refine start_ (n := 24) (S := fun w' => BO W bx nb hb b c s s w' ∧ w'.cell? ⟨bx, 0, none⟩ = some (.pointer (some ⟨nb, 0, none⟩))) (ds := []) #[false, false, false, false, false, false, false, false, false, false, false, false, false, false, false, false, false, false, false, false, false, false, false, false] (by kernel_rfl) rfl rfl (HS.out _ _ HSB.out (Below.refl _ _).drew) (fun hHeld => ?_)
        refine pu_ 0 30 (bm_ 24 0x1) ?_
        refine pu_ 1 31 (bm_ 24 0x3) ?_
        refine pu_ 2 32 (bm_ 24 0x7) ?_
        refine tk_ 3 33 (bm_ 24 0xf) hHeld ?_
        refine pu_ 4 34 (bm_ 24 0x1f) ?_
        refine pu_ 6 36 (bm_ 24 0x5f) ?_
        refine pu_ 7 37 (bm_ 24 0xdf) ?_
        refine pu_ 8 38 (bm_ 24 0x1df) ?_
        refine take_ (i := 9) (N := some 39) (v := .agg #[.int .i64 s.now, .slice (some ⟨b, 0, none⟩) s.n c]) (bm_ 24 0x3df) rfl rfl (by kernel_rfl) (fun _ _ _ h => h) (Or.inl ⟨by rfl, fun w' hs => run_ldq hs.1.box (.tmp 38) rfl rfl⟩) hHeld rfl ?_
        refine nm_ 39 ?_
        refine pu_ 10 40 (bm_ 24 0x7df) ?_
        refine on_ 5 (some 35) (bm_ 24 0x7ff) fun K hK => ?_
        refine gd_ Tryd.func26 (queueB hHeld.1 HW.out vi) ?_
        rintro e w21 ⟨v1, rfl, ho, hb⟩
        refine ⟨_, rfl, ?_⟩
        have hS1 := HS.out _ _ hHeld hb
        have HO1 := Lib.hid ho
        clear ho hb
        refine hK.out _ _ hS1 (fun hHeld1 => ?_)
        clear hK K hS1 hHeld
        refine nm_ 35 ?_
        refine on_ 11 (some 41) (bm_ 24 0xfff) fun K hK => ?_
        refine gd_ Tryd.func47 (queueq_r hHeld1.1.ref hHeld1.1.n16 (fun k hk => by have := HW.out.q k hk; omega) hHeld1.1.bytes vi) ?_
        rintro e w22 ⟨v2, rfl, ho, hb⟩
        refine ⟨_, rfl, ?_⟩
        have hS1 := HS.out _ _ hHeld1 hb
        have HO2 := Lib.hid (And.intro (HO1.out.below hb) ho)
        clear ho hb HO1
        refine hK.out _ _ hS1 (fun hHeld2 => ?_)
        clear hK K hS1 hHeld1
        refine nm_ 41 ?_
        refine on_ 12 (some 42) (bm_ 24 0x1fff) fun K hK => ?_
        refine gd_ Tryd.func44 (same_calls w22 v1 v2 (s.queue vi) HO2.out.1 HO2.out.2) ?_
        rintro e w23 ⟨rfl, hb⟩
        refine ⟨_, rfl, ?_⟩
        have hS1 := HS.out _ _ hHeld2 hb
        clear hb HO2
        refine hK.out _ _ hS1 (fun hHeld3 => ?_)
        clear hK K hS1 hHeld2
        refine nm_ 42 ?_
        refine pu_ 13 43 (bm_ 24 0x3fff) ?_
        refine pu_ 14 44 (bm_ 24 0x7fff) ?_
        refine pu_ 15 45 (bm_ 24 0xffff) ?_
        refine pu_ 16 46 (bm_ 24 0x1ffff) ?_
        refine pu_ 17 47 (bm_ 24 0x3ffff) ?_
        refine tk_ 18 48 (bm_ 24 0x7ffff) hHeld3 ?_
        refine pu_ 19 49 (bm_ 24 0xfffff) ?_
        refine pu_ 21 51 (bm_ 24 0x2fffff) ?_
        refine on_ 20 (some 50) (bm_ 24 0x3fffff) fun K hK => ?_
        refine gd_ Tryd.func27 (levelB hHeld3.1 vi) ?_
        rintro e w24 ⟨rfl, hb⟩
        refine ⟨_, rfl, ?_⟩
        have hS1 := HS.out _ _ hHeld3 hb
        clear hb
        rw [HLV.out]
        refine hK.out _ _ hS1 (fun hHeld4 => ?_)
        clear hK K hS1 hHeld3
        refine nm_ 50 ?_
        refine pu_ 22 52 (bm_ 24 0x7fffff) ?_
        refine pu_ 23 53 (bm_ 24 0xffffff) ?_
        refine done_ (by kernel_rfl) ?_
        have HB6 := Lib.hid hHeld4.1
        clear HB5 HSB HS HLV HIs hHeld4
        go_wp2
        go_roundg (Int.toNat (s.n + 1 - vi))
        case measure => have := HI.out; omega
        case rel => exact ⟨vi + 1, by go_num, Lib.hid ⟨by omega, by omega, by omega⟩, HB6⟩
    · have d1 : decide (vi ≤ (s.n : Int)) = false := decide_eq_false hi
      have HS9 : Hid (∀ w2 w3, ((fun w' => BO W bx nb hb b c s s w' ∧ w'.cell? ⟨bx, 0, none⟩ = some (.pointer (some ⟨nb, 0, none⟩)) ∧ w'.cell? ⟨bx, 1, none⟩ = some (.int .i64 s.now)) w2) → Below w2.heap.size w2 w3 → ((fun w' => BO W bx nb hb b c s s w' ∧ w'.cell? ⟨bx, 0, none⟩ = some (.pointer (some ⟨nb, 0, none⟩)) ∧ w'.cell? ⟨bx, 1, none⟩ = some (.int .i64 s.now)) w3)) := Lib.hid (fun w2 w3 h1 h2 => ⟨h1.1.below h2, (h1.1.below h2).box.cell 0, (h1.1.below h2).box.cell 1⟩)
      have HSB : Hid ((fun w' => BO W bx nb hb b c s s w' ∧ w'.cell? ⟨bx, 0, none⟩ = some (.pointer (some ⟨nb, 0, none⟩)) ∧ w'.cell? ⟨bx, 1, none⟩ = some (.int .i64 s.now)) wr) := Lib.hid ⟨HBr.out, a0, a1⟩
      go_upto_region 9 with (fail)
      clear a0 a1 a2
      refine start_ (n := 12) (S := fun w' => BO W bx nb hb b c s s w' ∧ w'.cell? ⟨bx, 0, none⟩ = some (.pointer (some ⟨nb, 0, none⟩)) ∧ w'.cell? ⟨bx, 1, none⟩ = some (.int .i64 s.now)) (ds := []) #[false, false, false, false, false, false, false, false, false, false, false, false] (by kernel_rfl) rfl rfl (HS9.out _ _ HSB.out (Below.refl _ _).drew) (fun hHeld => ?_)
      refine pu_ 0 54 (bm_ 12 0x1) ?_
      refine pu_ 1 55 (bm_ 12 0x3) ?_
      refine pu_ 2 56 (bm_ 12 0x7) ?_
      refine tk_ 3 57 (bm_ 12 0xf) hHeld ?_
      refine pu_ 5 59 (bm_ 12 0x2f) ?_
      refine pu_ 6 60 (bm_ 12 0x6f) ?_
      refine pu_ 7 61 (bm_ 12 0xef) ?_
      refine pu_ 8 62 (bm_ 12 0x1ef) ?_
      refine tk_ 9 63 (bm_ 12 0x3ef) hHeld ?_
      refine on_ 4 (some 58) (bm_ 12 0x3ff) fun K hK => ?_
      refine gd_ Tryd.func28 (nowB hHeld.1) ?_
      rintro e w31 ⟨rfl, hb⟩
      refine ⟨_, rfl, ?_⟩
      have hS1 := HS9.out _ _ hHeld hb
      clear hb
      refine hK.out _ _ hS1 (fun hHeld1 => ?_)
      clear hK K hS1 hHeld
      refine nm_ 58 ?_
      refine pu_ 10 64 (bm_ 12 0x7ff) ?_
      refine pu_ 11 2 (bm_ 12 0xfff) ?_
      refine done_ (by kernel_rfl) ?_
      have HB6 := Lib.hid hHeld1.1
      clear HBr HSB HS9 hHeld1
      go_wp2
      go_ret
      exact ⟨rfl, HB6.out⟩

end
section
open Go.RowKit Go.Deep Go.Proofs.YtpfpdbbgiimnmaaDoor.Er Go.Proofs.YtpfpdbbgiimnmaaDoor.As Go.Proofs.YtpfpdbbgiimnmaaDoor.Mod Go.Proofs.YtpfpdbbgiimnmaaDoorW.PrintWords Go.Proofs.YtpfpdbbgiimnmaaDoorW.PrintLast
set_option maxHeartbeats 8000000 in
set_option maxRecDepth 100000 in
theorem step_5 {W : World} {bx nb hb b c : Nat} {s : Nt} {w : World} {L : Nat} (h : BO W bx nb hb b c s s w) (hg : Glob W) (hst an am mk : Int) (B1 : Option Addr) (B2 B3 : Nat) (L1 : Option Addr) (L2 L3 : Nat) (hW : Wm s (L + 1)) {D : Nat → Prop} (ls : List Dg) (hls : DgIs D W (.slice L1 L2 L3) ls) (hD : ∀ k, D k → k < W.heap.size) : Calls Tryd.prog 14 #[.pointer (some ⟨bx, 0, none⟩), .agg #[.int .i64 5, .int .i64 hst, .int .i64 an, .int .i64 am, .int .u32 mk, .slice B1 B2 B3, .slice L1 L2 L3]] w fun e w' => e = .returned (.bool true) ∧ ∃ b' c', BO W bx nb hb b' c' (s.send (ls.take 20)) (s.send (ls.take 20)) w' := by
  have HLS := Lib.hid (And.intro hls hD)
  clear hls hD
  obtain ⟨g3, hg3⟩ : ∃ g, g = w.heap.size := ⟨_, rfl⟩
  have HNE : Hid (g3 ≠ bx) := Lib.hid (fun e => absurd h.box.lt (by rw [← e, hg3]; exact Nat.lt_irrefl _))
  have HG := Lib.hid hg
  have HW := Lib.hid hW
  have HW1 : Hid (∀ w1, w1 = w.alloc (.cells #[.int .i64 5, .int .i64 hst, .int .i64 an, .int .i64 am, .int .u32 mk, .slice B1 B2 B3, .slice L1 L2 L3] 49) → BO W bx nb hb b c s s w1 ∧ Bk w1 w.heap.size 49 [.int .i64 5, .int .i64 hst, .int .i64 an, .int .i64 am, .int .u32 mk, .slice B1 B2 B3, .slice L1 L2 L3]) := Lib.hid (by
    rintro w1 rfl
    exact ⟨h.below ((Below.refl _ _).alloc (Nat.le_refl _) _), bk_alloc _ _ _⟩)
  have HSA : Hid (∀ w', BO W bx nb hb b c (s) (s) w' → Bk w' g3 49 [.int .i64 5, .int .i64 hst, .int .i64 an, .int .i64 am, .int .u32 mk, .slice B1 B2 B3, .slice L1 L2 L3] → BO W bx nb hb b c (s) (s) w' ∧ Bk w' g3 49 [.int .i64 5, .int .i64 hst, .int .i64 an, .int .i64 am, .int .u32 mk, .slice B1 B2 B3, .slice L1 L2 L3] ∧ Glob w' ∧ w'.cell? ⟨bx, 0, none⟩ = some (.pointer (some ⟨nb, 0, none⟩))) := Lib.hid (fun w' h1 h2 => ⟨h1, h2, Glob_below HG.out h1.net.bel, h1.box.cell 0⟩)
  have HSC : Hid (∀ w' {p q : Value}, Bk w' bx 45 [.pointer (some ⟨nb, 0, none⟩), p, q] → Bk w' g3 49 [.int .i64 5, .int .i64 hst, .int .i64 an, .int .i64 am, .int .u32 mk, .slice B1 B2 B3, .slice L1 L2 L3] → Bk w' g3 49 [.int .i64 5, .int .i64 hst, .int .i64 an, .int .i64 am, .int .u32 mk, .slice B1 B2 B3, .slice L1 L2 L3] ∧ w'.cell? ⟨bx, 0, none⟩ = some (.pointer (some ⟨nb, 0, none⟩))) := Lib.hid (fun w' _ _ h1 h2 => ⟨h2, h1.cell 0⟩)
  clear h hg hW
  go_enter Tryd.func14, Tryd.ntmps14
  go_upto_region 1 with (fail)
  generalize hw1 : w.alloc (.cells #[.int .i64 5, .int .i64 hst, .int .i64 an, .int .i64 am, .int .u32 mk, .slice B1 B2 B3, .slice L1 L2 L3] 49) = w1
  obtain ⟨h1, h2⟩ := HW1.out w1 hw1.symm
  rw [← hg3] at h2 ⊢
  have k0 : w1.cell? ⟨g3, 0, none⟩ = some (.int .i64 5) := h2.cell 0
  have HB1 := Lib.hid (And.intro h1 h2)
  clear h1 h2 hw1 HW1 hg3
  go_upto_region 19 with (fail)
  have k6 : w1.cell? ⟨g3, 6, none⟩ = some (.slice L1 L2 L3) := HB1.out.2.cell 6
  go_wp2_with (first
    | (go_at_call 41; refine (send_both HB1.out.1 L1 L2 L3 ls (HLS.out.1.keep (fun k hk => HB1.out.1.net.bel.block k (HLS.out.2 k hk))) (fun k hk => Nat.lt_of_lt_of_le (HLS.out.2 k hk) HB1.out.1.net.bel.size) HW.out).mono ?_; rintro e w11 ⟨rfl, b5, c5, hbo⟩; have HB4 := Lib.hid hbo; clear hbo))
  go_ret
  exact ⟨rfl, b5, c5, HB4.out⟩

theorem act_0 (s : Nt) (hst an am mk : Int) (lb : List Int) (ls : List Dg) : Nt.act s ⟨0, hst, an, am, mk, lb, ls⟩ = s.join hst := rfl
theorem act_1 (s : Nt) (hst an am mk : Int) (lb : List Int) (ls : List Dg) : Nt.act s ⟨1, hst, an, am, mk, lb, ls⟩ = s.leave hst := rfl
theorem act_2 (s : Nt) (hst an am mk : Int) (lb : List Int) (ls : List Dg) : Nt.act s ⟨2, hst, an, am, mk, lb, ls⟩ = s.want hst an := rfl
theorem act_3 (s : Nt) (hst an am mk : Int) (lb : List Int) (ls : List Dg) : Nt.act s ⟨3, hst, an, am, mk, lb, ls⟩ = s.setGraft hst an := rfl
theorem act_4 (s : Nt) (hst an am mk : Int) (lb : List Int) (ls : List Dg) : Nt.act s ⟨4, hst, an, am, mk, lb, ls⟩ = s.setCap hst an := rfl
theorem act_5 (s : Nt) (hst an am mk : Int) (lb : List Int) (ls : List Dg) : Nt.act s ⟨5, hst, an, am, mk, lb, ls⟩ = s.send (ls.take 20) := rfl
theorem act_6 (s : Nt) (hst an am mk : Int) (lb : List Int) (ls : List Dg) : Nt.act s ⟨6, hst, an, am, mk, lb, ls⟩ = s.tick := rfl
theorem act_7 (s : Nt) (hst an am mk : Int) (lb : List Int) (ls : List Dg) : Nt.act s ⟨7, hst, an, am, mk, lb, ls⟩ = s.take hst := rfl
theorem act_8 (s : Nt) (hst an am mk : Int) (lb : List Int) (ls : List Dg) : Nt.act s ⟨8, hst, an, am, mk, lb, ls⟩ = s.drop hst an := rfl
theorem act_9 (s : Nt) (hst an am mk : Int) (lb : List Int) (ls : List Dg) : Nt.act s ⟨9, hst, an, am, mk, lb, ls⟩ = s.double hst an := rfl
theorem act_10 (s : Nt) (hst an am mk : Int) (lb : List Int) (ls : List Dg) : Nt.act s ⟨10, hst, an, am, mk, lb, ls⟩ = s.delay hst an am := rfl
theorem act_11 (s : Nt) (hst an am mk : Int) (lb : List Int) (ls : List Dg) : Nt.act s ⟨11, hst, an, am, mk, lb, ls⟩ = s.spoil hst an am mk := rfl
theorem act_12 (s : Nt) (hst an am mk : Int) (lb : List Int) (ls : List Dg) : Nt.act s ⟨12, hst, an, am, mk, lb, ls⟩ = s.inject hst lb := rfl
theorem act_more (s : Nt) (kd hst an am mk : Int) (lb : List Int) (ls : List Dg) (hk : ¬ (0 ≤ kd ∧ kd ≤ 12)) : Nt.act s ⟨kd, hst, an, am, mk, lb, ls⟩ = s := by
  unfold Nt.act
  dsimp only
  rw [if_neg (show ¬ kd = 0 by omega)]
  rw [if_neg (show ¬ kd = 1 by omega)]
  rw [if_neg (show ¬ kd = 2 by omega)]
  rw [if_neg (show ¬ kd = 3 by omega)]
  rw [if_neg (show ¬ kd = 4 by omega)]
  rw [if_neg (show ¬ kd = 5 by omega)]
  rw [if_neg (show ¬ kd = 6 by omega)]
  rw [if_neg (show ¬ kd = 7 by omega)]
  rw [if_neg (show ¬ kd = 8 by omega)]
  rw [if_neg (show ¬ kd = 9 by omega)]
  rw [if_neg (show ¬ kd = 10 by omega)]
  rw [if_neg (show ¬ kd = 11 by omega)]
  rw [if_neg (show ¬ kd = 12 by omega)]
theorem spoils_all {W : World} {bx nb hb b c : Nat} {s : Nt} {w : World} {L : Nat} (h : BO W bx nb hb b c s s w) (hg : Glob W) (hst an am mk : Int) (B1 : Option Addr) (B2 B3 : Nat) (L1 : Option Addr) (L2 L3 : Nat) (hW : Wm s (L + 1)) (lb : List Int) (ls : List Dg) (ham : (-9223372036854775808 ≤ am ∧ am ≤ 9223372036854775807) ∧ (0 ≤ mk ∧ mk < 4294967296)) {D : Nat → Prop} (hD : ∀ k, D k → k < W.heap.size) (hrd : RdB D W (.slice B1 B2 B3) lb) (hls : DgIs D W (.slice L1 L2 L3) ls) (kd : Int) (hk : ¬ (0 ≤ kd ∧ kd ≤ 7)) : Calls Tryd.prog 45 #[.pointer (some ⟨bx, 0, none⟩), .agg #[.int .i64 kd, .int .i64 hst, .int .i64 an, .int .i64 am, .int .u32 mk, .slice B1 B2 B3, .slice L1 L2 L3]] w fun e w' => e = .returned (.bool true) ∧ ∃ b' c', BO W bx nb hb b' c' (Nt.act s ⟨kd, hst, an, am, mk, lb, ls⟩) (Nt.act s ⟨kd, hst, an, am, mk, lb, ls⟩) w' := by
  by_cases e8 : kd = 8
  · subst e8
    rw [act_8]
    exact spoils_8 h hg hst an am mk B1 B2 B3 L1 L2 L3 hW
  by_cases e9 : kd = 9
  · subst e9
    rw [act_9]
    exact spoils_9 h hg hst an am mk B1 B2 B3 L1 L2 L3 hW
  by_cases e10 : kd = 10
  · subst e10
    rw [act_10]
    exact spoils_10 h hg hst an am mk B1 B2 B3 L1 L2 L3 hW
  by_cases e11 : kd = 11
  · subst e11
    rw [act_11]
    exact spoils_11 h hg hst an am mk B1 B2 B3 L1 L2 L3 hW ham
  by_cases e12 : kd = 12
  · subst e12
    rw [act_12]
    exact spoils_12 h hg hst an am mk B1 B2 B3 L1 L2 L3 hW lb hrd hD
  rw [act_more s kd hst an am mk lb ls (by omega)]
  exact spoils_other h hg hst an am mk B1 B2 B3 L1 L2 L3 hW kd (by omega)
theorem step_all {W : World} {bx nb hb b c : Nat} {s : Nt} {w : World} {L : Nat} (h : BO W bx nb hb b c s s w) (hg : Glob W) (hst an am mk : Int) (B1 : Option Addr) (B2 B3 : Nat) (L1 : Option Addr) (L2 L3 : Nat) (hW : Wm s (L + 1)) (lb : List Int) (ls : List Dg) (ham : (-9223372036854775808 ≤ am ∧ am ≤ 9223372036854775807) ∧ (0 ≤ mk ∧ mk < 4294967296)) {D : Nat → Prop} (hD : ∀ k, D k → k < W.heap.size) (hrd : RdB D W (.slice B1 B2 B3) lb) (hls : DgIs D W (.slice L1 L2 L3) ls) (kd : Int) : Calls Tryd.prog 14 #[.pointer (some ⟨bx, 0, none⟩), .agg #[.int .i64 kd, .int .i64 hst, .int .i64 an, .int .i64 am, .int .u32 mk, .slice B1 B2 B3, .slice L1 L2 L3]] w fun e w' => e = .returned (.bool true) ∧ ∃ b' c', BO W bx nb hb b' c' (Nt.act s ⟨kd, hst, an, am, mk, lb, ls⟩) (Nt.act s ⟨kd, hst, an, am, mk, lb, ls⟩) w' := by
  by_cases e0 : kd = 0
  · subst e0
    rw [act_0]
    exact step_0 h hg hst an am mk B1 B2 B3 L1 L2 L3 hW
  by_cases e1 : kd = 1
  · subst e1
    rw [act_1]
    exact step_1 h hg hst an am mk B1 B2 B3 L1 L2 L3 hW
  by_cases e2 : kd = 2
  · subst e2
    rw [act_2]
    exact step_2 h hg hst an am mk B1 B2 B3 L1 L2 L3 hW
  by_cases e3 : kd = 3
  · subst e3
    rw [act_3]
    exact step_3 h hg hst an am mk B1 B2 B3 L1 L2 L3 hW
  by_cases e4 : kd = 4
  · subst e4
    rw [act_4]
    exact step_4 h hg hst an am mk B1 B2 B3 L1 L2 L3 hW
  by_cases e5 : kd = 5
  · subst e5
    rw [act_5]
    exact step_5 h hg hst an am mk B1 B2 B3 L1 L2 L3 hW ls hls hD
  by_cases e6 : kd = 6
  · subst e6
    rw [act_6]
    exact step_6 h hg hst an am mk B1 B2 B3 L1 L2 L3 hW
  by_cases e7 : kd = 7
  · subst e7
    rw [act_7]
    exact step_7 h hg hst an am mk B1 B2 B3 L1 L2 L3 hW
  exact step_sp h hg hst an am mk B1 B2 B3 L1 L2 L3 hW kd (by omega) (fun w1 h1 => spoils_all h1 hg hst an am mk B1 B2 B3 L1 L2 L3 hW lb ls ham hD hrd hls kd (by omega))
end
section
open Go.ChangeShapes Go.WideShapes Go.RowKit Go.Deep Go.Proofs.YtpfpdbbgiimnmaaDoor.Er Go.Proofs.YtpfpdbbgiimnmaaDoor.Mod Go.Proofs.YtpfpdbbgiimnmaaDoorW.PrintWords Go.Proofs.YtpfpdbbgiimnmaaDoorW.PrintLast
def actCells (a : AV) (bv lv : Value) : List Value := [.int .i64 a.kind, .int .i64 a.host, .int .i64 a.n, .int .i64 a.m, .int .u32 a.mask, bv, lv]
theorem celAct : Tryd.prog.cellsOf 49 = 7 := by kernel_rfl
theorem celU32 : Tryd.prog.cellsOf 23 = 1 := by kernel_rfl
theorem celDs : Tryd.prog.cellsOf 47 = 1 := by kernel_rfl
set_option linter.constructorNameAsVariable false in
set_option maxRecDepth 100000 in
theorem act_at {H : Type} {enc : TypeId × Value → H} {W : World} {fuel : Nat} {cs : List Value} {x : DataW H × List MemPlace} (hf : DataW.trod enc Tryd.prog W 0 (fun _ => true) true fuel 49 cs = some x) (hw : ∀ n ∈ x.1.weights Tryd.prog 49, n ≤ reachBytes) :
    ∃ (a : AV) (bv lv : Value), (∀ (i : Nat) (u : Value), (actCells a bv lv)[i]? = some u → cs[i]? = some u) ∧ RdB (fun k => k < W.heap.size) W bv a.b ∧ DgIs (fun k => k < W.heap.size) W lv a.l ∧ a.Ok := by
  obtain ⟨xs, n', _, hx, _, hxs, hel⟩ := DataW.trod_struct Tryd.underlying49 hf
  have get : ∀ i, i < 7 → ∃ y, xs[i]? = some y := fun i hi => ⟨xs[i]'(by have : xs.length = 7 := hxs; omega), List.getElem?_eq_getElem _⟩
  obtain ⟨y0, g0⟩ := get 0 (by omega)
  obtain ⟨y1, g1⟩ := get 1 (by omega)
  obtain ⟨y2, g2⟩ := get 2 (by omega)
  obtain ⟨y3, g3⟩ := get 3 (by omega)
  obtain ⟨y4, g4⟩ := get 4 (by omega)
  obtain ⟨y5, g5⟩ := get 5 (by omega)
  obtain ⟨y6, g6⟩ := get 6 (by omega)
  have h0 : DataW.trod enc Tryd.prog W 0 (fun _ => true) true n' 3 ((cs.drop 0).take (Tryd.prog.cellsOf 3)) = some y0 := (hel 0 _ rfl).trans g0
  have h1 : DataW.trod enc Tryd.prog W 0 (fun _ => true) true n' 3 ((cs.drop 1).take (Tryd.prog.cellsOf 3)) = some y1 := (hel 1 _ rfl).trans g1
  have h2 : DataW.trod enc Tryd.prog W 0 (fun _ => true) true n' 3 ((cs.drop 2).take (Tryd.prog.cellsOf 3)) = some y2 := (hel 2 _ rfl).trans g2
  have h3 : DataW.trod enc Tryd.prog W 0 (fun _ => true) true n' 3 ((cs.drop 3).take (Tryd.prog.cellsOf 3)) = some y3 := (hel 3 _ rfl).trans g3
  have h4 : DataW.trod enc Tryd.prog W 0 (fun _ => true) true n' 23 ((cs.drop 4).take (Tryd.prog.cellsOf 23)) = some y4 := (hel 4 _ rfl).trans g4
  have h5 : DataW.trod enc Tryd.prog W 0 (fun _ => true) true n' 22 ((cs.drop 5).take (Tryd.prog.cellsOf 22)) = some y5 := (hel 5 _ rfl).trans g5
  have h6 : DataW.trod enc Tryd.prog W 0 (fun _ => true) true n' 47 ((cs.drop 6).take (Tryd.prog.cellsOf 47)) = some y6 := (hel 6 _ rfl).trans g6
  rw [celI] at h0 h1 h2 h3
  rw [celU32] at h4
  rw [celBs] at h5
  rw [celDs] at h6
  have wts : ∀ (i : Nat) (t : TypeId) (y : DataW H × List MemPlace), ([3, 3, 3, 3, 23, 22, 47] : List TypeId)[i]? = some t → xs[i]? = some y → ∀ n ∈ y.1.weights Tryd.prog t, n ≤ reachBytes := by
    intro i t y ht hy n hn
    refine hw n ?_
    rw [hx]
    simp only [DataW.weights, Tryd.underlying49, List.map_cons, List.map_nil]
    exact DataW.weights_mem_each ht (by rw [List.getElem?_map, hy]; rfl) n hn
  obtain ⟨a, e0, _, q0⟩ := DataW.trod_int Tryd.underlying3 h0
  obtain ⟨x, e1, _, q1⟩ := DataW.trod_int Tryd.underlying3 h1
  obtain ⟨n, e2, _, q2⟩ := DataW.trod_int Tryd.underlying3 h2
  obtain ⟨m, e3, _, q3⟩ := DataW.trod_int Tryd.underlying3 h3
  obtain ⟨k, e4, _, q4⟩ := DataW.trod_int Tryd.underlying23 h4
  obtain ⟨b1, b2, b3, e5⟩ := Joins.slice_form Tryd.underlying22 h5
  obtain ⟨l1, l2, l3, e6⟩ := Joins.slice_form Tryd.underlying47 h6
  rw [e5] at h5
  rw [e6] at h6
  obtain ⟨b, _, hb⟩ := bs_arg (d := y5.1) (ps := y5.2) h5 (wts 5 _ y5 rfl g5)
  obtain ⟨l, _, hl, _⟩ := dgs_arg (d := y6.1) (ps := y6.2) h6 (wts 6 _ y6 rfl g6)
  have Q4 := bounds_u32 q4
  refine ⟨⟨a, x, n, m, k, b, l⟩, .slice b1 b2 b3, .slice l1 l2 l3, fun i u hu => ?_, hb, hl, ⟨⟨Q4.1, by have := Q4.2; show k < _; omega⟩, bounds_i64 q3, bounds_i64 q0, bounds_i64 q1, bounds_i64 q2⟩⟩
  match i, hu with
  | 0, hu => cases hu; exact one_of e0
  | 1, hu => cases hu; exact one_of e1
  | 2, hu => cases hu; exact one_of e2
  | 3, hu => cases hu; exact one_of e3
  | 4, hu => cases hu; exact one_of e4
  | 5, hu => cases hu; exact one_of e5
  | 6, hu => cases hu; exact one_of e6
  | i + 7, hu => cases hu
/-- Acts, as they come in. -/
def ActsIs (W : World) (A : Option Addr) (L C : Nat) (l : List AV) : Prop := L = l.length ∧ L ≤ C ∧ C ≤ maxLen ∧ ∀ (j : Nat) (a : AV), l[j]? = some a → a.Ok ∧ ∃ ab ao bv lv, A = some ⟨ab, ao, none⟩ ∧ ab < W.heap.size ∧ (∀ (i : Nat) (u : Value), (actCells a bv lv)[i]? = some u → W.cell? ⟨ab, ao + j * 7 + i, none⟩ = some u) ∧ RdB (fun k => k < W.heap.size) W bv a.b ∧ DgIs (fun k => k < W.heap.size) W lv a.l
set_option linter.constructorNameAsVariable false in
set_option maxRecDepth 100000 in
theorem acts_open {H : Type} {enc : TypeId × Value → H} {W : World} {base : Nat} {v : Value} {d : DataW H} {ps : List MemPlace} {ts : List TypeId} {ds : List (DataW H)} {j : Nat} (hsz : (DataW.weightsEach Tryd.prog ts ds).all (· ≤ reachBytes) = true) (ht : ts[j]? = some 35) (hd : ds[j]? = some d)
    (hv : Value.okWide Tryd.prog W .any base 35 v) (h : DataW.Trod enc Tryd.prog W 0 (fun _ => true) true 35 v d ps) : ∃ (A : Option Addr) (L C : Nat) (l : List AV), v = .slice A L C ∧ ActsIs W A L C l := by
  obtain ⟨A, L, C, rfl⟩ := okWide_slice Tryd.underlying35 hv
  obtain ⟨fuel, hf⟩ := h
  have hw : ∀ n ∈ d.weights Tryd.prog 35, n ≤ reachBytes := fun n hn => by
    have := List.all_eq_true.1 hsz _ (DataW.weights_mem_each ht hd n hn)
    simpa using this
  have hf' : DataW.trod enc Tryd.prog W 0 (fun _ => true) true fuel 35 [.slice A L C] = some (d, ps) := by simpa [Value.cells] using hf
  rcases open_slice Tryd.underlying35 hf' with ⟨hcs, _⟩ | ⟨x, len, cap, m, n, D, Pl, hcs, hb, hl, hm, hmm, hx, hrow⟩
  · simp only [List.cons.injEq, Value.slice.injEq, and_true] at hcs
    obtain ⟨rfl, rfl, rfl⟩ := hcs
    exact ⟨none, 0, 0, [], rfl, rfl, Nat.le_refl _, Nat.zero_le _, fun j a h => by cases h⟩
  · simp only [List.cons.injEq, Value.slice.injEq, and_true] at hcs
    obtain ⟨rfl, rfl, rfl⟩ := hcs
    simp only [if_true] at hmm
    have hmm' := hmm.symm
    subst hmm'
    have hd' := (Prod.mk.inj hx).1
    have each : ∀ i, i < L → ∃ y : AV × Value × Value, (∀ (c : Nat) (u : Value), (actCells y.1 y.2.1 y.2.2)[c]? = some u → W.cell? (x.add (i * 7 + c)) = some u) ∧ RdB (fun k => k < W.heap.size) W y.2.1 y.1.b ∧ DgIs (fun k => k < W.heap.size) W y.2.2 y.1.l ∧ y.1.Ok := by
      intro i hi
      obtain ⟨cs', h1, h2⟩ := hrow i (by omega)
      rw [celAct] at h1
      obtain ⟨_, hl', hc⟩ := World.cells?_some h1
      obtain ⟨a, bv, lv, k0, k1, k2, k3⟩ := act_at h2 (fun n hn => hw n (by
        rw [hd']
        simp only [DataW.weights, Tryd.underlying35]
        exact List.mem_cons.2 (.inr (List.mem_append.2 (.inl (weightsAll_mem (List.mem_map.2 ⟨i, List.mem_range.2 hi, rfl⟩) n hn))))))
      refine ⟨(a, bv, lv), fun c u hu => ?_, k1, k2, k3⟩
      have hc7 : c < 7 := (List.getElem?_eq_some_iff.1 hu).1
      have := hc c hc7
      rw [Go.Deep.add_add] at this
      exact this.trans (k0 c u hu)
    haveI : Inhabited (AV × Value × Value) := ⟨(⟨0, 0, 0, 0, 0, [], []⟩, .nilIface, .nilIface)⟩
    obtain ⟨z, hz⟩ := choose_lt each
    refine ⟨some x, L, C, (List.range L).map fun i => (z i).1, rfl, by simp, hl, hm, fun j a hj => ?_⟩
    have hj1 : j < L := by
      have := (List.getElem?_eq_some_iff.1 hj).1
      simpa using this
    obtain rfl : (z j).1 = a := by simpa [hj1] using hj
    obtain ⟨k0, k1, k2, k3⟩ := hz j hj1
    obtain ⟨b, o, sp⟩ := x
    have c0 := (hz 0 (by omega)).1 0 _ rfl
    obtain rfl : sp = none := by
      have e : (⟨b, o, sp⟩ : Addr).add (0 * 7 + 0) = ⟨b, o, sp⟩ := rfl
      rw [e] at c0
      unfold World.cell? at c0
      cases sp
      · rfl
      · simp at c0; split at c0 <;> simp_all
    have hadd : ∀ k, (⟨b, o, none⟩ : Addr).add k = ⟨b, o + k, none⟩ := fun k => by unfold Addr.add; split <;> simp_all
    refine ⟨k3, b, o, (z j).2.1, (z j).2.2, rfl, ?_, fun i u hu => ?_, k1, k2⟩
    · have := World.block_lt_of_cell? W _ c0
      rw [add_block] at this
      exact this
    · have := k0 i u hu
      rw [hadd] at this
      rw [Nat.add_assoc]; exact this
end
section
open Go.RowKit Go.Deep Go.Proofs.YtpfpdbbgiimnmaaDoor.Er Go.Proofs.YtpfpdbbgiimnmaaDoor.As Go.Proofs.YtpfpdbbgiimnmaaDoor.Mod Go.Proofs.YtpfpdbbgiimnmaaDoorW.PrintWords Go.Proofs.YtpfpdbbgiimnmaaDoorW.PrintLast
set_option maxHeartbeats 8000000 in
set_option maxRecDepth 100000 in
theorem plays_bad (W : World) (n : Int) (hn : n < 1 ∨ 16 < n) (A : Option Addr) (m c : Nat) (hg : Glob W) : Calls Tryd.prog 4 #[.int .i64 n, .slice A m c] W fun e w' => e = .returned (.bool true) ∧ Below W.heap.size W w' := by
  have HG := Lib.hid hg
  have HNB := Lib.hid hn
  clear hg hn
  go_enter Tryd.func4, Tryd.ntmps4
  go_wp2_with (first
    | (go_at_call 12; refine (new_bad _ n HNB.out).mono ?_; rintro e w1 ⟨ev, rfl, he, hb⟩; have HE := Lib.hid (And.intro he hb); clear he hb)
    | (go_at_call 13; refine (new_r_bad _ n HNB.out).mono ?_; rintro e w2 ⟨rfl, hb⟩; have HB0 := Lib.hid (Bs.start w2); have HE2 := Lib.hid (And.intro (ErR_below hb HE.out.1) (HE.out.2.trans (hb.mono HE.out.2.size))); clear hb HE)
    | ((with_reducible refine gate_dst (N := 7) rfl ?_); refine wp_al HB0.out (t := 40) rfl rfl al_T ?_; intro g7 w21 hb HB21; clear hb HB0)
    | ((with_reducible refine gate_store (t := 40) (p := 7) rfl ?_); refine wp_st HB21.out 0 rfl (q := 0) (seg := [.int .i64 0, .slice none 0 0]) rfl rfl rfl rfl rfl (by kernel_rfl) (Nat.le_refl _) (o_cons rfl (o_cons rfl o_nil)) ?_; intro w22 hq hf; have HB22 : Hid (Bs w2 w22 [(g7, 40, [.int .i64 0, .slice none 0 0])]) := hq; clear hq hf HB21)
    | (go_at_call 11; refine (Tells.tells.calls ev _ 1 { data := #[109, 110, 101, 116, 46, 78, 101, 119] } true _ (ErR_below HB22.out.B HE2.out.1) (Glob_below HG.out (HE2.out.2.trans (HB22.out.B.mono HE2.out.2.size))) (tells_er newN 1)).mono ?_; rintro e w5 ⟨rfl, hb⟩; have HB5 := Lib.hid (HE2.out.2.trans ((HB22.out.B.trans (hb.mono HB22.out.B.size)).mono HE2.out.2.size)); clear hb)
    | (go_at_call 7; refine (awake_calls _).mono ?_; rintro e w6 ⟨rfl, hb⟩; have HB6 := Lib.hid (HB5.out.trans (hb.mono HB5.out.size)); clear hb))
  go_ret
  exact ⟨rfl, HB6.out⟩

set_option maxHeartbeats 8000000 in
set_option maxRecDepth 100000 in
theorem plays_ok (W : World) (n : Nat) (hn : 1 ≤ n ∧ n ≤ 16) (A : Option Addr) (m c : Nat) (l : List AV) (hl : ActsIs W A m c l) (hg : Glob W) : Calls Tryd.prog 4 #[.int .i64 (n : Int), .slice A m c] W fun e w' => e = .returned (.bool true) ∧ Below W.heap.size W w' := by
  have HG := Lib.hid hg
  have HNK := Lib.hid hn
  have HL := Lib.hid hl
  obtain ⟨hm, hmc, hcm, _⟩ := hl
  have HM := Lib.hid hm
  obtain ⟨s0, hs0⟩ : ∃ s0, s0 = nt0 n := ⟨_, rfl⟩
  have HS0 := Lib.hid hs0
  unfold maxLen at hcm
  clear hm hg hn hs0
  go_enter Tryd.func4, Tryd.ntmps4
  go_wp2_with (first
    | (go_at_call 12; refine (newL _ n HNK.out).mono ?_; rintro e w1 ⟨nb, hb, rfl, h⟩; have H1 := Lib.hid h; clear h)
    | (go_at_call 13; refine (new_r _ n HNK.out).mono ?_; rintro e w2 ⟨v', rfl, hv, hbl⟩; rw [← HS0.out] at hv; obtain ⟨b, c1, rfl, _, _⟩ := hv.parts; have HB0 := Lib.hid (Bs.start w2); have HN := Lib.hid (And.intro (by rw [HS0.out]; exact H1.out.below hbl : LN W nb hb s0 w2) hv); clear hbl hv H1)
    | ((with_reducible refine gate_dst (N := 7) rfl ?_); refine wp_al HB0.out (t := 40) rfl rfl al_T ?_; intro g7 w21 hb HB21; clear hb HB0)
    | ((with_reducible refine gate_store (t := 40) (p := 7) rfl ?_); refine wp_st HB21.out 0 rfl (q := 0) (seg := [.int .i64 s0.now, .slice (some ⟨b, 0, none⟩) s0.n c1]) rfl rfl rfl rfl rfl (by kernel_rfl) (Nat.le_refl _) (o_cons rfl (o_cons rfl o_nil)) ?_; intro w22 hq hf; have HB22 : Hid (Bs w2 w22 [(g7, 40, [.int .i64 s0.now, .slice (some ⟨b, 0, none⟩) s0.n c1])]) := hq; clear hq hf HB21)
    | (go_at_call 11; refine (Tells.tells.calls .nilIface _ 0 { data := #[109, 110, 101, 116, 46, 78, 101, 119] } true _ (show ErR _ .nilIface (er newN 0) from rfl) (Glob_below HG.out (HN.out.1.bel.trans (HB22.out.B.mono HN.out.1.bel.size))) (tells_er newN 0)).mono ?_; rintro e w23 ⟨rfl, hb⟩; have HB23 := Lib.hid (HB22.out.below hb); clear hb HB22)
    | ((with_reducible refine gate_dst (N := 36) rfl ?_); refine wp_ld HB23.out 0 rfl rfl (.tmp 7) rfl rfl Tryd.underlying40 (by kernel_rfl) ?_)
    | ((with_reducible refine gate_dst (N := 38) rfl ?_); refine wp_bx HB23.out (t := 45) (cs := [.pointer (some ⟨nb, 0, none⟩), .int .i64 s0.now, .slice (some ⟨b, 0, none⟩) s0.n c1]) rfl (.tmp 37) rfl rfl ?_; intro bx w24 hb HB24; clear hb HB23))
  have HBO : Hid (BO W bx nb hb b c1 s0 s0 w24) := Lib.hid ⟨HB24.out.get 0 rfl, HN.out.2.below HB24.out.B, HN.out.1.below HB24.out.B, Nat.le_trans HN.out.1.bel.size (HB24.out.bk _ (List.mem_cons_self ..)).2⟩
  clear HB24 HN
  go_loopg [10] 60 (fun kq v10 wr => ∃ (i : Nat) (s : Nt) (b c : Nat), v10 = .int .i64 i ∧ Hid (i ≤ m ∧ i ≤ 50 ∧ kq = 60 - i) ∧ Hid (BO W bx nb hb b c s s wr) ∧ Hid (Wm s (100 - i)))
  case atStart => exact ⟨0, s0, b, c1, rfl, Lib.hid ⟨by omega, by omega, by omega⟩, HBO, Lib.hid (by rw [HS0.out]; exact Wm.new n)⟩
  case round =>
    obtain ⟨i, s, b, c1, rfl, HK, HB, HW⟩ := hrel
    clear HBO
    have hi1 : i ≤ m := HK.out.1
    have hi2 : i ≤ 50 := HK.out.2.1
    by_cases hc : i < m ∧ i < 50
    · obtain ⟨hi, h50⟩ := hc
      obtain ⟨a, ha⟩ : ∃ a, l[i]? = some a := ⟨l[i]'(by rw [← HM.out]; exact hi), List.getElem?_eq_getElem _⟩
      obtain ⟨hok, ab, ao, bv, lv, rfl, hab, hcell, hbb, hls⟩ := HL.out.2.2.2 i a ha
      obtain ⟨B1, B3, rfl, _⟩ := id hbb
      obtain ⟨L1, L3, rfl, _⟩ := id hls
      have hbel := HB.out.net.bel
      have c0 := (hbel.cell (p := ⟨ab, _, none⟩) hab).trans (hcell 0 _ rfl)
      have c1' := (hbel.cell (p := ⟨ab, _, none⟩) hab).trans (hcell 1 _ rfl)
      have c2 := (hbel.cell (p := ⟨ab, _, none⟩) hab).trans (hcell 2 _ rfl)
      have c3 := (hbel.cell (p := ⟨ab, _, none⟩) hab).trans (hcell 3 _ rfl)
      have c4 := (hbel.cell (p := ⟨ab, _, none⟩) hab).trans (hcell 4 _ rfl)
      have c5 := (hbel.cell (p := ⟨ab, _, none⟩) hab).trans (hcell 5 _ rfl)
      have c6 := (hbel.cell (p := ⟨ab, _, none⟩) hab).trans (hcell 6 _ rfl)
      rw [Nat.add_zero] at c0
      obtain ⟨Lm, hL1, hL2⟩ : ∃ Lm, 100 - i = Lm + 1 ∧ 100 - (i + 1) = Lm := ⟨100 - (i + 1), by omega, rfl⟩
      have HW2 : Hid (Wm s (Lm + 1)) := Lib.hid (by rw [← hL1]; exact HW.out)
      have HL2 := Lib.hid hL2
      obtain ⟨kd, hst, an, am, ak, bs, ls⟩ := a
      dsimp only at c0 c1' c2 c3 c4 c5 c6 hbb hls
      obtain ⟨B2, hB2⟩ : ∃ B2, B2 = bs.length := ⟨_, rfl⟩
      obtain ⟨L2, hL2'⟩ : ∃ L2, L2 = ls.length := ⟨_, rfl⟩
      rw [← hB2] at c5 hbb
      rw [← hL2'] at c6 hls
      have HX := Lib.hid (And.intro (And.intro hok.m hok.mask) (And.intro hbb hls))
      have HWA := Lib.hid (HW2.out.act ⟨kd, hst, an, am, ak, bs, ls⟩)
      clear ha hcell hbb hls hok hL1 hL2 hbel HW hB2 hL2'
      go_wp2_with (first
        | (go_at_call 14; refine (step_all HB.out HG.out hst an am ak B1 B2 B3 L1 L2 L3 HW2.out bs ls HX.out.1 (D := fun k => k < W.heap.size) (fun k hk => hk) HX.out.2.1 HX.out.2.2 kd).mono ?_; rintro e w11 ⟨rfl, b5, c5', hbo⟩; have HB5 := Lib.hid hbo; clear hbo c0 c1' c2 c3 c4 c5 c6)
        | (go_at_call 15; refine (told_both HB5.out HWA.out).mono ?_; rintro e w12 ⟨rfl, hbo⟩; have HB6 := Lib.hid hbo; clear hbo))
      go_roundg (59 - i)
      case measure => have := HK.out; omega
      case rel => exact ⟨i + 1, _, b5, c5', by go_num, Lib.hid ⟨by omega, by omega, by omega⟩, HB6, by rw [HL2.out]; exact HWA⟩
    · have hcs : ¬ i < m ∨ (i < m ∧ ¬ i < 50) := by omega
      clear hc
      rcases hcs with hi | ⟨hi, h50⟩ <;> (
        go_wp2_with (first
          | (go_at_call 7; refine (awake_calls _).mono ?_; rintro e w13 ⟨rfl, hb⟩; have HB7 := Lib.hid (HB.out.net.bel.trans (hb.mono HB.out.net.bel.size)); clear hb))
        go_ret
        exact ⟨rfl, HB7.out⟩)

theorem plays_calls (W : World) (n : Int) (A : Option Addr) (m c : Nat) (l : List AV) (hl : ActsIs W A m c l) (hg : Glob W) : Calls Tryd.prog 4 #[.int .i64 n, .slice A m c] W fun e w' => e = .returned (.bool true) ∧ Below W.heap.size W w' := by
  by_cases h : 1 ≤ n ∧ n ≤ 16
  · obtain ⟨k, rfl⟩ : ∃ k : Nat, n = (k : Int) := ⟨n.toNat, by omega⟩
    exact plays_ok W k (by omega) A m c l hl hg
  · exact plays_bad W n (by omega) A m c hg
end
end Go.Proofs.YtpfpdbbgiimnmaaDoor.Net
