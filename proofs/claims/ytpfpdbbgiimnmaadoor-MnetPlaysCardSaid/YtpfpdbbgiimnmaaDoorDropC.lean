/- Drop and Delay of (mnet.Net) by their contracts. Conditions: a net. -/
import Derived.Test.YtpfpdbbgiimnmaaDoorDrop
import Derived.Lib.SmallJoins
namespace Go.Proofs.YtpfpdbbgiimnmaaDoor.Net
set_option linter.unusedSimpArgs false
set_option linter.unusedVariables false
open Go.RowKit Go.Deep Go.Proofs.YtpfpdbbgiimnmaaDoor.Er Go.Proofs.YtpfpdbbgiimnmaaDoor.Mod Go.Proofs.YtpfpdbbgiimnmaaDoorW.PrintWords Go.Proofs.YtpfpdbbgiimnmaaDoorW.PrintLast
theorem QIs.parts {bb : Nat → Prop} {w : World} {v : Value} {q : List It} (h : QIs bb w v q) (hq : 0 < q.length) : ∃ (b cap : Nat) (l : List (Value × It)), v = .slice (some ⟨b, 0, none⟩) q.length cap ∧ l.map (·.2) = q ∧ QR w (.slice (some ⟨b, 0, none⟩) q.length cap) q.length (itCells l) ∧ (∀ p ∈ l, RB bb w p.1 p.2.b) ∧ q.length ≤ cap ∧ cap ≤ maxLen ∧ (∃ cur, w.heap[b]? = some (.cells cur 74 (0, 0))) := by
  obtain ⟨l, rfl, hqr, hb⟩ := h
  rw [List.length_map] at hq ⊢
  obtain ⟨b, cap, rfl, h1, h2, h3, _, _⟩ := hqr.cells hq
  exact ⟨b, cap, l, rfl, rfl, hqr, hb, h1, h2, hqr.type rfl⟩
theorem RB.one {bb : Nat → Prop} {w : World} {v : Value} {l : List Int} (h : RB bb w v l) : v.oneCell' = true := by
  obtain ⟨A, c, rfl, _⟩ := h; rfl
theorem not_bytes {w : World} {b : Nat} {cur cur' : Array Value} (h : w.heap[b]? = some (.cells cur 74 (0, 0))) (h' : w.heap[b]? = some (.cells cur' 5 (0, 0))) : False := by
  rw [h] at h'; cases h'
set_option maxHeartbeats 4000000 in
set_option maxRecDepth 100000 in
theorem drop_calls {bb : Nat → Prop} {w : World} {nb hb : Nat} {qv : Nat → Value} {s : Nt} (h : IsNet bb w nb hb qv s) (i j : Int) :
    Calls Tryd.prog 24 #[.pointer (some ⟨nb, 0, none⟩), .int .i64 i, .int .i64 j] w fun e w' => ∃ ev, e = .returned ev ∧ ErR w' ev (er dropN (s.placeE i j)) ∧ NetP bb w nb hb s.n qv (s.drop i j) w' := by
  have HH := Lib.hid h
  by_cases hp : s.placeE i j = 0
  rotate_left
  · have hd : s.drop i j = s := if_neg hp
    have HPN := Lib.hid (place_no h i j hp)
    rw [hd]
    obtain ⟨E, hE⟩ : ∃ E, s.placeE i j = E := ⟨_, rfl⟩
    rw [hE] at hp HPN ⊢
    have hb0 : (E == 0) = false := beq_eq_false_iff_ne.2 hp
    clear h hE hd
    go_enter Tryd.func24, Tryd.ntmps24
    go_wp2_with (first | (go_at_call 32; refine HPN.out.mono ?_; rintro e w1 ⟨v1, rfl, hw1⟩; rw [hw1]; clear hw1) | (go_at_call 31; refine (fault_New.calls _ E (er dropN E) _ rfl).mono ?_; rintro e w2 ⟨ev, rfl, h1, h2⟩; have HE := Lib.hid (And.intro h1 h2); clear h1 h2))
    go_ret
    exact ⟨_, rfl, HE.out.1, (NetP.refl HH.out).below HE.out.2⟩
  obtain ⟨k, m, rfl, rfl, hk, hm⟩ := place_at hp
  rw [show s.drop (k : Int) (m : Int) = _ from if_pos hp, hp]
  have t13 := h.cell hk 13 (by omega)
  have f13' := h.hos.frozen (k * 14 + 13)
  simp only [hoCell] at t13
  obtain ⟨b, cap, l, e3, hl, hqr, hrb, hc1, hc2, cur, hcur⟩ := (h.qs k hk).parts (by omega)
  rw [e3] at t13
  obtain ⟨n, hn⟩ : ∃ n, n = (s.h k).q.length := ⟨_, rfl⟩
  have HPL := Lib.hid (place_ok h k m hk hm)
  have HWO : Hid (Calls Tryd.prog 49 #[.slice (some ⟨b, 0, none⟩) n cap, .int .i64 (m : Int)] w fun e w2 => ∃ A5 L5 c5, e = .returned (.slice A5 L5 c5) ∧ w2.cell? ⟨hb, k * 14 + 13, none⟩ = some (.slice (some ⟨b, 0, none⟩) n cap) ∧ w2.frozen? ⟨hb, k * 14 + 13, none⟩ = false ∧ NetP bb w nb hb s.n qv (s.put k { s.h k with q := (s.h k).q.take m ++ (s.h k).q.drop (m + 1) }) (w2.setCell ⟨hb, k * 14 + 13, none⟩ (.slice A5 L5 c5))) := Lib.hid (by
    rw [hn]
    refine (without_calls hqr (itCells_one l (fun p hp => (hrb p hp).one)) m hm).mono ?_
    rintro e w2 ⟨v, rfl, hQ, hob, hF⟩
    obtain ⟨A5, c5, rfl, _, _⟩ := hQ.val
    have hne : hb ≠ b := fun e => (h.nb_q hk).2 (by rw [e3, e]; rfl)
    have h15 : w2.heap[hb]? = w.heap[hb]? := hF.block hb h.hos.lt hne
    refine ⟨A5, _, c5, rfl, ?_, ?_, ?_⟩
    · exact (cell_blk (a := ⟨hb, _, none⟩) h15).trans t13
    · exact (h.hos.of_block h15).frozen _
    · have hll : l.length = (s.h k).q.length := by rw [← hl, List.length_map]
      refine NetP.putQ h (Stp.refl _ _ _ _ _ _) rfl hk (hF.mono (fun b' e => by rw [e3, e]; rfl)) (fun b' e _ => e) (fun b' e => .inl e) (bb5 := bb) ⟨l.take m ++ l.drop (m + 1), ?_, ?_, fun p hp => ?_⟩ (fun b' e => .inl (by rw [e3]; rw [hob] at e; cases e; rfl)) rfl
      · rw [List.map_append, List.map_take, List.map_drop, hl]
      · rw [itCells_app, ← itCells_take, ← itCells_drop]
        have e6 : (l.take m ++ l.drop (m + 1)).length = (s.h k).q.length - 1 := by
          rw [List.length_append, List.length_take, List.length_drop, hll]; omega
        rw [e6]; exact hQ
      · refine (hrb p ?_).keep (fun b' cur' e1 e2 => ⟨hF.block b' (lt_of e2) (fun e => ?_), e1⟩)
        · rcases List.mem_append.1 hp with e | e
          · exact List.mem_of_mem_take e
          · exact List.mem_of_mem_drop e
        · rw [e] at e2; exact not_bytes hcur e2)
  rw [← hn] at t13
  rw [Int.toNat_natCast, Int.toNat_natCast]
  clear h hl hqr hrb hcur e3 hm hn hp hc1 hc2
  go_enter Tryd.func24, Tryd.ntmps24
  go_wp2_with (first
    | (go_at_call 32; refine HPL.out.mono ?_; rintro e w1 ⟨rfl, hw1⟩; rw [hw1]; clear hw1)
    | (go_at_call 49; refine HWO.out.mono ?_; rintro e w2 ⟨A5, L5, c5, rfl, y1, y2, hN⟩; have HN := Lib.hid hN; clear hN t13 f13'))
  go_ret
  exact ⟨_, rfl, rfl, HN.out⟩
theorem delay_q (s : Nt) (k m : Nat) (t : Int) (x : It) (hx : (s.h k).q[m]? = some x) : (s.h k).q.modify m (·.late t) = (s.h k).q.set m (x.late t) := by
  apply List.ext_getElem?
  intro i
  rw [List.getElem?_modify, List.getElem?_set]
  by_cases e : m = i
  · subst e
    have hl : m < (s.h k).q.length := (List.getElem?_eq_some_iff.1 hx).1
    rw [if_pos rfl, if_pos hl, hx]; simp
  · rw [if_neg e]; simp [e]
theorem itCells_set (l : List (Value × It)) (m : Nat) (p : Value × It) (x : Value × It) (hp : l[m]? = some p) (c : Nat) (hc : c < 3) (v : Value) (hv : ∀ d, d < 3 → ([x.1, Value.int .i64 x.2.due, Value.bool x.2.sp] : List Value)[d]? = if d = c then some v else ([p.1, Value.int .i64 p.2.due, Value.bool p.2.sp] : List Value)[d]?) : (itCells l).set (m * 3 + c) v = itCells (l.set m x) := by
  have hm : m < l.length := (List.getElem?_eq_some_iff.1 hp).1
  apply List.ext_getElem?
  intro i
  have hlen : (itCells l).length = l.length * 3 := itCells_len l
  have hlen2 : (itCells (l.set m x)).length = l.length * 3 := by rw [itCells_len, List.length_set]
  by_cases hi : i < l.length * 3
  · obtain ⟨a, d, rfl, hd⟩ : ∃ a d, i = a * 3 + d ∧ d < 3 := ⟨i / 3, i % 3, by omega, by omega⟩
    have ha : a < l.length := by omega
    rw [List.getElem?_set]
    by_cases e : a = m
    · subst e
      have e1 := it_at (l.set a x) a x d (by rw [List.getElem?_set, if_pos rfl, if_pos ha]) hd
      have e2 := it_at l a p d hp hd
      rw [e1, hv d hd]
      by_cases e3 : d = c
      · subst e3; rw [if_pos rfl, if_pos rfl, if_pos (by omega)]
      · rw [if_neg e3, if_neg (by omega), e2]
    · have e1 := it_at (l.set m x) a l[a] d (by rw [List.getElem?_set, if_neg (fun e2 => e e2.symm)]; exact List.getElem?_eq_getElem ha) hd
      have e2 := it_at l a l[a] d (List.getElem?_eq_getElem ha) hd
      rw [if_neg (by omega), e1, e2]
  · rw [List.getElem?_eq_none (by rw [List.length_set]; omega), List.getElem?_eq_none (by omega)]
/-- One cell of a row is written. -/
theorem QR.set {w : World} {b n cap : Nat} {xs : List Value} (h : QR w (.slice (some ⟨b, 0, none⟩) n cap) n xs) (i : Nat) (hi : i < n * 3) (v : Value) : QR (w.setCell ⟨b, i, none⟩ v) (.slice (some ⟨b, 0, none⟩) n cap) n (xs.set i v) := by
  obtain ⟨hl, h2⟩ := h
  rcases h2 with ⟨e, _⟩ | ⟨b', cap', cur, e, hc, k1, k2, k3, k4⟩
  · cases e
  cases e
  refine ⟨by rw [List.length_set]; exact hl, .inr ⟨b, cap, cur.setIfInBounds i v, rfl, Joins.block_setCell hc v, k1, k2, by simpa using k3, ?_⟩⟩
  rw [Array.toList_setIfInBounds, List.take_set, k4]
theorem ho_q (v : Value) (x : Ho) (q : List It) : ∀ d, d < 14 → hoCell v x d = hoCell v { x with q := q } d := by
  refine fourteen rfl rfl (fun j h2 h3 => ?_) rfl rfl rfl rfl
  obtain ⟨i, rfl⟩ : ∃ i, j = 2 + i := ⟨j - 2, by omega⟩
  rw [ho_fro _ _ _ (by omega), ho_fro _ _ _ (by omega)]
/-- A queue's block is written, its host's cells are not. -/
theorem IsNet.item {bb bb' : Nat → Prop} {w w5 : World} {nb hb : Nat} {qv : Nat → Value} {s : Nt} {k : Nat} {q : List It} (h : IsNet bb w nb hb qv s) (hk : k < s.n) (hf : Fr w w5 (fun b => (qv k).ownBlock = some b)) (hbb : ∀ b, bb b → b < w.heap.size → bb' b) (hq : QIs bb' w5 (qv k) q) : IsNet bb' w5 nb hb qv (s.put k { s.h k with q := q }) := by
  have hn1 : w5.heap[nb]? = w.heap[nb]? := hf.block nb h.net.lt (fun e => (h.nb_q hk).1 e)
  have hn2 : w5.heap[hb]? = w.heap[hb]? := hf.block hb h.hos.lt (fun e => (h.nb_q hk).2 e)
  refine ⟨?_, ?_, ?_, h.apart, h.n1, h.n16⟩
  · refine (h.net.of_block hn1).congr (fun i hi => ?_)
    match i, hi with
    | 0, _ => rfl
    | 1, _ => rfl
  · refine (h.hos.of_block hn2).congr (fun j hj => ?_)
    unfold hosCell Nt.put
    by_cases e : j / 14 = k
    · rw [e]
      show _ = hoCell (qv k) (if k = k then _ else s.h k) (j % 14)
      rw [if_pos rfl]
      have e2 : j % 14 < 14 := Nat.mod_lt _ (by omega)
      exact ho_q _ _ _ _ e2
    · show _ = hoCell _ (if j / 14 = k then _ else s.h (j / 14)) _
      rw [if_neg e]
  · intro i hi
    unfold Nt.put
    by_cases e : i = k
    · subst e
      show QIs _ _ _ (if i = i then _ else s.h i).q
      rw [if_pos rfl]
      exact hq
    · show QIs _ _ _ (if i = k then _ else s.h i).q
      rw [if_neg e]
      refine (h.qs i hi).keep (fun b hb' => ?_) (fun b cur hb2 hc' => ?_)
      · exact hf.block b (h.lt (.inr (.inr ⟨i, hi, hb'⟩))) (fun e2 => e (h.apart i k b hi hk hb' e2))
      · exact ⟨hf.block b (lt_of hc') (fun e2 => h.no_bytes (.inr (.inr ⟨k, hk, e2⟩)) cur hc'), hbb b hb2 (lt_of hc')⟩
theorem NetP.item {bb : Nat → Prop} {w : World} {nb hb n : Nat} {qv : Nat → Value} {s : Nt} {w' w5 : World} {bb' bb5 : Nat → Prop} {qv' : Nat → Value} {k : Nat} {q : List It} (h1 : IsNet bb' w' nb hb qv' s) (h2 : Stp bb w nb hb n qv bb' w' qv') (hs : s.n = n) (hk : k < n) (hf : Fr w' w5 (fun b => (qv' k).ownBlock = some b)) (hb1 : ∀ b, bb' b → b < w'.heap.size → bb5 b) (hb2 : ∀ b, bb5 b → bb' b ∨ w'.heap.size ≤ b) (hq : QIs bb5 w5 (qv' k) q) : NetP bb w nb hb n qv (s.put k { s.h k with q := q }) w5 := by
  subst hs
  exact ⟨bb5, qv', h1.item hk hf hb1 hq, h2.trans ⟨hf.mono (fun b' e => .inr (.inr ⟨k, hk, e⟩)), fun i e => .inl e, hb2⟩⟩
set_option maxHeartbeats 4000000 in
set_option maxRecDepth 100000 in
theorem delay_calls {bb : Nat → Prop} {w : World} {nb hb : Nat} {qv : Nat → Value} {s : Nt} (h : IsNet bb w nb hb qv s) (i j t : Int) (hdue : ∀ k, k < s.n → ∀ x ∈ (s.h k).q, 0 ≤ x.due ∧ x.due < 5000000000000) :
    Calls Tryd.prog 25 #[.pointer (some ⟨nb, 0, none⟩), .int .i64 i, .int .i64 j, .int .i64 t] w fun e w' => ∃ ev, e = .returned ev ∧ ErR w' ev (er delayN (s.delayE i j t)) ∧ NetP bb w nb hb s.n qv (s.delay i j t) w' := by
  have HH := Lib.hid h
  by_cases hp : s.placeE i j = 0
  rotate_left
  · have hd : s.delayE i j t = s.placeE i j := if_neg hp
    have hd2 : s.delay i j t = s := if_neg (by rw [hd]; exact hp)
    have HPN := Lib.hid (place_no h i j hp)
    rw [hd, hd2]
    obtain ⟨E, hE⟩ : ∃ E, s.placeE i j = E := ⟨_, rfl⟩
    rw [hE] at hp HPN ⊢
    have hb0 : (E == 0) = false := beq_eq_false_iff_ne.2 hp
    clear h hE hd hd2 hdue
    go_enter Tryd.func25, Tryd.ntmps25
    go_wp2_with (first
      | (go_at_call 32; refine HPN.out.mono ?_; rintro e w1 ⟨v1, rfl, hw1⟩; rw [hw1]; clear hw1)
      | (go_at_call 31; refine (fault_New.calls _ E (er delayN E) _ rfl).mono ?_; rintro e w2 ⟨ev, rfl, h1, h2⟩; have HE := Lib.hid (And.intro h1 h2); clear h1 h2))
    go_ret
    exact ⟨_, rfl, HE.out.1, (NetP.refl HH.out).below HE.out.2⟩
  obtain ⟨k, m, rfl, rfl, hk, hm⟩ := place_at hp
  have hE : s.delayE (k : Int) (m : Int) t = if t < 0 ∨ 64 < t then 1 else 0 := if_pos hp
  have HPL := Lib.hid (place_ok h k m hk hm)
  by_cases ht : t < 0 ∨ 64 < t
  · have he : s.delayE (k : Int) (m : Int) t = 1 := hE.trans (if_pos ht)
    have hd2 : s.delay (k : Int) (m : Int) t = s := if_neg (by rw [he]; decide)
    rw [he, hd2]
    clear h hE hd2 hdue hp hk hm he
    have ht2 : t < 0 ∨ (¬ t < 0 ∧ 64 < t) := by omega
    clear ht
    rcases ht2 with ht | ⟨ht, ht2⟩
    all_goals
      go_enter Tryd.func25, Tryd.ntmps25
      go_wp2_with (first
        | (go_at_call 32; refine HPL.out.mono ?_; rintro e w1 ⟨rfl, hw1⟩; rw [hw1]; clear hw1)
        | (go_at_call 31; refine (fault_New.calls _ 1 (er delayN 1) _ rfl).mono ?_; rintro e w2 ⟨ev, rfl, h1, h2⟩; have HE := Lib.hid (And.intro h1 h2); clear h1 h2))
      go_ret
      exact ⟨_, rfl, HE.out.1, (NetP.refl HH.out).below HE.out.2⟩
  have he : s.delayE (k : Int) (m : Int) t = 0 := hE.trans (if_neg ht)
  rw [show s.delay (k : Int) (m : Int) t = _ from if_pos he, he]
  obtain ⟨x, hx⟩ : ∃ x, (s.h k).q[m]? = some x := ⟨_, List.getElem?_eq_getElem hm⟩
  obtain ⟨hx1, hx2⟩ := hdue k hk x (List.mem_of_getElem? hx)
  have t13 := h.cell hk 13 (by omega)
  simp only [hoCell] at t13
  obtain ⟨b, cap, l, e3, hl, hqr, hrb, hc1, hc2, cur, hcur⟩ := (h.qs k hk).parts (by omega)
  have hll : l.length = (s.h k).q.length := by rw [← hl, List.length_map]
  obtain ⟨p, hp1⟩ : ∃ p, l[m]? = some p := ⟨l[m]'(by omega), List.getElem?_eq_getElem _⟩
  obtain rfl : p.2 = x := by
    have : (l.map (·.2))[m]? = some p.2 := by rw [List.getElem?_map, hp1]; rfl
    rw [hl, hx] at this; exact (Option.some.inj this).symm
  obtain ⟨_, _, e9, _, _, _, hcell, hfr⟩ := hqr.cells (by omega)
  cases e9
  have d1 : w.cell? ⟨b, m * 3 + 1, none⟩ = some (.int .i64 p.2.due) := hcell _ _ (it_at l m p 1 hp1 (by omega))
  have df := hfr (m * 3 + 1)
  have HP : Hid (NetP bb w nb hb s.n qv (s.put k { s.h k with q := (s.h k).q.modify m (·.late t) }) (w.setCell ⟨b, m * 3 + 1, none⟩ (.int .i64 (p.2.due + t)))) := Lib.hid (by
    refine NetP.item h (Stp.refl _ _ _ _ _ _) rfl hk (Fr.set (S := fun b' => (qv k).ownBlock = some b') (Fr.refl _ _) (a := ⟨b, _, none⟩) (.inl (by rw [e3]; rfl)) _) (fun b' e _ => e) (fun b' e => .inl e) ⟨l.set m (p.1, p.2.late t), ?_, ?_, fun p' hp' => ?_⟩
    · rw [List.map_set, hl, delay_q s k m t p.2 hx]
    · rw [List.length_set, ← itCells_set l m p (p.1, p.2.late t) hp1 1 (by omega) (.int .i64 (p.2.due + t)) (fun d hd => by
        match d, hd with
        | 0, _ => rfl
        | 1, _ => rfl
        | 2, _ => rfl), hll, e3]
      exact hqr.set _ (by omega) _
    · have hk' : RB bb w p'.1 p'.2.b := by
        rcases List.mem_or_eq_of_mem_set hp' with e | rfl
        · exact hrb p' e
        · exact hrb p (List.mem_of_getElem? hp1)
      refine hk'.keep (fun b' cur' e1 e2 => ⟨Deep.blk_setCell_other _ _ _ _ (fun e => ?_), e1⟩)
      rw [show b' = b from e] at e2
      exact not_bytes hcur e2)
  rw [e3] at t13
  obtain ⟨n, hn⟩ : ∃ n, n = (s.h k).q.length := ⟨_, rfl⟩
  obtain ⟨du, hdu⟩ : ∃ du, du = p.2.due := ⟨_, rfl⟩
  rw [← hn] at t13 hm hc1
  rw [← hdu] at d1 HP hx1 hx2
  rw [Int.toNat_natCast, Int.toNat_natCast]
  have ht0 : 0 ≤ t := by omega
  have ht6 : t ≤ 64 := by omega
  clear h hl hqr hrb hcur e3 hn hp hc2 hll hp1 hcell hfr hE hdue ht he hx hdu
  go_enter Tryd.func25, Tryd.ntmps25
  go_wp2_with (first
    | (go_at_call 32; refine HPL.out.mono ?_; rintro e w1 ⟨rfl, hw1⟩; rw [hw1]; clear hw1)
    | (go_at_call 31; refine (fault_New.calls _ 0 (er delayN 0) _ rfl).mono ?_; rintro e w2 ⟨ev, rfl, h1, h2⟩; have HE := Lib.hid (And.intro h1 h2); clear h1 h2))
  go_ret
  exact ⟨_, rfl, HE.out.1, HP.out.below HE.out.2⟩
end Go.Proofs.YtpfpdbbgiimnmaaDoor.Net
