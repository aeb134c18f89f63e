/- (*mnet.Net).Take by its contract. Conditions: a queue of fewer than 2^40. -/
import Derived.Test.YtpfpdbbgiimnmaaDoorSend
namespace Go.Proofs.YtpfpdbbgiimnmaaDoor.Net
set_option linter.unusedSimpArgs false
set_option linter.unusedVariables false
open Go.RowKit Go.Deep Go.Proofs.YtpfpdbbgiimnmaaDoor.Er Go.Proofs.YtpfpdbbgiimnmaaDoor.Mod Go.Proofs.YtpfpdbbgiimnmaaDoorW.PrintWords
theorem infoS : (Tryd.prog.info? 22).map (fun i => (i.zero, i.size, i.bytes)) = some (some (.slice none 0 0), 1, 24) := by kernel_rfl
theorem own_keep {w w' : World} {B e sz : Nat} {v : Value} {n : Nat} {xs : List Value} (h : w.ownsRow B e sz v n xs) (hk : ∀ b, v.ownBlock = some b → w'.heap[b]? = w.heap[b]?) : w'.ownsRow B e sz v n xs := by
  obtain ⟨h1, h2⟩ := h
  refine ⟨h1, ?_⟩
  rcases h2 with h2 | ⟨b, cap, cur, e1, hb, hc, h3⟩
  · exact .inl h2
  · exact .inr ⟨b, cap, cur, e1, hb, (hk b (by rw [e1]; rfl)).trans hc, h3⟩
theorem own_at {w : World} {B e sz : Nat} {v : Value} {n : Nat} {xs : List Value} (h : w.ownsRow B e sz v n xs) {b : Nat} (hb : v.ownBlock = some b) : B ≤ b ∧ ∃ cur, w.heap[b]? = some (.cells cur e (0, 0)) := by
  rcases h.2 with ⟨rfl, _⟩ | ⟨b', cap, cur, rfl, hB, hc, _⟩
  · cases hb
  · cases hb; exact ⟨hB, cur, hc⟩
theorem own_below {w w' : World} {B e sz : Nat} {v : Value} {n : Nat} {xs : List Value} (h : w.ownsRow B e sz v n xs) (hb : Below w.heap.size w w') : w'.ownsRow B e sz v n xs :=
  own_keep h (fun b e => by obtain ⟨_, cur, hc⟩ := own_at h e; exact hb.block b (lt_of hc))
theorem own_other {w w' : World} {B B' e e' sz sz' : Nat} {v u : Value} {n n' : Nat} {xs xs' : List Value} (h : w.ownsRow B e sz v n xs) (k : w.ownsRow B' e' sz' u n' xs') (he : e ≠ e') (hg : w.grownBy w' u.ownBlock) : w'.ownsRow B e sz v n xs :=
  own_keep h (fun b eb => by
    obtain ⟨_, cur, hc⟩ := own_at h eb
    refine hg.block b (lt_of hc) (fun e2 => ?_)
    obtain ⟨_, cur', hc'⟩ := own_at k e2.symm
    rw [hc] at hc'; cases hc'; exact he rfl)
theorem below_grown {w w' w0 : World} {B : Nat} {row : Option Nat} (h : Below B w0 w) (hg : w.grownBy w' row) (hB : B ≤ w.heap.size) (hr : ∀ k, row = some k → B ≤ k) : Below B w0 w' :=
  ⟨hg.os.trans h.os, hg.tape.trans h.tape, hg.output.trans h.output, Nat.le_trans h.size hg.size, fun k hk => (hg.block k (Nat.lt_of_lt_of_le hk hB) (fun e => by have := hr k e.symm; omega)).trans (h.block k hk)⟩
/-- Lists of bytes, in a row of one's own. -/
def Outs (B : Nat) (bb : Nat → Prop) (w : World) (v : Value) (l : List (List Int)) : Prop := ∃ vs : List (Value × List Int), vs.map (·.2) = l ∧ w.ownsRow B 22 1 v l.length (vs.map (·.1)) ∧ ∀ p ∈ vs, RB bb w p.1 p.2
def gone (now : Int) (l : List (Value × It)) : List (Value × It) := l.filter fun p => decide (p.2.due ≤ now)
def left (now : Int) (l : List (Value × It)) : List (Value × It) := l.filter fun p => !decide (p.2.due ≤ now)
theorem gone_q (now : Int) (l : List (Value × It)) : (gone now l).map (·.2.b) = dueNow now (l.map (·.2)) := by
  unfold gone dueNow
  rw [List.filter_map, List.map_map]
  rfl
theorem left_q (now : Int) (l : List (Value × It)) : (left now l).map (·.2) = later now (l.map (·.2)) := by
  unfold left later
  rw [List.filter_map]
  rfl
theorem takeL_snoc {α : Type} {l : List α} {j : Nat} {d : α} (h : l[j]? = some d) : l.take (j + 1) = l.take j ++ [d] := by rw [List.take_add_one, h]; rfl
theorem gone_snoc (now : Int) {l : List (Value × It)} {j : Nat} {p : Value × It} (h : l[j]? = some p) (hp : p.2.due ≤ now) : gone now (l.take (j + 1)) = gone now (l.take j) ++ [p] ∧ left now (l.take (j + 1)) = left now (l.take j) := by
  rw [takeL_snoc h]; unfold gone left; simp [hp]
theorem left_snoc (now : Int) {l : List (Value × It)} {j : Nat} {p : Value × It} (h : l[j]? = some p) (hp : ¬ p.2.due ≤ now) : gone now (l.take (j + 1)) = gone now (l.take j) ∧ left now (l.take (j + 1)) = left now (l.take j) ++ [p] := by
  rw [takeL_snoc h]; unfold gone left; simp [hp]
theorem filter_le (now : Int) (l : List (Value × It)) (j : Nat) : (gone now (l.take j)).length ≤ j ∧ (left now (l.take j)).length ≤ j := by
  constructor
  · exact Nat.le_trans (List.length_filter_le _ _) (by rw [List.length_take]; omega)
  · exact Nat.le_trans (List.length_filter_le _ _) (by rw [List.length_take]; omega)
/-- What a call that takes leaves. -/
def TakeP (bb : Nat → Prop) (w : World) (nb hb n : Nat) (qv : Nat → Value) (s' : Nt) (l : List (List Int)) (v : Value) (w' : World) : Prop := ∃ bb' qv', IsNet bb' w' nb hb qv' s' ∧ Stp bb w nb hb n qv bb' w' qv' ∧ Outs w.heap.size bb' w' v l
/-- How far it is. -/
structure TakeR (w : World) (now : Int) (l : List (Value × It)) (j : Nat) (v7 v8 : Value) (wr : World) : Prop where
  bel : Below w.heap.size w wr
  out : wr.ownsRow w.heap.size 22 1 v7 (gone now (l.take j)).length ((gone now (l.take j)).map (·.1))
  rest : wr.ownsRow w.heap.size 74 3 v8 (left now (l.take j)).length (itCells (left now (l.take j)))
theorem TakeR.to {w : World} {now : Int} {l : List (Value × It)} {j : Nat} {v7 v8 : Value} {wr w' : World} (h : TakeR w now l j v7 v8 wr) (hb : Below wr.heap.size wr w') : TakeR w now l j v7 v8 w' :=
  ⟨h.bel.trans (hb.mono h.bel.size), own_below h.out hb, own_below h.rest hb⟩
theorem TakeR.outed {w : World} {now : Int} {l : List (Value × It)} {j : Nat} {v7 v8 v' : Value} {wr W w5 : World} {p : Value × It} (h : TakeR w now l j v7 v8 wr) (hb : Below wr.heap.size wr W) (hgr : W.grownBy w5 v7.ownBlock) (hown : w5.ownsRow w.heap.size 22 1 v' ((gone now (l.take j)).length + 1) ((gone now (l.take j)).map (·.1) ++ [p.1])) (hp : l[j]? = some p) (hd : p.2.due ≤ now) : TakeR w now l (j + 1) v' v8 w5 := by
  have h1 := h.to hb
  obtain ⟨e1, e2⟩ := gone_snoc now hp hd
  refine ⟨below_grown h1.bel hgr h1.bel.size (fun k e => (own_at h1.out e).1), ?_, ?_⟩
  · rw [e1, List.length_append, List.map_append]; exact hown
  · rw [e2]; exact own_other h1.rest h1.out (by decide) hgr
theorem TakeR.rested {w : World} {now : Int} {l : List (Value × It)} {j : Nat} {v7 v8 v' : Value} {wr W w5 : World} {p : Value × It} (h : TakeR w now l j v7 v8 wr) (hb : Below wr.heap.size wr W) (hgr : W.grownBy w5 v8.ownBlock) (hown : w5.ownsRow w.heap.size 74 3 v' ((left now (l.take j)).length + 1) (itCells (left now (l.take j)) ++ [p.1, .int .i64 p.2.due, .bool p.2.sp])) (hp : l[j]? = some p) (hd : ¬ p.2.due ≤ now) : TakeR w now l (j + 1) v7 v' w5 := by
  have h1 := h.to hb
  obtain ⟨e1, e2⟩ := left_snoc now hp hd
  refine ⟨below_grown h1.bel hgr h1.bel.size (fun k e => (own_at h1.rest e).1), ?_, ?_⟩
  · rw [e1]; exact own_other h1.out h1.rest (by decide) hgr
  · rw [e2, List.length_append, itCells_app]; exact hown
theorem cells_new (w : World) (cs : List Value) (t : TypeId) (b : Nat) (hb : b = w.heap.size) : ∀ j u, cs[j]? = some u → (w.alloc (.cells cs.toArray t)).cell? ((⟨b, 0, none⟩ : Addr).add j) = some u := by
  intro j u hu
  subst hb
  have hadd : (⟨w.heap.size, 0, none⟩ : Addr).add j = ⟨w.heap.size, j, none⟩ := by unfold Addr.add; split <;> simp_all
  rw [hadd, World.cell?_alloc_at _ _ _ _ rfl]
  simpa using hu
theorem putQ_x {bb : Nat → Prop} {w : World} {nb hb n : Nat} {qv : Nat → Value} {s s' : Nt} {w' w5 : World} {bb' bb5 : Nat → Prop} {qv' : Nat → Value} {k : Nat} {v : Value} {q : List It} (h1 : IsNet bb' w' nb hb qv' s) (h2 : Stp bb w nb hb n qv bb' w' qv') (hs : s.n = n) (hk : k < n) (hf : Fr w' w5 (fun b => (qv' k).ownBlock = some b)) (hb1 : ∀ b, bb' b → b < w'.heap.size → bb5 b) (hb2 : ∀ b, bb5 b → bb' b ∨ w'.heap.size ≤ b) (hq : QIs bb5 w5 v q)
    (ho : ∀ b, v.ownBlock = some b → (qv' k).ownBlock = some b ∨ w'.heap.size ≤ b) (hs' : s' = s.put k { s.h k with q := q }) : IsNet bb5 (w5.setCell ⟨hb, k * 14 + 13, none⟩ v) nb hb (upq qv' k v) s' ∧ Stp bb w nb hb n qv bb5 (w5.setCell ⟨hb, k * 14 + 13, none⟩ v) (upq qv' k v) := by
  subst hs hs'
  refine ⟨h1.putAll (x' := { s.h k with q := q }) hk hf hb1 hq ho (by omega) (ho_ext _ _ _ _ _ _ (by omega) rfl rfl rfl rfl rfl rfl rfl), h2.trans ⟨?_, ?_, hb2⟩⟩
  · exact (hf.mono (fun b hb' => .inr (.inr ⟨k, hk, hb'⟩))).set (.inl (.inr (.inl rfl))) _
  · rintro i (e | e | ⟨j, hj, e⟩)
    · exact .inl (.inl e)
    · exact .inl (.inr (.inl e))
    · unfold upq at e
      split at e
      · rcases ho _ e with e | e
        · exact .inl (.inr (.inr ⟨k, hk, e⟩))
        · exact .inr e
      · exact .inl (.inr (.inr ⟨j, hj, e⟩))
theorem take_bad {bb : Nat → Prop} {w : World} {nb hb : Nat} {qv : Nat → Value} {s : Nt} (h : IsNet bb w nb hb qv s) (i : Int) (ha : ¬ s.at i = 0) :
    Calls Tryd.prog 23 #[.pointer (some ⟨nb, 0, none⟩), .int .i64 i] w fun e w' => ∃ v, e = .returned v ∧ TakeP bb w nb hb s.n qv (s.take i) (s.taken i) v w' := by
  have HH := Lib.hid h
  have HI := Lib.hid (at_no ha).2
  rw [show s.take i = s from if_neg ha, show s.taken i = [] from if_neg ha]
  clear ha h
  go_enter Tryd.func23, Tryd.ntmps23
  go_wp2_with (first | (go_at_call 30; refine (at_bad HH.out i HI.out).mono ?_; rintro e w1 ⟨rfl, rfl⟩))
  go_ret
  exact ⟨_, rfl, bb, qv, HH.out, Stp.refl _ _ _ _ _ _, [], rfl, ⟨rfl, .inl ⟨rfl, rfl⟩⟩, fun _ h => by cases h⟩
set_option maxHeartbeats 2000000 in
set_option maxRecDepth 100000 in
theorem take_ok {bb : Nat → Prop} {w : World} {nb hb : Nat} {qv : Nat → Value} {s : Nt} (h : IsNet bb w nb hb qv s) (k : Nat) (hk : k < s.n) (hq : (s.h k).q.length ≤ 5000000000000) :
    Calls Tryd.prog 23 #[.pointer (some ⟨nb, 0, none⟩), .int .i64 (k : Int)] w fun e w' => ∃ v, e = .returned v ∧ TakeP bb w nb hb s.n qv (s.take k) (s.taken k) v w' := by
  have HH := Lib.hid h
  obtain ⟨l, hl, hqr, hrb⟩ := h.qs k hk
  obtain ⟨A3, c3, hqv, hle, hmax⟩ := hqr.val
  have z13 := h.cell hk 13 (by omega)
  have f13 := h.hos.frozen (k * 14 + 13)
  simp only [hoCell] at z13
  rw [hqv] at z13
  obtain ⟨n, hn⟩ : ∃ n, n = l.length := ⟨_, rfl⟩
  have hn40 : n ≤ 5000000000000 := by rw [hn, ← List.length_map (f := (·.2)), hl]; exact hq
  have HQ : Hid (QR w (.slice A3 n c3) n (itCells l)) := Lib.hid (by rw [hn, ← hqv]; exact hqr)
  have HL := Lib.hid (And.intro hn (And.intro hl (And.intro hrb hqv)))
  rw [← hn] at z13 hle hmax
  have hE : s.take (k : Int) = s.put k { s.h k with q := later s.now (s.h k).q } ∧ s.taken (k : Int) = dueNow s.now (s.h k).q := ⟨if_pos (at_nat hk), if_pos (at_nat hk)⟩
  rw [hE.1, hE.2]
  have hlt := h.hos.lt
  have hnlt := h.net.lt
  have h0 := h.now
  obtain ⟨now, hnow⟩ : ∃ now, now = s.now := ⟨_, rfl⟩
  rw [← hnow] at h0
  have HN := Lib.hid hnow
  clear hqr hrb hn hl hqv h hE hnow hq
  have HR0 : Hid (TakeR w now l 0 (.slice none 0 0) (.slice none 0 0) w) := Lib.hid ⟨Below.refl _ _, ⟨rfl, .inl ⟨rfl, rfl⟩⟩, ⟨rfl, .inl ⟨rfl, rfl⟩⟩⟩
  go_enter Tryd.func23, Tryd.ntmps23
  go_wp2_with (first | (go_at_call 30; refine (at_ok HH.out k hk).mono ?_; rintro e w1 ⟨rfl, hw1⟩; rw [hw1]; clear hw1))
  go_loopg [7, 8, 24] (n + 1) (fun kq v7 v8 v24 wr => ∃ j : Nat, v24 = .int .i64 j ∧ Hid (j ≤ n ∧ kq = n + 1 - j) ∧ Hid (TakeR w now l j v7 v8 wr))
  case atStart => exact ⟨0, rfl, Lib.hid ⟨by omega, by omega⟩, HR0⟩
  case round =>
    obtain ⟨j, rfl, HJ, HA⟩ := hrel
    clear HR0
    by_cases hj : j < n
    · obtain ⟨p, hp⟩ : ∃ p, l[j]? = some p := ⟨l[j]'(by rw [← HL.out.1]; exact hj), List.getElem?_eq_getElem _⟩
      obtain ⟨qb, qc, e1, _, _, hqb, hcell, _⟩ := HQ.out.cells (by omega)
      obtain ⟨rfl, rfl⟩ : A3 = some ⟨qb, 0, none⟩ ∧ c3 = qc := by cases e1; exact ⟨rfl, rfl⟩
      have hB := HA.out.bel
      have q0 : wr.cell? ⟨qb, j * 3, none⟩ = some p.1 := (hB.cell (p := ⟨qb, j * 3, none⟩) hqb).trans (hcell (j * 3) _ (it_at l j p 0 hp (by omega)))
      have q1 : wr.cell? ⟨qb, j * 3 + 1, none⟩ = some (.int .i64 p.2.due) := (hB.cell (p := ⟨qb, j * 3 + 1, none⟩) hqb).trans (hcell (j * 3 + 1) _ (it_at l j p 1 hp (by omega)))
      have q2 : wr.cell? ⟨qb, j * 3 + 2, none⟩ = some (.bool p.2.sp) := (hB.cell (p := ⟨qb, j * 3 + 2, none⟩) hqb).trans (hcell (j * 3 + 2) _ (it_at l j p 2 hp (by omega)))
      have y0 : wr.cell? ⟨nb, 0, none⟩ = some (.int .i64 now) := (hB.cell (p := ⟨nb, 0, none⟩) hnlt).trans h0
      have ylt : nb < wr.heap.size := Nat.lt_of_lt_of_le hnlt hB.size
      obtain ⟨bv, x⟩ := p
      obtain ⟨A2, lb, c2, rfl⟩ : ∃ A2 lb c2, bv = .slice A2 lb c2 := by obtain ⟨A2, c2, e, _⟩ := HL.out.2.2.1 _ (List.mem_of_getElem? hp); exact ⟨A2, _, c2, e⟩
      obtain ⟨xb, due, sp⟩ := x
      have HPJ := Lib.hid hp
      clear hp e1 hcell hB
      dsimp only at q0 q1 q2
      obtain ⟨iS, hiS, hS0, hS1, hS2⟩ := info_parts infoS
      obtain ⟨iI, hiI, hI0, hI1, hI2⟩ := info_parts infoI
      by_cases hdue : due ≤ now
      · have dd : decide (due ≤ now) = true := decide_eq_true hdue
        have HD := Lib.hid hdue
        clear hdue
        go_upto_region 9 with (fail)
        go_quiet (fail)
        go_wp2_with (first
          | (at_builtin; refine wpList_append_own _ rfl (.tmp 35) (.tmp 38) 54 rfl w.heap.size 22 iS (.slice none 0 0) 1 24 Tryd.underlying54 hiS hS0 hS1 hS2 rfl (by decide) _ _ _ rfl (own_below HA.out.out ?c0) ⟨_, 0, none⟩ 1 1 [.slice A2 lb c2] rfl rfl (cells_new _ _ _ _ (by simp)) ?c2 ?c3 ?c4 ?c5 ?_))
        case c0 => exact (pw_below_drewN ((Below.refl _ _).alloc (Nat.le_refl _) _) _).alloc (by simp) _
        case c2 => intro u hu; simp only [List.mem_cons, List.not_mem_nil, or_false] at hu; subst hu; rfl
        case c3 => have := (filter_le now l j).1; simp only [maxLen]; omega
        case c4 => have := (filter_le now l j).1; omega
        case c5 => have := HA.out.bel.size; simp; omega
        intro v' w5 hown hgr hnil
        have HA5 : Hid (TakeR w now l (j + 1) v' u8 w5) := Lib.hid (by
          refine HA.out.outed ?_ hgr hown HPJ.out HD.out
          exact (pw_below_drewN ((Below.refl _ _).alloc (Nat.le_refl _) _) _).alloc (by simp) _)
        clear HA hown hgr hnil
        go_wp2
        go_roundg (n - j)
        case measure => have := HJ.out; omega
        case rel => exact ⟨j + 1, by go_num, Lib.hid ⟨by omega, by omega⟩, HA5⟩
      · have dd : decide (due ≤ now) = false := decide_eq_false hdue
        have HD := Lib.hid hdue
        clear hdue
        go_upto_region 9 with (fail)
        go_quiet (fail)
        go_wp2_with (first
          | (at_builtin; refine wpList_append_own_wide _ rfl (.tmp 40) (.tmp 42) 67 rfl w.heap.size 74 iI (.agg #[.slice none 0 0, .int .i64 0, .bool false]) 3 40 Tryd.underlying67 hiI hI0 hI1 hI2 rfl (by decide) _ _ _ rfl (own_below HA.out.rest ?d0) ⟨_, 0, none⟩ 1 1 [.slice A2 lb c2, .int .i64 due, .bool sp] rfl rfl (cells_new _ _ _ _ (by simp)) ?d2 ?d3 ?d4 ?d5 ?_))
        case d0 => exact (pw_below_drewN ((Below.refl _ _).alloc (Nat.le_refl _) _) _).alloc (by simp) _
        case d2 => exact ⟨rfl, rfl, rfl⟩
        case d3 => have := (filter_le now l j).2; simp only [maxLen]; omega
        case d4 => have := (filter_le now l j).2; omega
        case d5 => have := HA.out.bel.size; simp; omega
        intro v' w5 hown hgr hnil
        have HA5 : Hid (TakeR w now l (j + 1) u7 v' w5) := Lib.hid (by
          refine HA.out.rested ?_ hgr hown HPJ.out (by have := HD.out; show ¬ due ≤ now; omega)
          exact (pw_below_drewN ((Below.refl _ _).alloc (Nat.le_refl _) _) _).alloc (by simp) _)
        clear HA hown hgr hnil
        go_wp2
        go_roundg (n - j)
        case measure => have := HJ.out; omega
        case rel => exact ⟨j + 1, by go_num, Lib.hid ⟨by omega, by omega⟩, HA5⟩
    · have e : j = n := by have := HJ.out.1; omega
      have hB := HA.out.bel
      have y13 : wr.cell? ⟨hb, k * 14 + 13, none⟩ = some (.slice A3 n c3) := (hB.cell (p := ⟨hb, k * 14 + 13, none⟩) hlt).trans z13
      have yf : wr.frozen? ⟨hb, k * 14 + 13, none⟩ = false := (HH.out.hos.of_block (hB.block hb hlt)).frozen _
      have hltr : hb < wr.heap.size := Nat.lt_of_lt_of_le hlt hB.size
      obtain ⟨A8, L8, c8, hv8⟩ : ∃ A8 L8 c8, u8 = .slice A8 L8 c8 := by
        rcases HA.out.rest.2 with ⟨h1, _⟩ | ⟨_, _, _, h1, _⟩
        · exact ⟨_, _, _, h1⟩
        · exact ⟨_, _, _, h1⟩
      subst hv8
      have HP : Hid (TakeP bb w nb hb s.n qv (s.put k { s.h k with q := later s.now (s.h k).q }) (dueNow s.now (s.h k).q) u7 (wr.setCell ⟨hb, k * 14 + 13, none⟩ (.slice A8 L8 c8))) := Lib.hid (by
        have hlen : l.take j = l := by rw [e, HL.out.1]; exact List.take_length
        have ho := HA.out.out
        have hr := HA.out.rest
        rw [hlen] at ho hr
        have hfr : Fr w wr (fun b => (qv k).ownBlock = some b) := Fr.of_below hB
        have hlr : (left now l).map (·.2) = later s.now (s.h k).q := by rw [left_q, HL.out.2.1, HN.out]
        have hgr : (gone now l).map (·.2.b) = dueNow s.now (s.h k).q := by rw [gone_q, HL.out.2.1, HN.out]
        have hrbs : ∀ p ∈ l, RB bb wr p.1 p.2.b := fun p hp => (HL.out.2.2.1 p hp).keep (fun b cur e1 e2 => ⟨hB.block b (lt_of e2), e1⟩)
        have hQ : QIs bb wr (.slice A8 L8 c8) (later s.now (s.h k).q) := ⟨left now l, hlr, by
          have := QR.of_own hr
          exact this, fun p hp => hrbs p (List.mem_filter.1 hp).1⟩
        obtain ⟨h1, h2⟩ := putQ_x (s' := s.put k { s.h k with q := later s.now (s.h k).q }) HH.out (Stp.refl _ _ _ _ _ _) rfl hk hfr (bb5 := bb) (fun _ e _ => e) (fun _ e => .inl e) hQ (fun b e => .inr (own_at hr e).1) rfl
        have hty := HH.out.hos.of_block (hB.block hb hlt)
        refine ⟨bb, _, h1, h2, (gone now l).map fun p => (p.1, p.2.b), by rw [List.map_map]; exact hgr, ?_, ?_⟩
        · rw [List.map_map, ← hgr, List.length_map]
          refine own_keep ho (fun b e => Deep.blk_setCell_other _ _ _ _ ?_)
          rintro rfl
          obtain ⟨_, cur, hc⟩ := own_at ho e
          obtain ⟨cur', hc', _⟩ := hty
          rw [hc] at hc'; cases hc'
        · intro p hp
          obtain ⟨x, hx, rfl⟩ := List.mem_map.1 hp
          refine (hrbs x (List.mem_filter.1 hx).1).keep (fun b cur e1 e2 => ⟨Deep.blk_setCell_other _ _ _ _ ?_, e1⟩)
          rintro rfl
          obtain ⟨cur', hc', _⟩ := hty
          rw [e2] at hc'; cases hc')
      clear HA HH HQ HL z13 hB
      go_wp2
      go_ret
      exact ⟨_, rfl, HP.out⟩
end Go.Proofs.YtpfpdbbgiimnmaaDoor.Net
