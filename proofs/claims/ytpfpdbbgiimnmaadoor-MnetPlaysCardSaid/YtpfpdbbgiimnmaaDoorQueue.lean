/- Queue of (mnet.Net) and geyserref04.Same by their contracts. Conditions: a net; lists as they may be read. -/
import Derived.Test.YtpfpdbbgiimnmaaDoorInj
import Derived.Test.YtpfpdbbgiimnmaaDoorOutv
namespace Go.Proofs.YtpfpdbbgiimnmaaDoor.Net
set_option linter.unusedSimpArgs false
set_option linter.unusedVariables false
open Go.RowKit Go.Deep Go.Proofs.YtpfpdbbgiimnmaaDoor.Er Go.Proofs.YtpfpdbbgiimnmaaDoor.Mod Go.Proofs.YtpfpdbbgiimnmaaDoorW.PrintWords Go.Proofs.YtpfpdbbgiimnmaaDoorW.PrintLast
/-- append([]byte{}, v...) in a plain region. -/
theorem wp_copy {ops : Array Oper} {rest : List Oper} {o : Oper} {a : Act} {Q : Exit → Act → World → Prop} {w : World} {D : Nat → Prop} {v : Value} {l : List Int} {g : Addr} (hgd : o.guard = none) (s x : Operand) (ho : o.op = .call { callee := .builtin .append, args := #[s, x], argTypes := #[22, 22] }) (hs : a.eval s = .slice (some g) 0 0) (hx : a.eval x = v) (h : RdB D w v l)
    (k : ∀ (A' : Option Addr) (c' : Nat) (w' : World), RB (fun k => w.heap.size ≤ k) w' (.slice A' l.length c') l → Below w.heap.size w w' → wpList Tryd.prog ops Q rest (a.put o.dst (.slice A' l.length c')) w') : wpList Tryd.prog ops Q (o :: rest) a w := by
  obtain ⟨v8, w8, hr, hRB, hB⟩ := h.copy o.type g (fun k => w.heap.size ≤ k) (fun k hk => hk)
  obtain ⟨A8, c8, rfl, _⟩ : ∃ A8 c8, v8 = .slice A8 l.length c8 ∧ True := by obtain ⟨A8, c8, e, _⟩ := hRB; exact ⟨A8, c8, e, trivial⟩
  refine wpList_plain hgd fun K hK => ?_
  unfold Oper.wp
  rw [run_app ho hs hx hr]
  exact hK _ _ (k A8 c8 w8 hRB hB)
theorem RB.rdt {bb : Nat → Prop} {w : World} {v : Value} {l : List Int} (h : RB bb w v l) : RdB (fun _ => True) w v l := by
  obtain ⟨A, c, h1, h2, h3, h4, h5⟩ := h.rd (by obtain ⟨_, _, _, _, h3, _⟩ := h; exact h3)
  exact ⟨A, c, h1, h2, h3, h4, fun hne => by obtain ⟨a, e, _, q⟩ := h5 hne; exact ⟨a, e, trivial, q⟩⟩
theorem RB.below {bb : Nat → Prop} {w w' : World} {v : Value} {l : List Int} (h : RB bb w v l) (hb : Below w.heap.size w w') : RB bb w' v l := h.keep (fun b cur e1 e2 => ⟨hb.block b (lt_of e2), e1⟩)
theorem RdB.below {w w' : World} {v : Value} {l : List Int} (h : RdB (fun _ => True) w v l) (hb : Below w.heap.size w w') : RdB (fun _ => True) w' v l := by
  obtain ⟨A2, c2, k1, k2, k3, k4, k5⟩ := h
  refine ⟨A2, c2, k1, k2, k3, k4, fun hne => ?_⟩
  obtain ⟨a, q1, _, q3⟩ := k5 hne
  exact ⟨a, q1, trivial, fun j x hj => (hb.cell (World.block_lt_of_cell? w _ (q3 j x hj))).trans (q3 j x hj)⟩
theorem Outs.nil (B : Nat) (bb : Nat → Prop) (w : World) : Outs B bb w (.slice none 0 0) [] := ⟨[], rfl, ⟨rfl, .inl ⟨rfl, rfl⟩⟩, fun _ h => by cases h⟩
theorem Outs.below {B : Nat} {bb : Nat → Prop} {w w' : World} {v : Value} {l : List (List Int)} (h : Outs B bb w v l) (hb : Below w.heap.size w w') : Outs B bb w' v l := by
  obtain ⟨vs, h1, h2, h3⟩ := h
  exact ⟨vs, h1, own_below h2 hb, fun p hp => (h3 p hp).below hb⟩
theorem RB.mono {bb bb' : Nat → Prop} {w : World} {v : Value} {l : List Int} (h : RB bb w v l) (hb : ∀ k, bb k → bb' k) : RB bb' w v l := h.keep (fun b cur e1 e2 => ⟨rfl, hb b e1⟩)
set_option maxHeartbeats 4000000 in
set_option maxRecDepth 100000 in
theorem queue_ok {bb : Nat → Prop} {w : World} {nb hb : Nat} {qv : Nat → Value} {s : Nt} (h : IsNet bb w nb hb qv s) (k : Nat) (hk : k < s.n) (hq : (s.h k).q.length ≤ 5000000000000) :
    Calls Tryd.prog 26 #[.pointer (some ⟨nb, 0, none⟩), .int .i64 (k : Int)] w fun e w' => ∃ v, e = .returned v ∧ Below w.heap.size w w' ∧ Outs w.heap.size (fun k => w.heap.size ≤ k) w' v ((s.h k).q.map (·.b)) := by
  have HH := Lib.hid h
  obtain ⟨l, hl, hqr, hrb⟩ := h.qs k hk
  obtain ⟨A3, c3, hqv, hle, hmax⟩ := hqr.val
  have z13 := h.cell hk 13 (by omega)
  simp only [hoCell] at z13
  rw [hqv] at z13
  obtain ⟨n, hn⟩ : ∃ n, n = l.length := ⟨_, rfl⟩
  have hn40 : n ≤ 5000000000000 := by rw [hn, ← List.length_map (f := (·.2)), hl]; exact hq
  have HQ : Hid (QR w (.slice A3 n c3) n (itCells l)) := Lib.hid (by rw [hn, ← hqv]; exact hqr)
  have HL := Lib.hid (And.intro hn (And.intro hl (And.intro hrb hqv)))
  rw [← hn] at z13 hle hmax
  have e8 : (s.h k).q.map (·.b) = l.map (·.2.b) := by rw [← hl, List.map_map]; rfl
  rw [e8]
  clear hqr hrb hn hl hqv h hq e8
  have HR0 : Hid (Outs w.heap.size (fun k => w.heap.size ≤ k) w (.slice none 0 0) ((l.take 0).map (·.2.b)) ∧ Below w.heap.size w w) := Lib.hid ⟨Outs.nil _ _ _, Below.refl _ _⟩
  go_enter Tryd.func26, Tryd.ntmps26
  go_wp2_with (first | (go_at_call 30; refine (at_ok HH.out k hk).mono ?_; rintro e w1 ⟨rfl, hw1⟩; rw [hw1]; clear hw1))
  go_loopg [7, 23] (n + 1) (fun kq v7 v23 wr => ∃ j : Nat, v23 = .int .i64 j ∧ Hid (j ≤ n ∧ kq = n + 1 - j) ∧ Hid (Outs w.heap.size (fun k => w.heap.size ≤ k) wr v7 ((l.take j).map (·.2.b)) ∧ Below w.heap.size w wr))
  case atStart => exact ⟨0, rfl, Lib.hid ⟨by omega, by omega⟩, HR0⟩
  case round =>
    obtain ⟨j, rfl, HJ, HA⟩ := hrel
    clear HR0
    by_cases hj : j < n
    · obtain ⟨p, hp⟩ : ∃ p, l[j]? = some p := ⟨l[j]'(by rw [← HL.out.1]; exact hj), List.getElem?_eq_getElem _⟩
      obtain ⟨qb, qc, e1, _, _, hqb, hcell, _⟩ := HQ.out.cells (by omega)
      obtain ⟨rfl, rfl⟩ : A3 = some ⟨qb, 0, none⟩ ∧ c3 = qc := by cases e1; exact ⟨rfl, rfl⟩
      have hB := HA.out.2
      have q0 : wr.cell? ⟨qb, j * 3, none⟩ = some p.1 := (hB.cell (p := ⟨qb, j * 3, none⟩) hqb).trans (hcell (j * 3) _ (it_at l j p 0 hp (by omega)))
      have q1 : wr.cell? ⟨qb, j * 3 + 1, none⟩ = some (.int .i64 p.2.due) := (hB.cell (p := ⟨qb, j * 3 + 1, none⟩) hqb).trans (hcell (j * 3 + 1) _ (it_at l j p 1 hp (by omega)))
      have q2 : wr.cell? ⟨qb, j * 3 + 2, none⟩ = some (.bool p.2.sp) := (hB.cell (p := ⟨qb, j * 3 + 2, none⟩) hqb).trans (hcell (j * 3 + 2) _ (it_at l j p 2 hp (by omega)))
      obtain ⟨bv, x⟩ := p
      have hrd : RdB (fun _ => True) wr bv x.b := ((HL.out.2.2.1 _ (List.mem_of_getElem? hp)).below hB).rdt
      obtain ⟨A2, lb, c2, rfl⟩ : ∃ A2 lb c2, bv = .slice A2 lb c2 := by obtain ⟨A2, c2, e, _⟩ := hrd; exact ⟨A2, _, c2, e⟩
      have HRD := Lib.hid hrd
      obtain ⟨xb, due, sp⟩ := x
      have HPJ := Lib.hid hp
      clear hp e1 hcell hB hrd
      dsimp only at q0 q1 q2
      obtain ⟨iS, hiS, hS0, hS1, hS2⟩ := info_parts infoS
      go_upto_region 8 with (fail)
      go_wp2_with (first
        | (at_builtin; refine wp_copy rfl (.tmp 28) (.tmp 30) rfl rfl rfl (HRD.out.below ?c0) ?_))
      case c0 => exact Joins.below_alloc2 _ _ _
      intro A8 c8 w8 hRB hB8
      have HB8 : Hid (Below wr.heap.size wr w8) := Lib.hid ((Joins.below_alloc2 wr _ _).trans (hB8.mono (by omega)))
      have HRB : Hid (RB (fun k => w.heap.size ≤ k) w8 (.slice A8 xb.length c8) xb) := Lib.hid (hRB.mono (fun k hk => Nat.le_trans HA.out.2.size (by omega)))
      clear hRB hB8
      obtain ⟨vs, hvs, hown0, hvb⟩ := HA.out.1
      have hln : ((l.take j).map (·.2.b)).length ≤ j := by rw [List.length_map, List.length_take]; omega
      go_wp2_with (first
        | (at_builtin; refine wpList_append_own _ rfl (.tmp 27) (.tmp 32) 54 rfl w.heap.size 22 iS (.slice none 0 0) 1 24 Tryd.underlying54 hiS hS0 hS1 hS2 rfl (by decide) _ _ _ rfl (own_below (own_below hown0 HB8.out) ?c1) ⟨_, 0, none⟩ 1 1 [.slice A8 xb.length c8] rfl rfl (cells_new _ _ _ _ (by simp)) ?c2 ?c3 ?c4 ?c5 ?_))
      case c1 => exact (Below.refl _ _).alloc (Nat.le_refl _) _
      case c2 => intro u hu; simp only [List.mem_cons, List.not_mem_nil, or_false] at hu; subst hu; rfl
      case c3 => simp only [maxLen]; omega
      case c4 => omega
      case c5 => have := HA.out.2.size; have := HB8.out.size; simp; omega
      intro v' w5 hown hgr hnil
      have HA5 : Hid (Outs w.heap.size (fun k => w.heap.size ≤ k) w5 v' ((l.take (j + 1)).map (·.2.b)) ∧ Below w.heap.size w w5) := Lib.hid (by
        have hB9 : Below w8.heap.size w8 (w8.alloc (Obj.cells #[.slice A8 xb.length c8] 22)) := (Below.refl _ _).alloc (Nat.le_refl _) _
        have hsz := HA.out.2.size
        have hkp : ∀ b : Nat, (∃ cur, w8.heap[b]? = some (Obj.cells cur 5 (0, 0))) → w5.heap[b]? = w8.heap[b]? := by
          rintro b ⟨cur, hc⟩
          refine (hgr.block b (Nat.lt_of_lt_of_le (lt_of hc) hB9.size) (fun e => ?_)).trans (hB9.block b (lt_of hc))
          obtain ⟨_, cur', hc'⟩ := own_at (own_below hown0 HB8.out) e.symm
          rw [hc] at hc'; cases hc'
        have e3 : (l.take (j + 1)).map (·.2.b) = (l.take j).map (·.2.b) ++ [xb] := by rw [takeL_snoc HPJ.out, List.map_append]; rfl
        refine ⟨⟨vs ++ [(.slice A8 xb.length c8, xb)], ?_, ?_, ?_⟩, ?_⟩
        · rw [e3, List.map_append, hvs]; rfl
        · rw [e3, List.length_append, List.map_append, show ((l.take j).map (·.2.b)).length + [xb].length = min j l.length + 1 by simp]; exact hown
        · intro p hp
          rcases List.mem_append.1 hp with hp | hp
          · exact ((hvb p hp).below HB8.out).keep (fun b cur e1 e2 => ⟨hkp b ⟨cur, e2⟩, e1⟩)
          · obtain rfl : p = (.slice A8 xb.length c8, xb) := by simpa using hp
            exact HRB.out.keep (fun b cur e1 e2 => ⟨hkp b ⟨cur, e2⟩, e1⟩)
        · exact below_grown (HA.out.2.trans ((HB8.out.trans (hB9.mono HB8.out.size)).mono hsz)) hgr (by have := HB8.out.size; simp; omega) (fun k e => (own_at hown0 e).1))
      clear HA hown hgr hnil hown0 hvs hvb HRB HB8 HRD
      go_wp2
      go_roundg (n - j)
      case measure => have := HJ.out; omega
      case rel => exact ⟨j + 1, by go_num, Lib.hid ⟨by omega, by omega⟩, HA5⟩
    · have HE : Hid (Outs w.heap.size (fun k => w.heap.size ≤ k) wr u7 (l.map (·.2.b)) ∧ Below w.heap.size w wr) := Lib.hid (by
        have e : j = l.length := by have := HJ.out.1; have := HL.out.1; omega
        have := HA.out
        rw [e, List.take_length] at this
        exact this)
      clear HA
      go_wp2
      go_ret
      exact ⟨_, rfl, HE.out.2, HE.out.1⟩
/-- Two lists of bytes that are the same. -/
theorem same_calls (w : World) (v1 v2 : Value) (l : List (List Int)) (h1 : OutV w v1 l) (h2 : OutV w v2 l) : Calls Tryd.prog 44 #[v1, v2] w fun e w' => e = .returned (.bool true) ∧ Below w.heap.size w w' := by
  obtain ⟨A1, c1, rfl, hc1, hn1⟩ := h1.form
  obtain ⟨A2, c2, rfl, hc2, _⟩ := h2.form
  have O1 := Lib.hid h1
  have O2 := Lib.hid h2
  obtain ⟨m, hm⟩ : ∃ m, m = l.length := ⟨_, rfl⟩
  have HM := Lib.hid hm
  rw [← hm] at hc1 hc2 hn1 O1 O2 ⊢
  clear hm h1 h2
  go_enter Tryd.func44, Tryd.ntmps44
  go_wp2
  go_loopg [5] (m + 1) (fun kq v5 wr => ∃ i kd : Nat, v5 = .int .i64 i ∧ Hid (i ≤ m ∧ kq = m + 1 - i) ∧ Hid (wr = w.drewN kd))
  case atStart => exact ⟨0, 0, rfl, Lib.hid ⟨by omega, by omega⟩, Lib.hid rfl⟩
  case round =>
    obtain ⟨i, kd, rfl, HK, HW⟩ := hrel
    have hi1 : i ≤ m := HK.out.1
    have hw := HW.out
    subst hw
    clear HW
    by_cases hi : i < m
    · obtain ⟨x, hx⟩ : ∃ x, l[i]? = some x := ⟨l[i]'(by rw [← HM.out]; exact hi), List.getElem?_eq_getElem _⟩
      obtain ⟨b1, A3, c3, rfl, y1, s1⟩ := O1.out.at_ i x hx
      obtain ⟨b2, A4, c4, rfl, y2, s2⟩ := O2.out.at_ i x hx
      obtain ⟨sb, hsb⟩ : ∃ sb, sb = strOfNums x := ⟨_, rfl⟩
      obtain ⟨lb, hlb⟩ : ∃ lb, lb = x.length := ⟨_, rfl⟩
      unfold StrAt at s1 s2
      rw [← hlb] at y1 y2 s1 s2
      rw [← hsb] at s1 s2
      clear hx hsb hlb
      go_wp2
      go_quiet (fail)
      go_wp2
      go_roundg (m - i)
      case measure => have := HK.out; omega
      case rel => exact ⟨i + 1, kd + nq, by go_num, Lib.hid ⟨by omega, by omega⟩, Lib.hid rfl⟩
    · go_wp2
      go_ret
      exact ⟨rfl, pw_below_drewN (Below.refl _ _) _⟩
end Go.Proofs.YtpfpdbbgiimnmaaDoor.Net
