/- Datagrams in a row, wherever they lie; (*mnet.Net).Send by its contract. Conditions: fewer than 2^40 of all. -/
import Derived.Test.YtpfpdbbgiimnmaaDoorPg
import Derived.Test.YtpfpdbbgiimnmaaDoorApp
import Derived.Test.YtpfpdbbgiimnmaaDoorWLast
namespace Go.Proofs.YtpfpdbbgiimnmaaDoor.Net
set_option linter.unusedSimpArgs false
set_option linter.unusedVariables false
open Go.RowKit Go.Deep Go.Proofs.YtpfpdbbgiimnmaaDoor.Er Go.Proofs.YtpfpdbbgiimnmaaDoor.Mod Go.Proofs.YtpfpdbbgiimnmaaDoorW.PrintWords Go.Proofs.YtpfpdbbgiimnmaaDoorW.PrintLast
/-- Datagrams, wherever they lie in blocks of D. -/
def DgIs (D : Nat → Prop) (w : World) (v : Value) (l : List Dg) : Prop :=
  ∃ A c, v = .slice A l.length c ∧ l.length ≤ c ∧ l.length ≤ 4398046511104 ∧ (l ≠ [] → ∃ ab ao : Nat, A = some ⟨ab, ao, none⟩ ∧ D ab ∧ ∀ (j : Nat) (d : Dg), l[j]? = some d → ∃ bv, w.cell? ⟨ab, ao + j * 2, none⟩ = some (.int .i64 d.layer) ∧ w.cell? ⟨ab, ao + j * 2 + 1, none⟩ = some bv ∧ RdB D w bv d.b)
theorem DgIs.keep {D : Nat → Prop} {w w' : World} {v : Value} {l : List Dg} (h : DgIs D w v l) (hk : ∀ k, D k → w'.heap[k]? = w.heap[k]?) : DgIs D w' v l := by
  obtain ⟨A, c, h1, h2, h3, h4⟩ := h
  refine ⟨A, c, h1, h2, h3, fun hne => ?_⟩
  obtain ⟨ab, ao, e, hD, hx⟩ := h4 hne
  refine ⟨ab, ao, e, hD, fun j d hj => ?_⟩
  obtain ⟨bv, e1, e2, e3⟩ := hx j d hj
  exact ⟨bv, (cell_blk (a := ⟨ab, _, none⟩) (hk _ hD)).trans e1, (cell_blk (a := ⟨ab, _, none⟩) (hk _ hD)).trans e2, e3.keep hk⟩
theorem send_snoc (now : Int) (x : Ho) (l : List Dg) (d : Dg) : x.send now (l ++ [d]) = (x.send now l).send1 now d := by unfold Ho.send; rw [List.foldl_append]; rfl
theorem take_snoc {l : List Dg} {j : Nat} {d : Dg} (h : l[j]? = some d) : l.take (j + 1) = l.take j ++ [d] := by rw [List.take_add_one, h]; rfl
theorem send1_bd (now : Int) (x : Ho) (d : Dg) : (x.send1 now d).level = x.level ∧ x.got ≤ (x.send1 now d).got ∧ (x.send1 now d).got ≤ x.got + 1 ∧ (x.send1 now d).q.length ≤ x.q.length + 1 := by
  unfold Ho.send1 Ho.count
  split <;> (try split) <;> simp <;> omega
theorem send_bd (now : Int) : ∀ (l : List Dg) (x : Ho), (x.send now l).level = x.level ∧ x.got ≤ (x.send now l).got ∧ (x.send now l).got ≤ x.got + l.length ∧ (x.send now l).q.length ≤ x.q.length + l.length
  | [], x => ⟨rfl, Int.le_refl _, by simp [Ho.send], by simp [Ho.send]⟩
  | d :: l, x => by
    obtain ⟨a1, a2, a3, a4⟩ := send1_bd now x d
    obtain ⟨b1, b2, b3, b4⟩ := send_bd now l (x.send1 now d)
    have e : x.send now (d :: l) = (x.send1 now d).send now l := rfl
    rw [e]
    refine ⟨b1.trans a1, by omega, ?_, ?_⟩ <;> simp only [List.length_cons] <;> omega
def sendAt (s : Nt) (l : List Dg) (k j : Nat) : Nt := (s.sendTo l k).put k ((s.h k).send s.now (l.take j))
theorem sendTo_h {s : Nt} {l : List Dg} {k : Nat} : (s.sendTo l k).h k = s.h k := if_neg (Nat.lt_irrefl _)
theorem sendAt_zero (s : Nt) (l : List Dg) (k : Nat) : sendAt s l k 0 = s.sendTo l k := by
  have : (s.h k).send s.now (l.take 0) = (s.sendTo l k).h k := by rw [sendTo_h, List.take_zero]; rfl
  unfold sendAt
  rw [this, put_self]
theorem sendAt_end (s : Nt) (l : List Dg) (k : Nat) : sendAt s l k l.length = s.sendTo l (k + 1) := by
  unfold sendAt
  rw [List.take_length]
  unfold Nt.sendTo Nt.put
  congr 1
  funext i
  dsimp only
  by_cases e : i = k
  · subst e; rw [if_pos rfl, if_pos (by omega)]
  · rw [if_neg e]
    by_cases e2 : i < k
    · rw [if_pos e2, if_pos (by omega)]
    · rw [if_neg e2, if_neg (by omega)]
theorem sendAt_h (s : Nt) (l : List Dg) (k j : Nat) : (sendAt s l k j).h k = (s.h k).send s.now (l.take j) := put_h _ _ _
theorem sendAt_no {s : Nt} {l : List Dg} {k j : Nat} {d : Dg} (hd : l[j]? = some d) (hg : ((sendAt s l k j).h k).gets d s.now = false) : (sendAt s l k j).put k (((sendAt s l k j).h k).count d s.now) = sendAt s l k (j + 1) := by
  rw [Ho.count_no _ _ _ hg, put_self]
  rw [sendAt_h] at hg
  have e : (s.h k).send s.now (l.take (j + 1)) = (s.h k).send s.now (l.take j) := by
    rw [take_snoc hd, send_snoc]; unfold Ho.send1; rw [hg]; rfl
  unfold sendAt
  rw [e]
theorem sendAt_yes {s : Nt} {l : List Dg} {k j : Nat} {d : Dg} (hd : l[j]? = some d) (hg : ((sendAt s l k j).h k).gets d s.now = true) :
    sendAt s l k (j + 1) = ((sendAt s l k j).put k (((sendAt s l k j).h k).count d s.now)).put k { (((sendAt s l k j).put k (((sendAt s l k j).h k).count d s.now)).h k) with q := (((sendAt s l k j).put k (((sendAt s l k j).h k).count d s.now)).h k).q ++ [⟨d.b, s.now, false⟩] } := by
  rw [put_h, put_put]
  have e : (s.h k).send s.now (l.take (j + 1)) = { (((sendAt s l k j).h k).count d s.now) with q := (((sendAt s l k j).h k).count d s.now).q ++ [⟨d.b, s.now, false⟩] } := by
    rw [take_snoc hd, send_snoc, ← sendAt_h]
    unfold Ho.send1
    rw [hg]
    have e2 : ∀ x : Ho, (x.count d s.now).q = x.q := by intro x; unfold Ho.count; split <;> rfl
    rw [e2]; rfl
  rw [← e]
  unfold sendAt
  rw [put_put]
theorem run_app {a : Act} {o : Oper} {s x : Operand} {t : TypeId} {W W' : World} {v' sv xv : Value} (ho : o.op = .call { callee := .builtin .append, args := #[s, x], argTypes := #[t, t] }) (hs : a.eval s = sv) (hx : a.eval x = xv) (hr : (Builtin.append_ #[t, t] o.type #[sv, xv]).run Tryd.prog W = .ok v' W') : (execOp a.eval o).run Tryd.prog W = .ok (.value v') W' := by
  simp [execOp, ho, resolve, invoke, builtin, hs, hx, hr, Result.andThen]
structure OkN (s : Nt) (L : Nat) : Prop where
  level : ∀ i, i < s.n → (s.h i).level < 8
  got : ∀ i, i < s.n → 0 ≤ (s.h i).got ∧ (s.h i).got + L < 5000000000000
  q : ∀ i, i < s.n → (s.h i).q.length + L ≤ 5000000000000
set_option maxHeartbeats 4000000 in
set_option maxRecDepth 100000 in
theorem send_calls {bb : Nat → Prop} {w : World} {nb hb : Nat} {qv : Nat → Value} {s : Nt} {D : Nat → Prop} (h : IsNet bb w nb hb qv s) (v : Value) (l : List Dg) (hl : DgIs D w v l) (hD : ∀ k, D k → k < w.heap.size ∧ ¬ NB nb hb s.n qv k) (hok : OkN s l.length) :
    Calls Tryd.prog 21 #[.pointer (some ⟨nb, 0, none⟩), v] w fun e w' => e = .returned .nilIface ∧ NetP bb w nb hb s.n qv (s.send l) w' := by
  obtain ⟨A, c, rfl, hc1, hc2, hc3⟩ := hl
  have HL : Hid (DgIs D w (.slice A l.length c) l) := Lib.hid ⟨A, c, rfl, hc1, hc2, hc3⟩
  have HP0 : Hid (NetP bb w nb hb s.n qv (s.sendTo l 0) w) := Lib.hid (by
    have e : s.sendTo l 0 = s := by
      unfold Nt.sendTo; cases s; congr 1
    rw [e]; exact NetP.refl h)
  have HD := Lib.hid hD
  have HOK := Lib.hid hok
  have n1 := h.hs
  have hn16 := h.n16
  obtain ⟨n, hns⟩ : ∃ n, n = s.n := ⟨_, rfl⟩
  obtain ⟨m, hm⟩ : ∃ m, m = l.length := ⟨_, rfl⟩
  rw [← hns] at n1 hn16
  rw [← hm] at HL hc1 hc2 ⊢
  have HNS := Lib.hid hns
  have HM := Lib.hid hm
  clear h hD hok hc3 hns hm
  go_enter Tryd.func21, Tryd.ntmps21
  go_wp2
  go_loopg [17] (n + 1) (fun kq v17 wr => ∃ k : Nat, v17 = .int .i64 k ∧ Hid (k ≤ n ∧ kq = n + 1 - k) ∧ Hid (NetP bb w nb hb s.n qv (s.sendTo l k) wr))
  case atStart => exact ⟨0, rfl, Lib.hid ⟨by omega, by omega⟩, HP0⟩
  case round =>
    obtain ⟨k, rfl, HK, HA⟩ := hrel
    clear HP0 n1
    by_cases hk : k < n
    rotate_left
    · have HP : Hid (NetP bb w nb hb s.n qv (s.send l) wr) := Lib.hid (by
        have e : k = s.n := by have := HK.out.1; have := HNS.out; omega
        have := HA.out; rw [e] at this; exact this)
      clear HA
      go_wp2
      go_ret
      exact ⟨rfl, HP.out⟩
    have HIN : Hid (NetP bb w nb hb s.n qv (sendAt s l k 0) wr) := Lib.hid (by rw [sendAt_zero]; exact HA.out)
    have n1 : wr.cell? ⟨nb, 1, none⟩ = some (.slice (some ⟨hb, 0, none⟩) n n) := by
      obtain ⟨bb', qv', h1, h2⟩ := HA.out
      rw [HNS.out]; exact h1.hs
    clear HA
    have hks : k < s.n := by rw [← HNS.out]; exact hk
    have HKS := Lib.hid hks
    clear hks
    go_wp2
    go_loopg [28] (m + 1) (fun kq v28 wr => ∃ j : Nat, v28 = .int .i64 j ∧ Hid (j ≤ m ∧ kq = m + 1 - j) ∧ Hid (NetP bb w nb hb s.n qv (sendAt s l k j) wr))
    case atStart => exact ⟨0, rfl, Lib.hid ⟨by omega, by omega⟩, HIN⟩
    case round =>
      clear HIN n1
      obtain ⟨j, rfl, HJ, HA⟩ := hrel
      by_cases hj : j < m
      rotate_left
      · have HIN : Hid (NetP bb w nb hb s.n qv (s.sendTo l (k + 1)) wr) := Lib.hid (by
          have e : j = l.length := by have := HJ.out.1; have := HM.out; omega
          have := HA.out; rw [e, sendAt_end] at this; exact this)
        clear HA
        go_wp2
        go_roundg (n - k)
        case measure => have := HK.out; omega
        case rel => exact ⟨k + 1, by go_num, Lib.hid ⟨by omega, by omega⟩, HIN⟩
      obtain ⟨d, hd⟩ : ∃ d, l[j]? = some d := ⟨l[j]'(by rw [← HM.out]; exact hj), List.getElem?_eq_getElem _⟩
      obtain ⟨bb2, qv2, h1, h2⟩ := HA.out
      have hDk : ∀ i, D i → wr.heap[i]? = w.heap[i]? := fun i hi => h2.fr.block i (HD.out i hi).1 (HD.out i hi).2
      obtain ⟨A', c', e1, e2, e3, e4⟩ := HL.out.keep hDk
      obtain ⟨rfl, _, rfl⟩ : A' = A ∧ l.length = m ∧ c' = c := by cases e1; exact ⟨rfl, HM.out.symm, rfl⟩
      obtain ⟨ab, ao, rfl, hDa, hx⟩ := e4 (by intro e; rw [e] at hd; cases hd)
      obtain ⟨bv, c0, c1, hbv⟩ := hx j d hd
      have HBV := Lib.hid hbv
      obtain ⟨A2, lb, c2, rfl⟩ : ∃ A2 lb c2, bv = .slice A2 lb c2 := by obtain ⟨A2, c2, e, _⟩ := hbv; exact ⟨A2, _, c2, e⟩
      have n0 : wr.cell? ⟨nb, 0, none⟩ = some (.int .i64 s.now) := h1.now
      have HI := Lib.hid (And.intro h1 h2)
      have HDD := Lib.hid (And.intro hd hDk)
      have hnlt := h1.net.lt
      clear h1 h2 hx e1 e2 e3 e4 hbv hd hDk HA
      go_upto_region 10 with (fail)
      obtain ⟨g, hg⟩ : ∃ g, g = wr.heap.size := ⟨_, rfl⟩
      have HW2 : Hid (∀ w2, w2 = wr.alloc (.cells #[.int .i64 d.layer, .slice A2 lb c2] 60) → IsNet bb2 w2 nb hb qv2 (sendAt s l k j) ∧ Stp bb w nb hb s.n qv bb2 w2 qv2 ∧ w2.cell? ⟨g, 0, none⟩ = some (.int .i64 d.layer) ∧ w2.cell? ⟨g, 1, none⟩ = some (.slice A2 lb c2) ∧ w2.cell? ⟨nb, 0, none⟩ = some (.int .i64 s.now) ∧ RdB D w2 (.slice A2 lb c2) d.b ∧ g < w2.heap.size ∧ ¬ NB nb hb s.n qv2 g) := Lib.hid (by
        rintro w2 rfl
        have hB : Below wr.heap.size wr (wr.alloc (.cells #[.int .i64 d.layer, .slice A2 lb c2] 60)) := (Below.refl _ _).alloc (Nat.le_refl _) _
        refine ⟨HI.out.1.below hB, HI.out.2.below hB, by rw [hg, World.cell?_alloc_at _ _ _ _ rfl]; rfl, by rw [hg, World.cell?_alloc_at _ _ _ _ rfl]; rfl, ?_, HBV.out.keep (fun i hi => ?_), by simp [hg], fun e => ?_⟩
        · exact (hB.cell (p := ⟨nb, 0, none⟩) hnlt).trans n0
        · exact hB.block i (by have := (HD.out i hi).1; have := HI.out.2.fr.size; omega)
        · have := HI.out.1.lt e; omega)
      rw [← hg]
      generalize hw2 : wr.alloc (.cells #[.int .i64 d.layer, .slice A2 lb c2] 60) = w2
      obtain ⟨hN2, hS2, y0, y1, y2, hb2, hglt, hgn⟩ := HW2.out w2 hw2.symm
      have HN2 := Lib.hid (And.intro hN2 (And.intro hS2 (And.intro hb2 (And.intro hglt hgn))))
      clear HW2 hw2 hN2 hS2 hb2 hglt hgn HI HBV c0 c1 n0 hg
      refine start_ (n := 7) (S := fun w' => w'.cell? ⟨g, 0, none⟩ = some (.int .i64 d.layer) ∧ w'.cell? ⟨g, 1, none⟩ = some (.slice A2 lb c2) ∧ w'.cell? ⟨nb, 0, none⟩ = some (.int .i64 s.now)) (ds := [6]) #[false, false, false, false, false, false, false] (by kernel_rfl) rfl rfl ⟨y0, y1, y2⟩ (fun hHeld => ?_)
      refine pu_ 0 32 (bm_ 7 0x1) ?_
      refine pu_ 2 34 (bm_ 7 0x5) ?_
      refine pu_ 3 35 (bm_ 7 0xd) ?_
      refine pu_ 4 36 (bm_ 7 0x1d) ?_
      refine tk_ 1 33 (bm_ 7 0x1f) hHeld ?_
      refine tk_ 5 37 (bm_ 7 0x3f) hHeld ?_
      refine la_ 6 (some 38) (bm_ 7 0x7f) fun K hK => ?_
      refine goes_ Tryd.func48 (by kernel_rfl) rfl #[.pointer (some ⟨hb, k * 14, none⟩), .agg #[.int .i64 d.layer, .slice A2 lb c2], .int .i64 s.now] (by rfl) rfl rfl (by simp [Act.eval]) ?_
      · refine (gets_calls HN2.out.1.drew k HKS.out d (.slice A2 lb c2) HN2.out.2.2.1 s.now ?_ ?_).mono ?_
        · rw [sendAt_h, (send_bd _ _ _).1]; exact HOK.out.level k HKS.out
        · rw [sendAt_h]; have := send_bd s.now (l.take j) (s.h k); have := HOK.out.got k HKS.out; have := List.length_take_le j l; omega
        rintro e w3 ⟨rfl, hP⟩
        have HP := Lib.hid hP
        clear hP hHeld y0 y2
        generalize hbg : ((sendAt s l k j).h k).gets d s.now = bg
        have HBG := Lib.hid hbg
        clear hbg
        refine ⟨_, rfl, ?_⟩
        refine hK.out _ _ ?_
        clear hK K
        refine nm_ 38 ?_
        refine done_ (by kernel_rfl) ?_
        cases bg
        · have HQ : Hid (NetP bb w nb hb s.n qv (sendAt s l k (j + 1)) w3) := Lib.hid (by
            obtain ⟨bb3, qv3, h3, s3⟩ := HP.out
            rw [sendAt_no HDD.out.1 HBG.out] at h3
            exact ⟨bb3, qv3, h3, (HN2.out.2.1.below (Below.refl _ _).drew).trans s3⟩)
          clear HP HN2
          go_wp2
          go_roundg (m - j)
          case measure => have := HJ.out; omega
          case rel => exact ⟨j + 1, by go_num, Lib.hid ⟨by omega, by omega⟩, HQ⟩
        · go_wp2
          obtain ⟨bb3, qv3, h3, s3⟩ := HP.out
          have HN3 : Hid (Stp bb w nb hb s.n qv bb3 w3 qv3) := Lib.hid ((HN2.out.2.1.below (Below.refl _ _).drew).trans s3)
          have hg3 : w3.heap[g]? = w2.heap[g]? := s3.fr.block g HN2.out.2.2.2.1 HN2.out.2.2.2.2
          have z1 : w3.cell? ⟨g, 1, none⟩ = some (.slice A2 lb c2) := (cell_blk (a := ⟨g, 1, none⟩) hg3).trans y1
          have z0 : w3.cell? ⟨nb, 0, none⟩ = some (.int .i64 s.now) := h3.now
          have z13 := h3.cell (k := k) HKS.out 13 (by omega)
          obtain ⟨A3, L3, c3, hqv⟩ : ∃ A3 L3 c3, qv3 k = .slice A3 L3 c3 := by obtain ⟨_, _, e, _⟩ := h3.qs k HKS.out; obtain ⟨A3, c3, e2, _⟩ := e.val; exact ⟨A3, _, c3, e2⟩
          have HQV := Lib.hid hqv
          simp only [hoCell] at z13
          rw [hqv] at z13
          have HRD : Hid (∀ w', Below w3.heap.size w3 w' → RdB D w' (.slice A2 lb c2) d.b) := Lib.hid (fun w' hb' => by
            refine (HN2.out.2.2.1.keep (w' := w3) (fun i hi => ?_)).keep (fun i hi => hb'.block i ?_)
            · refine s3.fr.block i (Nat.lt_of_lt_of_le (HD.out i hi).1 HN2.out.2.1.fr.size) (fun e => ?_)
              rcases HN2.out.2.1.blk i e with e | e
              · exact (HD.out i hi).2 e
              · have := (HD.out i hi).1; omega
            · exact Nat.lt_of_lt_of_le (HD.out i hi).1 HN3.out.fr.size)
          have HH3 := Lib.hid (And.intro h3 HN3.out)
          have HQL : Hid ((((sendAt s l k j).put k (((sendAt s l k j).h k).count d s.now)).h k).q.length ≤ 5000000000000) := Lib.hid (by
            rw [put_h]
            have e2 : ∀ x : Ho, (x.count d s.now).q = x.q := by intro x; unfold Ho.count; split <;> rfl
            rw [e2, sendAt_h]
            have := (send_bd s.now (l.take j) (s.h k)).2.2.2; have := HOK.out.q k HKS.out; have := List.length_take_le j l; omega)
          have HS4 := Lib.hid (sendAt_yes HDD.out.1 HBG.out)
          have HS : Hid (∀ w' w'' : World, (w'.cell? ⟨hb, k * 14 + 13, none⟩ = some (.slice A3 L3 c3) ∧ w'.cell? ⟨g, 1, none⟩ = some (.slice A2 lb c2) ∧ w'.cell? ⟨nb, 0, none⟩ = some (.int .i64 s.now) ∧ Below w3.heap.size w3 w') → Below w'.heap.size w' w'' → (w''.cell? ⟨hb, k * 14 + 13, none⟩ = some (.slice A3 L3 c3) ∧ w''.cell? ⟨g, 1, none⟩ = some (.slice A2 lb c2) ∧ w''.cell? ⟨nb, 0, none⟩ = some (.int .i64 s.now) ∧ Below w3.heap.size w3 w'')) := Lib.hid (fun w' w'' h hb' =>
            ⟨(hb'.cell (World.block_lt_of_cell? w' _ h.1)).trans h.1, (hb'.cell (World.block_lt_of_cell? w' _ h.2.1)).trans h.2.1, (hb'.cell (World.block_lt_of_cell? w' _ h.2.2.1)).trans h.2.2.1, h.2.2.2.trans (hb'.mono h.2.2.2.size)⟩)
          clear h3 s3 hg3 hqv HN3 HP HN2 HBG y1
          refine start_ (n := 19) (S := fun w' => w'.cell? ⟨hb, k * 14 + 13, none⟩ = some (.slice A3 L3 c3) ∧ w'.cell? ⟨g, 1, none⟩ = some (.slice A2 lb c2) ∧ w'.cell? ⟨nb, 0, none⟩ = some (.int .i64 s.now) ∧ Below w3.heap.size w3 w') (ds := [15, 18]) #[false, false, false, false, false, false, false, false, false, false, false, false, false, false, false, false, false, false, false] (by kernel_rfl) rfl rfl ⟨z13, z1, z0, (Below.refl _ _).drew⟩ (fun hHeld => ?_)
          clear z13 z1 z0
          generalize w3.drew = w4 at hHeld ⊢
          refine pu_ 0 39 (bm_ 19 0x1) ?_
          refine pu_ 1 40 (bm_ 19 0x3) ?_
          refine pu_ 2 41 (bm_ 19 0x7) ?_
          refine pu_ 3 42 (bm_ 19 0xf) ?_
          refine tk_ 4 43 (bm_ 19 0x1f) hHeld ?_
          refine pu_ 6 45 (bm_ 19 0x5f) ?_
          refine tk_ 7 46 (bm_ 19 0xdf) hHeld ?_
          refine pu_ 9 48 (bm_ 19 0x2df) ?_
          refine pu_ 10 49 (bm_ 19 0x6df) ?_
          refine pu_ 11 50 (bm_ 19 0xedf) ?_
          refine tk_ 12 51 (bm_ 19 0x1edf) hHeld ?_
          refine on_ 5 (some 44) (bm_ 19 0x1eff) fun K hK => ?_
          refine value_ (by rfl) rfl (v := .slice (some ⟨w4.heap.size, 0, none⟩) 0 0) (w1 := w4.alloc (.cells #[] 5)) (by first | rfl | go_simp) ?_
          refine hK.out _ _ (HS.out _ _ hHeld ((Below.refl _ _).alloc (Nat.le_refl _) _)) (fun hHeld5 => ?_)
          clear hK K
          generalize (w4.alloc (.cells #[] 5)) = w5 at hHeld5 ⊢
          generalize w4.heap.size = g5
          refine nm_ 44 ?_
          obtain ⟨v8, w8, hr8, hRB, hB8⟩ := (HRD.out _ hHeld5.2.2.2).copy 22 ⟨g5, 0, none⟩ (fun b => bb3 b ∨ w3.heap.size ≤ b) (fun i hi => .inr (Nat.le_trans hHeld5.2.2.2.size hi))
          obtain ⟨A8, L8, c8, rfl⟩ : ∃ A8 L8 c8, v8 = .slice A8 L8 c8 := by obtain ⟨A8, c8, e, _⟩ := hRB; exact ⟨A8, _, c8, e⟩
          have HRB := Lib.hid hRB
          clear hRB
          refine on_ 8 (some 47) (bm_ 19 0x1fff) fun K hK => ?_
          refine value_ (by rfl) rfl (run_app rfl (by rfl) (by rfl) hr8) ?_
          refine hK.out _ _ (HS.out _ _ hHeld5 hB8) (fun hHeld8 => ?_)
          clear hK K hr8 hB8 hHeld5 hHeld
          refine nm_ 47 ?_
          refine pu_ 13 52 (bm_ 19 0x3fff) ?_
          refine on_ 14 (some 53) (bm_ 19 0x7fff) fun K hK => ?_
          refine value_ (by rfl) rfl (v := .slice (some ⟨w8.heap.size, 0, none⟩) 1 1) (w1 := w8.alloc (.cells #[.slice A8 L8 c8, .int .i64 s.now, .bool false] 74)) (by first | rfl | go_simp) ?_
          have hB9 : Below w8.heap.size w8 (w8.alloc (.cells #[.slice A8 L8 c8, .int .i64 s.now, .bool false] 74)) := (Below.refl _ _).alloc (Nat.le_refl _) _
          refine hK.out _ _ (HS.out _ _ hHeld8 hB9) (fun hHeld9 => ?_)
          clear hK K
          have HC9 : Hid (∀ j u, ([.slice A8 L8 c8, .int .i64 s.now, .bool false] : List Value)[j]? = some u → (w8.alloc (.cells #[.slice A8 L8 c8, .int .i64 s.now, .bool false] 74)).cell? ((⟨w8.heap.size, 0, none⟩ : Addr).add j) = some u) := Lib.hid (fun j u hu => by
            have hadd : (⟨w8.heap.size, 0, none⟩ : Addr).add j = ⟨w8.heap.size, j, none⟩ := by unfold Addr.add; split <;> simp_all
            rw [hadd, World.cell?_alloc_at _ _ _ _ rfl]
            simpa using hu)
          have HRB9 := Lib.hid (HRB.out.keep (bb' := fun b => bb3 b ∨ w3.heap.size ≤ b) (fun b cur e1 e2 => ⟨hB9.block b (lt_of e2), e1⟩))
          clear hB9 hHeld8 HRB
          generalize (w8.alloc (.cells #[.slice A8 L8 c8, .int .i64 s.now, .bool false] 74)) = w9 at hHeld9 HC9 HRB9 ⊢
          generalize w8.heap.size = g9 at HC9 ⊢
          refine nm_ 53 ?_
          have hN9 := HH3.out.1.below hHeld9.2.2.2
          obtain ⟨v15, w15, hr15, hQ15, hf15, ho15⟩ := QIs.append (bb' := fun b => bb3 b ∨ w3.heap.size ≤ b) (hN9.qs k HKS.out) HQL.out 67 ⟨g9, 0, none⟩ 1 ⟨d.b, s.now, false⟩ (.slice A8 L8 c8) HC9.out HRB9.out (fun b e _ => .inl e) (fun b cur e1 e2 => hN9.no_bytes (.inr (.inr ⟨k, HKS.out, e1⟩)) cur e2) rfl
          obtain ⟨A15, L15, c15, rfl⟩ : ∃ A15 L15 c15, v15 = .slice A15 L15 c15 := by obtain ⟨_, _, e, _⟩ := hQ15; obtain ⟨A15, c15, e2, _⟩ := e.val; exact ⟨A15, _, c15, e2⟩
          have HF15 : Hid (NetP bb w nb hb s.n qv (sendAt s l k (j + 1)) (w15.setCell ⟨hb, k * 14 + 13, none⟩ (.slice A15 L15 c15))) := Lib.hid (NetP.putQ HH3.out.1 HH3.out.2 rfl HKS.out ((Fr.of_below hHeld9.2.2.2).trans hf15 (fun _ _ e => e)) (fun b e _ => .inl e) (fun b e => e) hQ15 (fun b e => (ho15 b e).elim .inl (fun e2 => .inr (Nat.le_trans hHeld9.2.2.2.size e2))) HS4.out)
          have h15 : w15.heap[hb]? = w9.heap[hb]? := hf15.block hb hN9.hos.lt (fun e => (hN9.nb_q HKS.out).2 e)
          have q13 : w15.cell? ⟨hb, k * 14 + 13, none⟩ = some (.slice A3 L3 c3) := (cell_blk (a := ⟨hb, _, none⟩) h15).trans hHeld9.1
          have q14 : w15.frozen? ⟨hb, k * 14 + 13, none⟩ = false := (hN9.hos.of_block h15).frozen _
          rw [HQV.out] at hr15
          clear hN9 hQ15 hf15 ho15 h15 HC9 HRB9
          refine la_ 15 (some 54) (bm_ 19 0xffff) fun K hK => ?_
          refine value_ (by rfl) rfl (run_app rfl (by rfl) (by rfl) hr15) ?_
          refine hK.out _ _ ?_
          clear hK K hr15 hHeld9
          refine nm_ 54 ?_
          refine pu_ 16 55 (bm_ 19 0x1ffff) ?_
          refine pu_ 17 56 (bm_ 19 0x3ffff) ?_
          refine la_ 18 none (bm_ 19 0x7ffff) fun K hK => ?_
          refine skip_ (by rfl) rfl (w1 := w15.setCell ⟨hb, k * 14 + 13, none⟩ (.slice A15 L15 c15)) (by go_simp) ?_
          refine hK.out _ _ ?_
          clear hK K q13 q14
          generalize (w15.setCell ⟨hb, k * 14 + 13, none⟩ (.slice A15 L15 c15)) = w16 at HF15 ⊢
          refine done_ (by kernel_rfl) ?_
          go_wp2
          go_roundg (m - j)
          case measure => have := HJ.out; omega
          case rel => exact ⟨j + 1, by go_num, Lib.hid ⟨by omega, by omega⟩, HF15⟩
end Go.Proofs.YtpfpdbbgiimnmaaDoor.Net
