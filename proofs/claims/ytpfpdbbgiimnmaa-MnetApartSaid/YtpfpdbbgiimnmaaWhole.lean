/- geyserlaw22.MnetWhole: it answers true. Conditions: the datagrams as they may come in. -/
import Derived.Test.YtpfpdbbgiimnmaaGrafts
import Derived.Test.YtpfpdbbgiimnmaaDgs
namespace Go.Proofs.Ytpfpdbbgiimnmaa.Net
set_option linter.unusedSimpArgs false
set_option linter.unusedVariables false
open Go.RowKit Go.Deep Go.Proofs.Ytpfpdbbgiimnmaa.Er Go.Proofs.Ytpfpdbbgiimnmaa.Mod Go.Proofs.YtpfpdbbgiimnmaaW.PrintWords
/-- Is it one of a host's layers? -/
def inl (lv : Int) (d : Dg) : Bool := decide (0 ≤ d.layer) && decide (d.layer ≤ lv)
theorem send_open (now : Int) : ∀ (l : List Dg) (x : Ho), x.there = true → x.cap < 0 → (∀ j, x.fro j ≤ now) → (x.send now l).q = x.q ++ (l.filter (inl x.level)).map (fun d => ⟨d.b, now, false⟩)
  | [], x, _, _, _ => by simp [Ho.send]
  | d :: l, x, h1, h2, h3 => by
    show ((x.send1 now d).send now l).q = _
    have hgt : x.gets d now = inl x.level d := by
      have hn : decide (0 ≤ x.cap) = false := decide_eq_false (by omega)
      unfold Ho.gets Ho.lets Ho.full inl
      rw [h1, decide_eq_true (h3 _), hn]
      simp
    have hc : ∀ y : Ho, (y.count d now).there = y.there ∧ (y.count d now).cap = y.cap ∧ (y.count d now).fro = y.fro ∧ (y.count d now).level = y.level ∧ (y.count d now).q = y.q := by
      intro y; unfold Ho.count; split <;> exact ⟨rfl, rfl, rfl, rfl, rfl⟩
    obtain ⟨e1, e2, e3, e4, e5⟩ := hc x
    cases hb : inl x.level d
    · have e : x.send1 now d = x := by unfold Ho.send1; rw [hgt, hb]; rfl
      rw [e, send_open now l x h1 h2 h3, List.filter_cons, if_neg (by rw [hb]; simp)]
    · have e : x.send1 now d = { x.count d now with q := x.q ++ [⟨d.b, now, false⟩] } := by unfold Ho.send1; rw [hgt, hb]; rfl
      rw [e, send_open now l { x.count d now with q := x.q ++ [⟨d.b, now, false⟩] } (e1.trans h1) (by show (x.count d now).cap < 0; rw [e2]; exact h2) (by intro j; show (x.count d now).fro j ≤ now; rw [e3]; exact h3 j), List.filter_cons, if_pos hb]
      show (x.q ++ [⟨d.b, now, false⟩]) ++ (l.filter (inl (x.count d now).level)).map (fun d => (⟨d.b, now, false⟩ : It)) = _
      rw [e4]
      simp
def outs (lv : Int) (l : List Dg) : List (List Int) := (l.filter (inl lv)).map (·.b)
theorem whole_taken (lv : Int) (l : List Dg) : ((N1 0 (hoL lv)).send l).taken 0 = outs lv l ∧ (((N1 0 (hoL lv)).send l).take 0).taken 0 = [] := by
  rw [n1_send, n1_taken, n1_take, n1_taken]
  have h := send_open 0 l (hoL lv) rfl (show (-1 : Int) < 0 by decide) (fun _ => Int.le_refl _)
  have hq : ((hoL lv).send 0 l).q = (l.filter (inl lv)).map (fun d => ⟨d.b, 0, false⟩) := h
  rw [hq]
  constructor
  · unfold dueNow outs
    rw [List.filter_map, List.map_map]
    congr 1
    rw [List.filter_eq_self.2]
    intro d _
    rfl
  · unfold dueNow later
    rw [List.filter_filter, List.filter_map, List.map_map]
    rw [List.filter_eq_nil_iff.2]
    · rfl
    · intro d _
      simp
theorem outs_take (lv : Int) (l : List Dg) (i : Nat) (d : Dg) (h : l[i]? = some d) : outs lv (l.take (i + 1)) = outs lv (l.take i) ++ (if inl lv d then [d.b] else []) := by
  rw [take_snoc h]
  unfold outs
  rw [List.filter_append, List.map_append]
  congr 1
  cases hb : inl lv d <;> simp [hb]
theorem outs_at (lv : Int) (l : List Dg) (i : Nat) (d : Dg) (h : l[i]? = some d) (hd : inl lv d = true) : (outs lv l)[(outs lv (l.take i)).length]? = some d.b := by
  have e : outs lv l = outs lv (l.take (i + 1)) ++ outs lv (l.drop (i + 1)) := by
    unfold outs
    rw [← List.map_append, ← List.filter_append, List.take_append_drop]
  rw [e, outs_take lv l i d h, if_pos hd, List.append_assoc, List.getElem?_append_right (Nat.le_refl _), Nat.sub_self]
  rfl
theorem outs_le (lv : Int) (l : List Dg) : (outs lv l).length ≤ l.length := by
  unfold outs; rw [List.length_map]; exact List.length_filter_le _ _
theorem OutV.form {w : World} {v : Value} {l : List (List Int)} (h : OutV w v l) : ∃ A c, v = .slice A l.length c ∧ l.length ≤ c ∧ l.length ≤ 5000000000000 := by obtain ⟨A, c, h1, h2, h3, _⟩ := h; exact ⟨A, c, h1, h2, h3⟩
theorem OutV.below {w w' : World} {v : Value} {l : List (List Int)} (h : OutV w v l) (hb : Below w.heap.size w w') : OutV w' v l := by
  obtain ⟨A, c, h1, h2, h3, h4⟩ := h
  refine ⟨A, c, h1, h2, h3, fun hne => ?_⟩
  obtain ⟨b, e, hx⟩ := h4 hne
  refine ⟨b, e, fun j x hj => ?_⟩
  obtain ⟨bv, e1, e2⟩ := hx j x hj
  refine ⟨bv, (hb.cell (World.block_lt_of_cell? w _ e1)).trans e1, ?_⟩
  obtain ⟨A2, c2, k1, k2, k3, k4, k5⟩ := e2
  refine ⟨A2, c2, k1, k2, k3, k4, fun hne => ?_⟩
  obtain ⟨a, q1, _, q3⟩ := k5 hne
  exact ⟨a, q1, trivial, fun j x hj => (hb.cell (World.block_lt_of_cell? w _ (q3 j x hj))).trans (q3 j x hj)⟩
theorem RdB.drewN {D : Nat → Prop} {w : World} {v : Value} {l : List Int} (h : RdB D w v l) (n : Nat) : RdB D (w.drewN n) v l := h
/-- The bytes of one place of what was taken, and of one datagram. -/
def StrAt (w : World) (v : Value) (l : List Int) : Prop := ∀ n, (convert 31 9 v).run Try.prog (w.drewN n) = .ok (.string (strOfNums l)) (w.drewN n)
theorem RdB.strs {D : Nat → Prop} {w : World} {v : Value} {l : List Int} (h : RdB D w v l) : StrAt w v l := fun n => (h.drewN n).str
theorem DgIs.small {D : Nat → Prop} {w : World} {v : Value} {l : List Dg} (h : DgIs D w v l) (j : Nat) (d : Dg) (hj : l[j]? = some d) : d.b.length ≤ 140737488355328 := by
  obtain ⟨_, _, _, _, _, h5⟩ := h
  obtain ⟨ab, ao, _, _, h6⟩ := h5 (by rintro rfl; cases hj)
  obtain ⟨bv, _, _, h7⟩ := h6 j d hj
  obtain ⟨_, _, _, _, h8, _⟩ := h7
  exact h8
/-- One datagram of a row, as it is read. -/
theorem DgIs.at_ {D : Nat → Prop} {w : World} {A : Option Addr} {m c : Nat} {l : List Dg} (h : DgIs D w (.slice A m c) l) (j : Nat) (d : Dg) (hj : l[j]? = some d) : ∃ ab ao A2 c2, A = some ⟨ab, ao, none⟩ ∧ w.cell? ⟨ab, ao + j * 2, none⟩ = some (.int .i64 d.layer) ∧ w.cell? ⟨ab, ao + j * 2 + 1, none⟩ = some (.slice A2 d.b.length c2) ∧ StrAt w (.slice A2 d.b.length c2) d.b := by
  obtain ⟨A', c', e1, _, _, h5⟩ := h
  obtain ⟨ab, ao, rfl, _, h6⟩ := h5 (by rintro rfl; cases hj)
  obtain ⟨bv, k1, k2, h7⟩ := h6 j d hj
  have hs := h7.strs
  obtain ⟨A2, c2, rfl, _⟩ := h7
  cases e1
  exact ⟨ab, ao, A2, c2, rfl, k1, k2, hs⟩
theorem OutV.at_ {w : World} {A : Option Addr} {n c : Nat} {l : List (List Int)} (h : OutV w (.slice A n c) l) (j : Nat) (x : List Int) (hj : l[j]? = some x) : ∃ b A2 c2, A = some ⟨b, 0, none⟩ ∧ w.cell? ⟨b, j, none⟩ = some (.slice A2 x.length c2) ∧ StrAt w (.slice A2 x.length c2) x := by
  obtain ⟨A', c', e1, _, _, h5⟩ := h
  obtain ⟨b, rfl, h6⟩ := h5 (by rintro rfl; cases hj)
  obtain ⟨bv, k1, h7⟩ := h6 j x hj
  have hs := h7.strs
  obtain ⟨A2, c2, rfl, _⟩ := h7
  cases e1
  exact ⟨b, A2, c2, rfl, k1, hs⟩
set_option maxHeartbeats 4000000 in
set_option maxRecDepth 100000 in
theorem whole_calls (W : World) (l0 : Int) (v : Value) (l : List Dg) (hl : DgIs (fun k => k < W.heap.size) W v l) : Calls Try.prog 3 #[.int .i64 l0, v] W fun e w' => e = .returned (.bool true) ∧ Below W.heap.size W w' := by
  have u1 := utm_ l0 8 (by omega) (by omega)
  have HD := Lib.hid hl
  obtain ⟨A, c, rfl, hc1, hc2, _⟩ := hl
  obtain ⟨m, hm⟩ : ∃ m, m = l.length := ⟨_, rfl⟩
  have HM := Lib.hid hm
  rw [← hm] at HD hc1 hc2 ⊢
  clear hm
  go_enter Try.func3, Try.ntmps3
  go_upto_region 2 with (fail)
  generalize wrap64 ((IntKind.u64.wrap l0).tmod 8) = lv at u1 ⊢
  obtain ⟨lv0, lv8⟩ := u1
  have HT := Lib.hid (whole_taken lv l)
  have HW0 : Hid (Wf (N1 0 (hoL lv)) 4398046511104) := Lib.hid (n1_wf (by decide) ⟨by show -1 ≤ lv; omega, lv8⟩ (show (0 : Int) ≤ 0 ∧ (0 : Int) ≤ 64 by decide) (show (0 : Int) ≤ 0 ∧ (0 : Int) + ((4398046511104 : Nat) : Int) < 5000000000000 by decide) (show 0 + 4398046511104 ≤ 5000000000000 by decide))
  have HW1 : Hid (Wf ((N1 0 (hoL lv)).send l) 0) := Lib.hid (Wf.send (M := 4398046511104) HW0.out _ (by rw [← HM.out]; exact hc2))
  have HLB : Hid (∀ x ∈ ((N1 0 (hoL lv)).send l).taken 0, x.length ≤ 140737488355328) := Lib.hid (by
    rw [HT.out.1]
    intro x hx
    obtain ⟨d, hd, rfl⟩ := List.mem_map.1 hx
    obtain ⟨j, hj⟩ := List.getElem?_of_mem (List.mem_filter.1 hd).1
    exact HD.out.small j d hj)
  go_upto_region 6 with (first
    | (go_at_call 7; refine (one_calls _ lv ⟨lv0, lv8⟩).mono ?_; rintro e w1 ⟨nb, hb, rfl, h⟩; have H1 := Lib.hid h; clear h)
    | (go_at_call 8; refine (sendL (D := fun k => k < W.heap.size) H1.out (Below.refl _ _) HW0.out _ l (HD.out.keep (fun k hk => H1.out.bel.block k hk)) (fun k hk => ⟨Nat.lt_of_lt_of_le hk H1.out.bel.size, .inr hk⟩) (by rw [← HM.out]; exact hc2)).mono ?_; rintro e w2 ⟨rfl, h⟩; have H2 := Lib.hid h; clear h)
    | (go_at_call 9; refine (takeL H2.out HW1.out 0 HLB.out).mono ?_; rintro e w3 ⟨v3, rfl, h, ho⟩; have H3 := Lib.hid h; have O3 : Hid (OutV w3 v3 (outs lv l)) := Lib.hid (by rw [HT.out.1] at ho; exact ho); clear h ho))
  obtain ⟨A3, c3, rfl, hc3, hn3⟩ := O3.out.form
  obtain ⟨N, hN⟩ : ∃ N, N = (outs lv l).length := ⟨_, rfl⟩
  have HN := Lib.hid hN
  rw [← hN] at hc3 hn3 O3 ⊢
  clear hN
  have HDW : Hid (DgIs (fun k => k < W.heap.size) w3 (.slice A m c) l) := Lib.hid (HD.out.keep (fun k hk => H3.out.bel.block k hk))
  have HWT : Hid (Wf (((N1 0 (hoL lv)).send l).take 0) 0) := Lib.hid (HW1.out.take 0)
  clear H1 H2 HW0 HW1 HLB HD
  go_upto_block 0 with (fail)
  go_wp2
  go_loopg [7, 8] (m + 1) (fun kq v7 v8 wr => ∃ n i kd : Nat, v7 = .int .i64 n ∧ v8 = .int .i64 i ∧ Hid (i ≤ m ∧ n ≤ i ∧ n ≤ N ∧ kq = m + 1 - i ∧ n = (outs lv (l.take i)).length) ∧ Hid (wr = w3.drewN kd))
  case atStart => exact ⟨0, 0, 0, rfl, rfl, Lib.hid ⟨by omega, by omega, by omega, by omega, rfl⟩, Lib.hid rfl⟩
  case round =>
    obtain ⟨n, i, kd, rfl, rfl, HK, HW⟩ := hrel
    have hi1 : i ≤ m := HK.out.1
    have hi2 : n ≤ i := HK.out.2.1
    have hi3 : n ≤ N := HK.out.2.2.1
    have hw := HW.out
    subst hw
    clear HW
    by_cases hi : i < m
    · obtain ⟨d, hd⟩ : ∃ d, l[i]? = some d := ⟨l[i]'(by rw [← HM.out]; exact hi), List.getElem?_eq_getElem _⟩
      obtain ⟨ab, ao, A2, c2, rfl, y0, y1, hs1⟩ := HDW.out.at_ i d hd
      have HOT := Lib.hid (outs_take lv l i d hd)
      have HOA := Lib.hid (outs_at lv l i d hd)
      have HIL : Hid (inl lv d = (decide (0 ≤ d.layer) && decide (d.layer ≤ lv))) := Lib.hid rfl
      obtain ⟨ly, hly⟩ : ∃ ly, ly = d.layer := ⟨_, rfl⟩
      obtain ⟨sb, hsb⟩ : ∃ sb, sb = strOfNums d.b := ⟨_, rfl⟩
      obtain ⟨lb, hlb⟩ : ∃ lb, lb = d.b.length := ⟨_, rfl⟩
      have HLY := Lib.hid hly
      have HSB := Lib.hid hsb
      unfold StrAt at hs1
      rw [← hly] at y0
      rw [← hlb] at y1 hs1
      rw [← hsb] at hs1
      clear hd hly hsb hlb
      have HNO : Hid (inl lv d = false → n = (outs lv (l.take (i + 1))).length) := Lib.hid (fun e => by
        have := HK.out.2.2.2.2
        rw [HOT.out, e, this]; simp)
      by_cases h0 : ly < 0
      · have HF : Hid (inl lv d = false) := Lib.hid (by unfold inl; rw [← HLY.out, decide_eq_false (by omega : ¬ 0 ≤ ly)]; rfl)
        have d0 : decide (ly < 0) = true := decide_eq_true h0
        go_wp2
        go_roundg (m - i)
        case measure => have := HK.out; omega
        case rel => exact ⟨n, i + 1, kd, rfl, by go_num, Lib.hid ⟨by omega, by omega, by omega, by omega, HNO.out HF.out⟩, Lib.hid rfl⟩
      have d0 : decide (ly < 0) = false := decide_eq_false h0
      by_cases h1 : lv < ly
      · have HF : Hid (inl lv d = false) := Lib.hid (by unfold inl; rw [← HLY.out, decide_eq_false (by omega : ¬ ly ≤ lv)]; simp)
        have d1 : decide (lv < ly) = true := decide_eq_true h1
        go_wp2
        go_roundg (m - i)
        case measure => have := HK.out; omega
        case rel => exact ⟨n, i + 1, kd, rfl, by go_num, Lib.hid ⟨by omega, by omega, by omega, by omega, HNO.out HF.out⟩, Lib.hid rfl⟩
      have d1 : decide (lv < ly) = false := decide_eq_false h1
      have HTR : Hid (inl lv d = true) := Lib.hid (by unfold inl; rw [← HLY.out, decide_eq_true (by omega : 0 ≤ ly), decide_eq_true (by omega : ly ≤ lv)]; rfl)
      have hat : (outs lv l)[n]? = some d.b := by have := HK.out.2.2.2.2; rw [this]; exact HOA.out HTR.out
      have hnN : n < N := by rw [HN.out]; exact (List.getElem?_eq_some_iff.1 hat).1
      obtain ⟨b3, A4, c4, rfl, y3, hs3⟩ := O3.out.at_ n _ hat
      obtain ⟨lb3, hlb3⟩ : ∃ lb3, lb3 = d.b.length := ⟨_, rfl⟩
      unfold StrAt at hs3
      rw [← hlb3] at y3 hs3
      rw [← HSB.out] at hs3
      clear hat hlb3
      have d2 : decide (N ≤ n) = false := decide_eq_false (by omega)
      go_wp2
      go_quiet (fail)
      go_wp2
      go_roundg (m - i)
      case measure => have := HK.out; omega
      case rel => exact ⟨n + 1, i + 1, kd + nq, by go_num, by go_num, Lib.hid ⟨by omega, by omega, by omega, by omega, by rw [HOT.out, if_pos HTR.out, List.length_append, ← HK.out.2.2.2.2]; rfl⟩, Lib.hid rfl⟩
    · have he : i = m := by omega
      obtain rfl : n = N := by have := HK.out.2.2.2.2; rw [this, he, HN.out, HM.out, List.take_length]
      have HB : Hid (Below w3.heap.size w3 (w3.drewN kd)) := Lib.hid (pw_below_drewN (Below.refl _ _) _)
      clear he
      go_wp2_with (first
        | (go_at_call 9; refine (takeL (H3.out.below HB.out) HWT.out 0 (by rw [HT.out.2]; intro x hx; cases hx)).mono ?_; rintro e w8 ⟨v8, rfl, h, ho⟩; obtain ⟨A8, c8, rfl⟩ : ∃ A8 c8, v8 = .slice A8 0 c8 := (by rw [HT.out.2] at ho; obtain ⟨A8, c8, e8, _⟩ := ho; exact ⟨A8, c8, e8⟩); have H8 := Lib.hid h.bel; clear h ho)
        | (go_at_call 10; refine (awake_calls _).mono ?_; rintro e w9 ⟨rfl, h9⟩; have H9 := Lib.hid h9; clear h9))
      go_ret
      exact ⟨rfl, H8.out.trans (H9.out.mono H8.out.size)⟩
end Go.Proofs.Ytpfpdbbgiimnmaa.Net
