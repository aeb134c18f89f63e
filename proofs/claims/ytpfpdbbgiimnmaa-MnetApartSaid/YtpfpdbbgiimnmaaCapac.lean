/- geyserlaw22.MnetCapacity: it answers true. Conditions: the datagrams as they may come in. -/
import Derived.Test.YtpfpdbbgiimnmaaWhole
namespace Go.Proofs.Ytpfpdbbgiimnmaa.Net
set_option linter.unusedSimpArgs false
set_option linter.unusedVariables false
open Go.RowKit Go.Deep Go.Proofs.Ytpfpdbbgiimnmaa.Er Go.Proofs.Ytpfpdbbgiimnmaa.Mod Go.Proofs.YtpfpdbbgiimnmaaW.PrintWords
/-- How much data there was, and what goes through. -/
def cap1 (most : Int) (a : Int × List (List Int)) (d : Dg) : Int × List (List Int) :=
  if inl 7 d = true then (if isData d.b = true then (if most < a.1 + 1 then (a.1 + 1, a.2) else (a.1 + 1, a.2 ++ [d.b])) else (a.1, a.2 ++ [d.b])) else a
def capF (most : Int) (a : Int × List (List Int)) (l : List Dg) : Int × List (List Int) := l.foldl (cap1 most) a
def capLs (most : Int) (l : List Dg) : Int × List (List Int) := capF most (0, []) l
theorem cap1_pre (most : Int) (a : Int × List (List Int)) (d : Dg) : ∃ r, (cap1 most a d).2 = a.2 ++ r := by
  unfold cap1
  split
  · split
    · split
      · exact ⟨[], by simp⟩
      · exact ⟨_, rfl⟩
    · exact ⟨_, rfl⟩
  · exact ⟨[], by simp⟩
theorem capF_pre (most : Int) : ∀ (l : List Dg) (a : Int × List (List Int)), ∃ r, (capF most a l).2 = a.2 ++ r
  | [], a => ⟨[], by simp [capF]⟩
  | d :: l, a => by
    obtain ⟨r1, h1⟩ := cap1_pre most a d
    obtain ⟨r2, h2⟩ := capF_pre most l (cap1 most a d)
    exact ⟨r1 ++ r2, by show (capF most (cap1 most a d) l).2 = _; rw [h2, h1, List.append_assoc]⟩
theorem capLs_snoc (most : Int) (l : List Dg) (i : Nat) (d : Dg) (h : l[i]? = some d) : capLs most (l.take (i + 1)) = cap1 most (capLs most (l.take i)) d := by
  rw [take_snoc h]; unfold capLs capF; rw [List.foldl_append]; rfl
theorem capLs_at (most : Int) (l : List Dg) (i : Nat) (d : Dg) (h : l[i]? = some d) (r : List Int) (hr : (capLs most (l.take (i + 1))).2 = (capLs most (l.take i)).2 ++ [r]) : (capLs most l).2[(capLs most (l.take i)).2.length]? = some r := by
  obtain ⟨r2, h2⟩ := capF_pre most (l.drop (i + 1)) (capLs most (l.take (i + 1)))
  have e : (capLs most l) = capF most (capLs most (l.take (i + 1))) (l.drop (i + 1)) := by
    unfold capLs capF
    rw [← List.foldl_append, List.take_append_drop]
  rw [e, h2, hr, List.append_assoc, List.getElem?_append_right (Nat.le_refl _), Nat.sub_self]
  rfl
theorem cap1_bd (most : Int) (a : Int × List (List Int)) (d : Dg) : a.1 ≤ (cap1 most a d).1 ∧ (cap1 most a d).1 ≤ a.1 + 1 ∧ (cap1 most a d).2.length ≤ a.2.length + 1 := by
  unfold cap1
  split
  · split
    · split <;> simp <;> omega
    · simp; omega
  · simp; omega
theorem capLs_bd (most : Int) (l : List Dg) : ∀ i, 0 ≤ (capLs most (l.take i)).1 ∧ (capLs most (l.take i)).1 ≤ i ∧ (capLs most (l.take i)).2.length ≤ i
  | 0 => by simp [capLs, capF]
  | i + 1 => by
    have ih := capLs_bd most l i
    cases h : l[i]? with
    | none =>
      have e : l.take (i + 1) = l.take i := by rw [List.take_add_one, h]; simp
      rw [e]; omega
    | some d =>
      rw [capLs_snoc most l i d h]
      have := cap1_bd most (capLs most (l.take i)) d
      omega
theorem capLs_le (most : Int) (l : List Dg) (i : Nat) : (capLs most (l.take i)).2.length ≤ (capLs most l).2.length := by
  obtain ⟨r2, h2⟩ := capF_pre most (l.drop i) (capLs most (l.take i))
  have e : (capLs most l) = capF most (capLs most (l.take i)) (l.drop i) := by
    unfold capLs capF
    rw [← List.foldl_append, List.take_append_drop]
  rw [e, h2, List.length_append]; omega
def hoC (most : Int) : Ho := ⟨true, 7, fun _ => 0, 0, most, 0, []⟩
def hoCq (most g : Int) (q : List It) : Ho := ⟨true, 7, fun _ => 0, 0, most, g, q⟩
def asIt (now : Int) (b : List Int) : It := ⟨b, now, false⟩
theorem capd_send1 (most now : Int) (hm : 0 ≤ most) (hn : 0 ≤ now) (a : Int × List (List Int)) (ha : 0 ≤ a.1) (d : Dg) : (hoCq most (min a.1 most) (a.2.map (asIt now))).send1 now d = hoCq most (min (cap1 most a d).1 most) ((cap1 most a d).2.map (asIt now)) := by
  have hl : (hoCq most (min a.1 most) (a.2.map (asIt now))).lets d now = inl 7 d := by
    unfold Ho.lets inl
    show (true && decide (0 ≤ d.layer) && decide (d.layer ≤ 7) && decide ((0 : Int) ≤ now)) = _
    rw [decide_eq_true hn]; simp
  have hf : (hoCq most (min a.1 most) (a.2.map (asIt now))).full = decide (most ≤ a.1) := by
    unfold Ho.full
    show (decide (0 ≤ most) && decide (most ≤ min a.1 most)) = _
    rw [decide_eq_true hm]
    by_cases h : most ≤ a.1
    · rw [decide_eq_true h, decide_eq_true (by omega)]; rfl
    · rw [decide_eq_false h, decide_eq_false (by omega)]; rfl
  unfold Ho.send1 Ho.count Ho.gets cap1
  rw [hl, hf]
  cases inl 7 d
  · simp
  · cases isData d.b
    · simp [asIt, hoCq]
    · by_cases h : most ≤ a.1
      · rw [decide_eq_true h]
        simp only [if_true, Bool.not_true, Bool.and_false, Bool.false_eq_true, if_false, Bool.and_self]
        rw [if_pos (by omega)]
        unfold hoCq
        congr 1
        omega
      · rw [decide_eq_false h]
        simp only [if_true, Bool.not_false, Bool.and_false, Bool.false_eq_true, if_false, Bool.and_self]
        rw [if_neg (by omega)]
        unfold hoCq
        simp only [List.map_append, List.map_cons, List.map_nil, asIt]
        congr 1
        omega
theorem capd_send (most now : Int) (hm : 0 ≤ most) (hn : 0 ≤ now) : ∀ (l : List Dg) (a : Int × List (List Int)), 0 ≤ a.1 → (hoCq most (min a.1 most) (a.2.map (asIt now))).send now l = hoCq most (min (capF most a l).1 most) ((capF most a l).2.map (asIt now))
  | [], a, _ => rfl
  | d :: l, a, ha => by
    show ((hoCq most (min a.1 most) (a.2.map (asIt now))).send1 now d).send now l = _
    rw [capd_send1 most now hm hn a ha d]
    exact capd_send most now hm hn l (cap1 most a d) (by have := (cap1_bd most a d).1; omega)
theorem cap_round (most now : Int) (hm : 0 ≤ most) (hn : 0 ≤ now) (l : List Dg) : ((N1 now (hoC most)).send l).taken 0 = (capLs most l).2 ∧ (((N1 now (hoC most)).send l).take 0).tick = N1 (now + 1) (hoC most) := by
  have e : (hoC most).send now l = hoCq most (min (capLs most l).1 most) ((capLs most l).2.map (asIt now)) := by
    have := capd_send most now hm hn l (0, []) (Int.le_refl _)
    have e0 : hoCq most (min (0 : Int) most) (([] : List (List Int)).map (asIt now)) = hoC most := by
      unfold hoCq hoC
      rw [show min 0 most = 0 by omega]; rfl
    rw [e0] at this
    exact this
  rw [n1_send, n1_taken, n1_take, n1_tick, e]
  constructor
  · show dueNow now ((capLs most l).2.map (asIt now)) = _
    unfold dueNow
    rw [List.filter_map, List.map_map, List.filter_eq_self.2]
    · show (capLs most l).2.map (fun x => x) = _
      simp
    · intro x _
      show decide (now ≤ now) = true
      simp
  · congr 1
    show (⟨true, 7, fun _ => 0, 0, most, 0, later now ((capLs most l).2.map (asIt now))⟩ : Ho) = hoC most
    unfold hoC later
    congr 1
    rw [List.filter_eq_nil_iff]
    intro x hx
    obtain ⟨y, _, rfl⟩ := List.mem_map.1 hx
    show ¬ (!decide (now ≤ now)) = true
    simp
/-- Of a datagram's bytes, the first one. -/
theorem DgIs.first {D : Nat → Prop} {w : World} {A : Option Addr} {m c : Nat} {l : List Dg} (h : DgIs D w (.slice A m c) l) (j : Nat) (d : Dg) (hj : l[j]? = some d) : ∃ ab ao A2 c2, A = some ⟨ab, ao, none⟩ ∧ w.cell? ⟨ab, ao + j * 2, none⟩ = some (.int .i64 d.layer) ∧ w.cell? ⟨ab, ao + j * 2 + 1, none⟩ = some (.slice A2 d.b.length c2) ∧ StrAt w (.slice A2 d.b.length c2) d.b ∧ d.b.length ≤ c2 ∧ d.b.length ≤ 140737488355328 ∧ ∀ b0 bs, d.b = b0 :: bs → ∃ xb xo, A2 = some ⟨xb, xo, none⟩ ∧ w.cell? ⟨xb, xo, none⟩ = some (.int .u8 b0) := by
  obtain ⟨A', c', e1, _, _, h5⟩ := h
  obtain ⟨ab, ao, rfl, _, h6⟩ := h5 (by rintro rfl; cases hj)
  obtain ⟨bv, k1, k2, h7⟩ := h6 j d hj
  have hs := h7.strs
  obtain ⟨A2, c2, rfl, q1, q2, _, q3⟩ := h7
  cases e1
  refine ⟨ab, ao, A2, c2, rfl, k1, k2, hs, q1, q2, fun b0 bs hb => ?_⟩
  obtain ⟨⟨xb, xo, sp⟩, rfl, _, hx⟩ := q3 (by rw [hb]; exact List.cons_ne_nil _ _)
  have c0 := hx 0 b0 (by rw [hb]; rfl)
  have e : (⟨xb, xo, sp⟩ : Addr).add 0 = ⟨xb, xo, sp⟩ := rfl
  rw [e] at c0
  obtain rfl : sp = none := by
    unfold World.cell? at c0
    cases sp
    · rfl
    · simp at c0; split at c0 <;> simp_all
  exact ⟨xb, xo, rfl, c0⟩
set_option maxHeartbeats 4000000 in
set_option maxRecDepth 100000 in
theorem capped_calls (w : World) (v v2 : Value) (l : List Dg) (most : Int) (D : Nat → Prop) (hm : 0 ≤ most ∧ most ≤ 100) (hlen : l.length ≤ 1000) (ho : OutV w v (capLs most l).2) (hd : DgIs D w v2 l) : Calls Try.prog 12 #[v, v2, .int .i64 most] w fun e w' => e = .returned (.bool true) ∧ Below w.heap.size w w' := by
  obtain ⟨A3, c3, rfl, hc3, hn3⟩ := ho.form
  have O3 := Lib.hid ho
  have HDW := Lib.hid hd
  obtain ⟨A, c, rfl, hc1, _, _⟩ := hd
  obtain ⟨m, hm'⟩ : ∃ m, m = l.length := ⟨_, rfl⟩
  have HM := Lib.hid hm'
  obtain ⟨N, hN⟩ : ∃ N, N = (capLs most l).2.length := ⟨_, rfl⟩
  have HN := Lib.hid hN
  rw [← hN] at hc3 hn3 O3 ⊢
  rw [← hm'] at hc1 hlen HDW ⊢
  obtain ⟨hm0, hm1⟩ := hm
  clear hm' hN ho
  go_enter Try.func12, Try.ntmps12
  go_wp2
  go_loopg [7, 8, 9] (m + 1) (fun kq v7 v8 v9 wr => ∃ (n i kd : Nat) (dt : Int), v7 = .int .i64 n ∧ v8 = .int .i64 dt ∧ v9 = .int .i64 i ∧ Hid (i ≤ m ∧ n ≤ i ∧ n ≤ N ∧ 0 ≤ dt ∧ dt ≤ i ∧ kq = m + 1 - i ∧ n = (capLs most (l.take i)).2.length ∧ dt = (capLs most (l.take i)).1) ∧ Hid (wr = w.drewN kd))
  case atStart => exact ⟨0, 0, 0, 0, rfl, rfl, rfl, Lib.hid ⟨by omega, by omega, by omega, by omega, by omega, by omega, rfl, rfl⟩, Lib.hid rfl⟩
  case round =>
    obtain ⟨n, i, kd, dt, rfl, rfl, rfl, HK, HW⟩ := hrel
    have hi1 : i ≤ m := HK.out.1
    have hi2 : n ≤ i := HK.out.2.1
    have hi3 : n ≤ N := HK.out.2.2.1
    have hi4 : 0 ≤ dt := HK.out.2.2.2.1
    have hi5 : dt ≤ i := HK.out.2.2.2.2.1
    have hw := HW.out
    subst hw
    clear HW
    by_cases hi : i < m
    · obtain ⟨d, hd⟩ : ∃ d, l[i]? = some d := ⟨l[i]'(by rw [← HM.out]; exact hi), List.getElem?_eq_getElem _⟩
      obtain ⟨ab, ao, A2, c2, rfl, y0, y1, hs1, hcb, hlbb, hfst⟩ := HDW.out.first i d hd
      have HSN := Lib.hid (capLs_snoc most l i d hd)
      have HOA := Lib.hid (fun r => capLs_at most l i d hd r)
      have HLE := Lib.hid (capLs_le most l (i + 1))
      have HBD := Lib.hid (capLs_bd most l (i + 1))
      obtain ⟨ly, hly⟩ : ∃ ly, ly = d.layer := ⟨_, rfl⟩
      obtain ⟨sb, hsb⟩ : ∃ sb, sb = strOfNums d.b := ⟨_, rfl⟩
      have HLY := Lib.hid hly
      have HSB := Lib.hid hsb
      unfold StrAt at hs1
      rw [← hly] at y0
      rw [← hsb] at hs1
      clear hd hly hsb
      -- what the state is behind this datagram
      have HNX : Hid (∀ (a1 : Int) (o1 : List (List Int)), cap1 most (capLs most (l.take i)) d = (a1, o1) → ∀ n' : Nat, n' = o1.length → n' ≤ i + 1 ∧ n' ≤ N ∧ 0 ≤ a1 ∧ a1 ≤ ((i + 1 : Nat) : Int) ∧ n' = (capLs most (l.take (i + 1))).2.length ∧ a1 = (capLs most (l.take (i + 1))).1) := Lib.hid (fun a1 o1 e n' hn' => by
        have h1 := HLE.out
        have h2 := HBD.out
        rw [HSN.out, e] at h1 h2 ⊢
        rw [HN.out]
        subst hn'
        exact ⟨h2.2.2, h1, h2.1, h2.2.1, rfl, rfl⟩)
      have HC1 : Hid (∀ b1 b2 b3 : Bool, inl 7 d = b1 → isData d.b = b2 → decide (most < dt + 1) = b3 → cap1 most (capLs most (l.take i)) d = if b1 then (if b2 then (if b3 then (dt + 1, (capLs most (l.take i)).2) else (dt + 1, (capLs most (l.take i)).2 ++ [d.b])) else (dt, (capLs most (l.take i)).2 ++ [d.b])) else (dt, (capLs most (l.take i)).2)) := Lib.hid (fun b1 b2 b3 e1 e2 e3 => by
        have hdt := HK.out.2.2.2.2.2.2.2
        unfold cap1
        rw [← hdt, e1, e2]
        cases b1
        · simp [hdt]
        · cases b2
          · rfl
          · cases b3
            · have := of_decide_eq_false e3; simp [this]
            · have := of_decide_eq_true e3; simp [this])
      have HL7 : Hid (inl 7 d = (decide (0 ≤ ly) && decide (ly ≤ 7))) := Lib.hid (by rw [HLY.out]; rfl)
      by_cases h0 : ly < 0
      · have HF : Hid (inl 7 d = false) := Lib.hid (by rw [HL7.out, decide_eq_false (by omega : ¬ 0 ≤ ly)]; rfl)
        have HCC : Hid (cap1 most (capLs most (l.take i)) d = (dt, (capLs most (l.take i)).2)) := Lib.hid (HC1.out _ _ _ HF.out rfl rfl)
        have HNXT := Lib.hid (HNX.out _ _ HCC.out n HK.out.2.2.2.2.2.2.1)
        have d0 : decide (ly < 0) = true := decide_eq_true h0
        go_wp2
        go_roundg (m - i)
        case measure => have := HK.out; omega
        case rel => exact ⟨n, i + 1, kd, dt, rfl, by go_num, by go_num, Lib.hid ⟨by omega, HNXT.out.1, HNXT.out.2.1, HNXT.out.2.2.1, HNXT.out.2.2.2.1, by omega, HNXT.out.2.2.2.2.1, HNXT.out.2.2.2.2.2⟩, Lib.hid rfl⟩
      have d0 : decide (ly < 0) = false := decide_eq_false h0
      by_cases h1 : 7 < ly
      · have HF : Hid (inl 7 d = false) := Lib.hid (by rw [HL7.out, decide_eq_false (by omega : ¬ ly ≤ 7)]; simp)
        have HCC : Hid (cap1 most (capLs most (l.take i)) d = (dt, (capLs most (l.take i)).2)) := Lib.hid (HC1.out _ _ _ HF.out rfl rfl)
        have HNXT := Lib.hid (HNX.out _ _ HCC.out n HK.out.2.2.2.2.2.2.1)
        have d1 : decide (7 < ly) = true := decide_eq_true h1
        go_wp2
        go_roundg (m - i)
        case measure => have := HK.out; omega
        case rel => exact ⟨n, i + 1, kd, dt, rfl, by go_num, by go_num, Lib.hid ⟨by omega, HNXT.out.1, HNXT.out.2.1, HNXT.out.2.2.1, HNXT.out.2.2.2.1, by omega, HNXT.out.2.2.2.2.1, HNXT.out.2.2.2.2.2⟩, Lib.hid rfl⟩
      have d1 : decide (7 < ly) = false := decide_eq_false h1
      have HTR : Hid (inl 7 d = true) := Lib.hid (by rw [HL7.out, decide_eq_true (by omega : 0 ≤ ly), decide_eq_true (by omega : ly ≤ 7)]; rfl)
      obtain ⟨lb, hlb⟩ : ∃ lb, lb = d.b.length := ⟨_, rfl⟩
      have hlb' := hlb
      rw [← hlb] at y1 hs1 hcb hlbb
      clear hlb
      rcases hdb : d.b with _ | ⟨b0, bs⟩
      · have HD : Hid (isData d.b = false) := Lib.hid (by rw [hdb]; rfl)
        have HCC : Hid (cap1 most (capLs most (l.take i)) d = (dt, (capLs most (l.take i)).2 ++ [d.b])) := Lib.hid (HC1.out _ _ _ HTR.out HD.out rfl)
        have HNXT := Lib.hid (HNX.out _ _ HCC.out (n + 1) (by rw [List.length_append, ← HK.out.2.2.2.2.2.2.1]; rfl))
        obtain rfl : lb = 0 := by rw [hlb', hdb]; rfl
        clear hdb hlb' hfst
        have hat : (capLs most l).2[n]? = some d.b := by
          have hn := HK.out.2.2.2.2.2.2.1
          rw [hn]
          exact HOA.out d.b (by rw [HSN.out, HCC.out])
        have hnN : n < N := by rw [HN.out]; exact (List.getElem?_eq_some_iff.1 hat).1
        obtain ⟨b3, A4, c4, rfl, y3, hs3⟩ := O3.out.at_ n _ hat
        obtain ⟨lb3, hlb3⟩ : ∃ lb3, lb3 = d.b.length := ⟨_, rfl⟩
        unfold StrAt at hs3
        rw [← hlb3] at y3 hs3
        rw [← HSB.out] at hs3
        clear hat hlb3
        have d9 : decide (N ≤ n) = false := decide_eq_false (by omega)
        go_wp2
        go_quiet (fail)
        go_wp2
        go_roundg (m - i)
        case measure => have := HK.out; omega
        case rel => exact ⟨n + 1, i + 1, kd + nq, dt, by go_num, by go_num, by go_num, Lib.hid ⟨by omega, HNXT.out.1, HNXT.out.2.1, HNXT.out.2.2.1, HNXT.out.2.2.2.1, by omega, HNXT.out.2.2.2.2.1, HNXT.out.2.2.2.2.2⟩, Lib.hid rfl⟩
      obtain ⟨xb, xo, rfl, z0⟩ := hfst b0 bs hdb
      have hlb1 : 0 < lb := by rw [hlb', hdb]; simp
      have HCO : Hid (d.b = b0 :: bs) := Lib.hid hdb
      clear hdb hlb' hfst
      have d2 : decide ((0 : Int) < (lb : Int)) = true := decide_eq_true (by omega)
      by_cases hp : b0 = 1
      rotate_left
      · have HD : Hid (isData d.b = false) := Lib.hid (by rw [HCO.out]; show (b0 == 1) = false; simpa using hp)
        have HCC : Hid (cap1 most (capLs most (l.take i)) d = (dt, (capLs most (l.take i)).2 ++ [d.b])) := Lib.hid (HC1.out _ _ _ HTR.out HD.out rfl)
        have HNXT := Lib.hid (HNX.out _ _ HCC.out (n + 1) (by rw [List.length_append, ← HK.out.2.2.2.2.2.2.1]; rfl))
        have d3 : (b0 == 1) = false := beq_eq_false_iff_ne.2 hp
        clear HCO
        have hat : (capLs most l).2[n]? = some d.b := by
          have hn := HK.out.2.2.2.2.2.2.1
          rw [hn]
          exact HOA.out d.b (by rw [HSN.out, HCC.out])
        have hnN : n < N := by rw [HN.out]; exact (List.getElem?_eq_some_iff.1 hat).1
        obtain ⟨b3, A4, c4, rfl, y3, hs3⟩ := O3.out.at_ n _ hat
        obtain ⟨lb3, hlb3⟩ : ∃ lb3, lb3 = d.b.length := ⟨_, rfl⟩
        unfold StrAt at hs3
        rw [← hlb3] at y3 hs3
        rw [← HSB.out] at hs3
        clear hat hlb3
        have d9 : decide (N ≤ n) = false := decide_eq_false (by omega)
        go_wp2
        go_quiet (fail)
        go_wp2
        go_roundg (m - i)
        case measure => have := HK.out; omega
        case rel => exact ⟨n + 1, i + 1, kd + nq, dt, by go_num, by go_num, by go_num, Lib.hid ⟨by omega, HNXT.out.1, HNXT.out.2.1, HNXT.out.2.2.1, HNXT.out.2.2.2.1, by omega, HNXT.out.2.2.2.2.1, HNXT.out.2.2.2.2.2⟩, Lib.hid rfl⟩
      subst hp
      have HD : Hid (isData d.b = true) := Lib.hid (by rw [HCO.out]; rfl)
      clear HCO
      by_cases hmo : most < dt + 1
      · have HCC : Hid (cap1 most (capLs most (l.take i)) d = (dt + 1, (capLs most (l.take i)).2)) := Lib.hid (HC1.out _ _ _ HTR.out HD.out (decide_eq_true hmo))
        have HNXT := Lib.hid (HNX.out _ _ HCC.out n HK.out.2.2.2.2.2.2.1)
        have d4 : decide (most < dt + 1) = true := decide_eq_true hmo
        go_wp2
        go_roundg (m - i)
        case measure => have := HK.out; omega
        case rel => exact ⟨n, i + 1, kd, dt + 1, rfl, by go_num, by go_num, Lib.hid ⟨by omega, HNXT.out.1, HNXT.out.2.1, HNXT.out.2.2.1, HNXT.out.2.2.2.1, by omega, HNXT.out.2.2.2.2.1, HNXT.out.2.2.2.2.2⟩, Lib.hid rfl⟩
      have HCC : Hid (cap1 most (capLs most (l.take i)) d = (dt + 1, (capLs most (l.take i)).2 ++ [d.b])) := Lib.hid (HC1.out _ _ _ HTR.out HD.out (decide_eq_false hmo))
      have HNXT := Lib.hid (HNX.out _ _ HCC.out (n + 1) (by rw [List.length_append, ← HK.out.2.2.2.2.2.2.1]; rfl))
      have d4 : decide (most < dt + 1) = false := decide_eq_false hmo
      have hat : (capLs most l).2[n]? = some d.b := by
        have hn := HK.out.2.2.2.2.2.2.1
        rw [hn]
        exact HOA.out d.b (by rw [HSN.out, HCC.out])
      have hnN : n < N := by rw [HN.out]; exact (List.getElem?_eq_some_iff.1 hat).1
      obtain ⟨b3, A4, c4, rfl, y3, hs3⟩ := O3.out.at_ n _ hat
      obtain ⟨lb3, hlb3⟩ : ∃ lb3, lb3 = d.b.length := ⟨_, rfl⟩
      unfold StrAt at hs3
      rw [← hlb3] at y3 hs3
      rw [← HSB.out] at hs3
      clear hat hlb3
      have d9 : decide (N ≤ n) = false := decide_eq_false (by omega)
      go_wp2
      go_quiet (fail)
      go_wp2
      go_roundg (m - i)
      case measure => have := HK.out; omega
      case rel => exact ⟨n + 1, i + 1, kd + nq, dt + 1, by go_num, by go_num, by go_num, Lib.hid ⟨by omega, HNXT.out.1, HNXT.out.2.1, HNXT.out.2.2.1, HNXT.out.2.2.2.1, by omega, HNXT.out.2.2.2.2.1, HNXT.out.2.2.2.2.2⟩, Lib.hid rfl⟩
    · obtain rfl : n = N := by
        have e : i = m := by omega
        have := HK.out.2.2.2.2.2.2.1; rw [this, e, HN.out, HM.out, List.take_length]
      go_wp2
      go_ret
      exact ⟨rfl, pw_below_drewN (Below.refl _ _) _⟩
end Go.Proofs.Ytpfpdbbgiimnmaa.Net
