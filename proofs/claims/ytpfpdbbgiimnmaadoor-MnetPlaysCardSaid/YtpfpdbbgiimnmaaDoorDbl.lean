/- (*mnet.Net).Double by its contract. Conditions: a net. -/
import Derived.Test.YtpfpdbbgiimnmaaDoorPg
import Derived.Test.YtpfpdbbgiimnmaaDoorSpoC
namespace Go.Proofs.YtpfpdbbgiimnmaaDoor.Net
set_option linter.unusedSimpArgs false
set_option linter.unusedVariables false
open Go.RowKit Go.Deep Go.Proofs.YtpfpdbbgiimnmaaDoor.Er Go.Proofs.YtpfpdbbgiimnmaaDoor.Mod Go.Proofs.YtpfpdbbgiimnmaaDoorW.PrintWords Go.Proofs.YtpfpdbbgiimnmaaDoorW.PrintLast
theorem QR.shift {w : World} {b n1 cap : Nat} {xs : List Value} (h : QR w (.slice (some ⟨b, 0, none⟩) n1 cap) n1 xs) (h1 : ∀ u ∈ xs, u.oneCell' = true) (m : Nat) (hm : m + 1 < n1) (m1 r : Nat) (hm1 : m1 = m + 1) (hr : r = n1 - m1) :
    ∃ w9, (Builtin.copy_ #[67, 67] 3 #[.slice (some ⟨b, m1 * 3, none⟩) (n1 - m1) (cap - m1), .slice (some ⟨b, m * 3, none⟩) (n1 - m) (cap - m)]).run Tryd.prog w = .ok (.int .i64 (r : Int)) w9 ∧ QR w9 (.slice (some ⟨b, 0, none⟩) n1 cap) n1 (xs.take (m1 * 3) ++ (xs.drop (m * 3)).take (r * 3)) ∧ Fr w w9 (fun k => k = b) := by
  obtain ⟨hl, h2⟩ := h
  rcases h2 with ⟨e, _⟩ | ⟨b', cap', cur, e, hc, k1, k2, k3, k4⟩
  · cases e
  cases e
  have hl2 : ((xs.drop (m * 3)).take (r * 3)).length = r * 3 := by rw [List.length_take, List.length_drop, hl]; omega
  have hsz : cap * 3 ≤ cur.toList.length := by simpa using k3
  refine ⟨_, run_copy_wide w _ _ _ 74 3 r b (m1 * 3) (n1 - m1) _ _ (n1 - m) _ cur 74 ((xs.drop (m * 3)).take (r * 3)) Tryd.underlying67 szI hc (by rw [hr]; exact (Nat.min_eq_right (by omega)).symm) hl2 (fun i v hv => ?_) (by rw [hl2]; omega) (fun v hv => h1 v (List.mem_of_mem_drop (List.mem_of_mem_take hv))), ⟨?_, .inr ⟨b, cap, _, rfl, setRow_heap w b _ _ _ _ hc, k1, k2, ?_, ?_⟩⟩, Fr.setRow (S := fun k => k = b) (Fr.refl w _) (.inl rfl) _⟩
  · have hadd : (⟨b, m * 3, none⟩ : Addr).add i = ⟨b, m * 3 + i, none⟩ := by unfold Addr.add; split <;> simp_all
    rw [hadd]
    have hi2 : i < r * 3 := by rw [← hl2]; exact (List.getElem?_eq_some_iff.1 hv).1
    rw [List.getElem?_take, if_pos hi2, List.getElem?_drop] at hv
    have hi : m * 3 + i < n1 * 3 := by rw [← hl]; exact (List.getElem?_eq_some_iff.1 hv).1
    rw [← k4, List.getElem?_take, if_pos hi] at hv
    simpa [World.cell?, hc] using hv
  · rw [List.length_append, hl2, List.length_take, hl]; omega
  · simp only [List.size_toArray, List.length_append, hl2, List.length_take, List.length_drop, Array.length_toList]
    simp only [Array.length_toList] at hsz
    omega
  · have ex : xs.take (m1 * 3) = cur.toList.take (m1 * 3) := by rw [← k4, List.take_take]; congr 1; omega
    rw [ex]
    have elen : (cur.toList.take (m1 * 3) ++ (xs.drop (m * 3)).take (r * 3)).length = n1 * 3 := by
      rw [List.length_append, hl2, List.length_take]
      omega
    show List.take (n1 * 3) (cur.toList.take (m1 * 3) ++ (xs.drop (m * 3)).take (r * 3) ++ _) = _
    rw [List.take_append_of_le_length (by omega), List.take_of_length_le (by omega)]
/-- append(queue, item{}) in a plain region. -/
theorem wp_push {ops : Array Oper} {rest : List Oper} {o : Oper} {a : Act} {Q : Exit → Act → World → Prop} {w : World} {bb bb' : Nat → Prop} {v : Value} {q : List It} {g : Addr} {c : Nat} (x : It) (bv : Value) (hgd : o.guard = none) (s y : Operand) (ho : o.op = .call { callee := .builtin .append, args := #[s, y], argTypes := #[67, 67] }) (hs : a.eval s = v) (hx : a.eval y = .slice (some g) 1 c)
    (h : QIs bb w v q) (hn : q.length ≤ 5000000000000) (hc : ∀ j u, ([bv, .int .i64 x.due, .bool x.sp] : List Value)[j]? = some u → w.cell? (g.add j) = some u) (hxb : RB bb' w bv x.b) (hbb : ∀ b, bb b → b < w.heap.size → bb' b) (hown : ∀ b cur, v.ownBlock = some b → w.heap[b]? ≠ some (Obj.cells cur 5 (0, 0))) (h1 : bv.oneCell' = true)
    (k : ∀ (A' : Option Addr) (L' c' : Nat) (w' : World), QIs bb' w' (.slice A' L' c') (q ++ [x]) → Fr w w' (fun b => v.ownBlock = some b) → (∀ b, (Value.slice A' L' c').ownBlock = some b → v.ownBlock = some b ∨ w.heap.size ≤ b) → wpList Tryd.prog ops Q rest (a.put o.dst (.slice A' L' c')) w') : wpList Tryd.prog ops Q (o :: rest) a w := by
  obtain ⟨v', w', hr, h2, h3, h4⟩ := h.append hn o.type g c x bv hc hxb hbb hown h1
  obtain ⟨A', L', c', rfl⟩ : ∃ A' L' c', v' = .slice A' L' c' := by obtain ⟨A', c', e, _⟩ := h2.val; exact ⟨A', _, c', e⟩
  refine wpList_plain hgd fun K hK => ?_
  unfold Oper.wp
  rw [run_app ho hs hx hr]
  exact hK _ _ (k A' L' c' w' h2 h3 h4)
theorem dbl_list (q : List It) (z : It) (m r : Nat) (hm : m < q.length) (hr : r = q.length - m) : (q ++ [z]).take (m + 1) ++ ((q ++ [z]).drop m).take r = q.take (m + 1) ++ q.drop m := by
  rw [List.take_append_of_le_length (by omega), List.drop_append_of_le_length (by omega), List.take_append_of_le_length (by rw [List.length_drop]; omega), List.take_of_length_le (l := q.drop m) (by rw [List.length_drop]; omega)]
set_option maxHeartbeats 8000000 in
set_option maxRecDepth 100000 in
theorem double_calls {bb : Nat → Prop} {w : World} {nb hb : Nat} {qv : Nat → Value} {s : Nt} (h : IsNet bb w nb hb qv s) (i j : Int) (hq : ∀ k, k < s.n → (s.h k).q.length < 5000000000000) :
    Calls Tryd.prog 9 #[.pointer (some ⟨nb, 0, none⟩), .int .i64 i, .int .i64 j] w fun e w' => ∃ ev, e = .returned ev ∧ ErR w' ev (er doubleN (s.placeE i j)) ∧ NetP bb w nb hb s.n qv (s.double i j) w' := by
  have HH := Lib.hid h
  by_cases hp : s.placeE i j = 0
  rotate_left
  · have hd : s.double i j = s := if_neg hp
    have HPN := Lib.hid (place_no h i j hp)
    rw [hd]
    obtain ⟨E, hE⟩ : ∃ E, s.placeE i j = E := ⟨_, rfl⟩
    rw [hE] at hp HPN ⊢
    have hb0 : (E == 0) = false := beq_eq_false_iff_ne.2 hp
    clear h hE hd hq
    go_enter Tryd.func9, Tryd.ntmps9
    go_wp2_with (first | (go_at_call 32; refine HPN.out.mono ?_; rintro e w1 ⟨v1, rfl, hw1⟩; rw [hw1]; clear hw1) | (go_at_call 31; refine (fault_New.calls _ E (er doubleN E) _ rfl).mono ?_; rintro e w2 ⟨ev, rfl, h1, h2⟩; have HE := Lib.hid (And.intro h1 h2); clear h1 h2))
    go_ret
    exact ⟨_, rfl, HE.out.1, (NetP.refl HH.out).below HE.out.2⟩
  obtain ⟨k, m, rfl, rfl, hk, hm⟩ := place_at hp
  rw [show s.double (k : Int) (m : Int) = _ from if_pos hp, hp, Int.toNat_natCast, Int.toNat_natCast]
  have HPL := Lib.hid (place_ok h k m hk hm)
  have HK := Lib.hid hk
  have HM := Lib.hid hm
  have z13 := h.cell (k := k) hk 13 (by omega)
  obtain ⟨A3, L3, c3, hqv⟩ : ∃ A3 L3 c3, qv k = .slice A3 L3 c3 := by obtain ⟨A3, c3, e, _⟩ := (h.qs k hk).val; exact ⟨A3, _, c3, e⟩
  have HQV := Lib.hid hqv
  simp only [hoCell] at z13
  rw [hqv] at z13
  have HQL : Hid ((s.h k).q.length ≤ 5000000000000) := Lib.hid (by have := hq k hk; omega)
  have hblt := h.hos.lt
  have hb0 := h.hos.frozen (k * 14 + 13)
  clear h hp hq hqv
  go_enter Tryd.func9, Tryd.ntmps9
  go_upto_region 4 with (first | (go_at_call 32; refine HPL.out.mono ?_; rintro e w1 ⟨rfl, hw1⟩; rw [hw1]; clear hw1))
  have HA1 : Hid (Below w.heap.size w (w.alloc (.cells #[.slice none 0 0, .int .i64 0, .bool false] 74))) := Lib.hid ((Below.refl _ _).alloc (Nat.le_refl _) _)
  have HI1 : Hid (IsNet bb (w.alloc (.cells #[.slice none 0 0, .int .i64 0, .bool false] 74)) nb hb qv s) := Lib.hid (HH.out.below HA1.out)
  go_wp2_with (first | (at_builtin; refine wp_push (bb' := bb) ⟨[], 0, false⟩ (.slice none 0 0) rfl (.tmp 24) (.tmp 26) rfl rfl rfl (by rw [← HQV.out]; exact HI1.out.qs k HK.out) HQL.out (cells_new _ _ _ _ (by simp)) ?c1 (fun b e _ => e) ?c2 rfl ?_))
  case c1 => exact ⟨none, 0, rfl, Nat.le_refl _, by simp, by simp, fun e => absurd rfl e⟩
  case c2 => intro b cur e1; rw [← HQV.out] at e1; exact HI1.out.no_bytes (.inr (.inr ⟨k, HK.out, e1⟩)) cur
  intro A5 L5 c5 w5 hQ5 hF5 hO5
  have hF5' : Fr (w.alloc (.cells #[.slice none 0 0, .int .i64 0, .bool false] 74)) w5 (fun b => (qv k).ownBlock = some b) := by rw [HQV.out]; exact hF5
  have hO5' : ∀ b, (Value.slice A5 L5 c5).ownBlock = some b → (qv k).ownBlock = some b ∨ (w.alloc (.cells #[.slice none 0 0, .int .i64 0, .bool false] 74)).heap.size ≤ b := by rw [HQV.out]; intro b e; have := hO5 b e; simpa using this
  have h15 : w5.heap[hb]? = w.heap[hb]? := (hF5'.block hb (Nat.lt_of_lt_of_le hblt HA1.out.size) (fun e => (HI1.out.nb_q HK.out).2 e)).trans (HA1.out.block hb hblt)
  have q13 : w5.cell? ⟨hb, k * 14 + 13, none⟩ = some (.slice A3 L3 c3) := (cell_blk (a := ⟨hb, _, none⟩) h15).trans z13
  have q14 : w5.frozen? ⟨hb, k * 14 + 13, none⟩ = false := (HH.out.hos.of_block h15).frozen _
  have HN1 : Hid (NetP bb w nb hb s.n qv (s.put k { s.h k with q := (s.h k).q ++ [⟨[], 0, false⟩] }) (w5.setCell ⟨hb, k * 14 + 13, none⟩ (.slice A5 L5 c5))) := Lib.hid (NetP.putQ HI1.out ((Stp.refl _ _ _ _ _ _).below HA1.out) rfl HK.out hF5' (fun b e _ => e) (fun b e => .inl e) hQ5 hO5' rfl)
  clear hQ5 hF5 hO5 hF5' hO5' h15 HI1 HA1 z13 hb0
  go_upto_region 5 with (fail)
  clear q13 q14
  generalize w5.setCell ⟨hb, k * 14 + 13, none⟩ (.slice A5 L5 c5) = w16 at HN1 ⊢
  obtain ⟨bb1, qv1, h1, s1⟩ := HN1.out
  obtain ⟨n, hn⟩ : ∃ n, n = (s.h k).q.length := ⟨_, rfl⟩
  have hmn : m < n := by rw [hn]; exact HM.out
  have hq1 : ((s.put k { s.h k with q := (s.h k).q ++ [⟨[], 0, false⟩] }).h k).q = (s.h k).q ++ [⟨[], 0, false⟩] := by rw [put_h]
  have z13 := h1.cell (k := k) HK.out 13 (by omega)
  simp only [hoCell] at z13
  have hparts := (h1.qs k HK.out)
  rw [hq1] at hparts
  obtain ⟨b, cap, l, e3, hl, hqr, hrb, hc1, hc2, cur, hcur⟩ := hparts.parts (by simp)
  have hlen1 : ((s.h k).q ++ [(⟨[], 0, false⟩ : It)]).length = n + 1 := by rw [List.length_append, ← hn]; rfl
  rw [hlen1] at e3 hqr hc1
  rw [e3] at z13
  have hll : l.length = n + 1 := by rw [← hlen1, ← hl, List.length_map]
  obtain ⟨n1, hn1⟩ : ∃ n1, n1 = n + 1 := ⟨_, rfl⟩
  obtain ⟨m1, hm1⟩ : ∃ m1, m1 = m + 1 := ⟨_, rfl⟩
  obtain ⟨r, hr⟩ : ∃ r, r = n1 - m1 := ⟨_, rfl⟩
  rw [← hn1] at e3 hqr hc1 z13 hll
  obtain ⟨w17, hcp0, hQ7, hF7⟩ := QR.shift (show QR w16.drew _ _ _ from hqr) (itCells_one l (fun p hp => (hrb p hp).one)) m (by omega) m1 r hm1 hr
  have hcp := hcp0
  have hlt7 : b < w16.heap.size := lt_of hcur
  have hN2 : NetP bb w nb hb s.n qv (s.put k { s.h k with q := (s.h k).q.take (m + 1) ++ (s.h k).q.drop m }) w17 := by
    have hx := NetP.item (q := (s.h k).q.take (m + 1) ++ (s.h k).q.drop m) h1 s1 rfl HK.out ((Fr.drew (S := fun b' => (qv1 k).ownBlock = some b') (Fr.refl w16 _)).trans (hF7.mono (T := fun b' => (qv1 k).ownBlock = some b') (fun b' e => by rw [e3, e]; rfl)) (fun _ _ e => e)) (bb5 := bb1) (fun b' e _ => e) (fun b' e => .inl e) ⟨l.take m1 ++ (l.drop m).take r, ?_, ?_, fun p hp => ?_⟩
    · rw [put_put, put_h] at hx; exact hx
    · rw [List.map_append, List.map_take, List.map_take, List.map_drop, hl, hm1]
      exact dbl_list _ _ _ _ (by rw [← hn]; exact hmn) (by omega)
    · have e9 : (l.take m1 ++ (l.drop m).take r).length = n1 := by rw [List.length_append, List.length_take, List.length_take, List.length_drop, hll]; omega
      rw [e9, e3, itCells_app, ← itCells_take, ← itCells_take, ← itCells_drop]
      exact hQ7
    · refine (hrb p ?_).keep (fun b' cur' e1 e2 => ⟨hF7.block b' (lt_of e2) (fun e => ?_), e1⟩)
      · rcases List.mem_append.1 hp with e | e
        · exact List.mem_of_mem_take e
        · exact List.mem_of_mem_drop (List.mem_of_mem_take e)
      · rw [e] at e2; exact not_bytes hcur e2
  have HN2 := Lib.hid hN2
  have HM1 := Lib.hid (And.intro hm1 (And.intro hn1 hn))
  have hmc : ¬ cap = m := by omega
  have hm1c : ¬ cap = m1 := by omega
  have hmn1 : m ≤ n1 := by omega
  have hm1n1 : m1 ≤ n1 := by omega
  have hmlt : m < n1 := by omega
  have hnc : n1 ≤ cap := hc1
  unfold maxLen at hc2
  have hw1 : wrap64 ((m : Int) + 1) = (m1 : Int) := by unfold wrap64; omega
  clear h1 s1 hn hmn hq1 hparts hl hqr hrb hc1 hlen1 e3 hll hn1 hm1 hr hcp0 hQ7 hF7 hcur HN1 hlt7 hN2
  refine start_ (n := 14) (S := fun w' => w' = w16.drew) (ds := [13]) #[false, false, false, false, false, false, false, false, false, false, false, false, false, false] (by kernel_rfl) rfl rfl rfl (fun hHeld => ?_)
  refine pu_ 0 30 (bm_ 14 0x1) ?_
  refine pu_ 1 31 (bm_ 14 0x3) ?_
  refine pu_ 2 32 (bm_ 14 0x7) ?_
  refine tk_ 3 33 (bm_ 14 0xf) hHeld ?_
  refine pu_ 4 34 (bm_ 14 0x1f) ?_
  refine pu_ 5 35 (bm_ 14 0x3f) ?_
  refine pu_ 6 36 (bm_ 14 0x7f) ?_
  refine pu_ 7 37 (bm_ 14 0xff) ?_
  refine pu_ 8 38 (bm_ 14 0x1ff) ?_
  refine pu_ 9 39 (bm_ 14 0x3ff) ?_
  refine tk_ 10 40 (bm_ 14 0x7ff) hHeld ?_
  refine pu_ 11 41 (bm_ 14 0xfff) ?_
  refine pu_ 12 42 (bm_ 14 0x1fff) ?_
  refine la_ 13 (some 43) (bm_ 14 0x3fff) fun K hK => ?_
  refine value_ (by rfl) rfl (run_cp rfl (by rfl) (by rfl) hcp) ?_
  refine hK.out _ _ ?_
  clear hK K hHeld hcp
  refine nm_ 43 ?_
  refine done_ (by kernel_rfl) ?_
  clear z13 hw1 hmc hm1c hmn1 hm1n1 hmlt hnc hc2
  obtain ⟨bb2, qv2, h2, s2⟩ := HN2.out
  clear HN2
  have hq2 : ((s.put k { s.h k with q := (s.h k).q.take (m + 1) ++ (s.h k).q.drop m }).h k).q = (s.h k).q.take (m + 1) ++ (s.h k).q.drop m := by rw [put_h]
  have z13 := h2.cell (k := k) HK.out 13 (by omega)
  simp only [hoCell] at z13
  have hparts := h2.qs k HK.out
  rw [hq2] at hparts
  have hlen2 : ((s.h k).q.take (m + 1) ++ (s.h k).q.drop m).length = n1 := by
    have := HM1.out.2.1; have := HM1.out.2.2; have := HM.out
    rw [List.length_append, List.length_take, List.length_drop]; omega
  have hmn : m < n1 := by have := HM1.out.2.1; have := HM1.out.2.2; have := HM.out; omega
  obtain ⟨b, cap, l, e3, hl, hqr, hrb, hc1, hc2, cur, hcur⟩ := hparts.parts (by rw [hlen2]; omega)
  rw [hlen2] at e3 hqr hc1
  rw [e3] at z13
  have hll : l.length = n1 := by rw [← hlen2, ← hl, List.length_map]
  obtain ⟨p, hp1⟩ : ∃ p, l[m]? = some p := ⟨l[m]'(by omega), List.getElem?_eq_getElem _⟩
  obtain ⟨_, _, e9, _, _, hblt2, hcell, hfr⟩ := hqr.cells (by omega)
  cases e9
  have y0 : w17.cell? ⟨b, m * 3, none⟩ = some p.1 := hcell _ _ (it_at l m p 0 hp1 (by omega))
  have y1 := hfr (m * 3)
  have hrb1 := hrb p (List.mem_of_getElem? hp1)
  obtain ⟨A9, L9, c9, hp9⟩ : ∃ A9 L9 c9, p.1 = .slice A9 L9 c9 := by obtain ⟨A, c, e, _⟩ := hrb1; exact ⟨A, _, c, e⟩
  rw [hp9] at y0 hrb1
  have HRD : Hid (∀ w', Below w17.heap.size w17 w' → RdB (fun _ => True) w' (.slice A9 L9 c9) p.2.b) := Lib.hid (fun w' hb' => hrb1.rdt.below hb')
  have HN6 : Hid (∀ (w8 : World) (A8 : Option Addr) (L8 c8 : Nat), Below w17.heap.size w17 w8 → RB (fun b => w17.heap.size ≤ b) w8 (.slice A8 L8 c8) p.2.b → NetP bb w nb hb s.n qv (s.put k { s.h k with q := (s.h k).q.take (m + 1) ++ (s.h k).q.drop m }) (w8.setCell ⟨b, m * 3, none⟩ (.slice A8 L8 c8))) := Lib.hid (by
    intro w8 A8 L8 c8 hB hY
    have hcur8 : w8.heap[b]? = some (.cells cur 74 (0, 0)) := (hB.block b hblt2).trans hcur
    have hq8 := (hqr.keep (w' := w8) (fun b' e => by cases e; exact hB.block b hblt2)).set (m * 3) (by omega) (.slice A8 L8 c8)
    have e5 : (itCells l).set (m * 3) (.slice A8 L8 c8) = itCells (l.set m (.slice A8 L8 c8, p.2)) := itCells_set l m p _ hp1 0 (by omega) _ (fun d hd => by
      match d, hd with
      | 0, _ => rfl
      | 1, _ => rfl
      | 2, _ => rfl)
    rw [e5] at hq8
    have hblk : ∀ (b' : Nat) (cur' : Array Value), w8.heap[b']? = some (Obj.cells cur' 5 (0, 0)) → (w8.setCell ⟨b, m * 3, none⟩ (.slice A8 L8 c8)).heap[b']? = w8.heap[b']? := by
      intro b' cur' e
      have hne : b' ≠ b := by rintro rfl; exact not_bytes hcur8 e
      exact Deep.blk_setCell_other _ _ _ _ hne
    have hx := NetP.item (q := (s.h k).q.take (m + 1) ++ (s.h k).q.drop m) (bb5 := fun k' => bb2 k' ∨ w17.heap.size ≤ k') h2 s2 rfl HK.out ((Fr.of_below (S := fun b' => (qv2 k).ownBlock = some b') hB).set (a := ⟨b, m * 3, none⟩) (.inl (by rw [e3]; rfl)) (.slice A8 L8 c8)) (fun b' e _ => .inl e) (fun b' e => e) ⟨l.set m (.slice A8 L8 c8, p.2), ?_, ?_, fun p' hp' => ?_⟩
    · rw [put_put, put_h] at hx; exact hx
    · rw [← hl, List.map_set]
      apply List.ext_getElem?
      intro i
      rw [List.getElem?_set]
      by_cases e : m = i
      · subst e; rw [if_pos rfl, if_pos (by rw [List.length_map]; omega), List.getElem?_map, hp1]; rfl
      · rw [if_neg e]
    · rw [List.length_set, hll, e3]; exact hq8
    · rcases List.mem_or_eq_of_mem_set hp' with e | rfl
      · exact ((hrb p' e).below hB).keep (fun b' cur' e1 e2 => ⟨hblk b' cur' e2, .inl e1⟩)
      · exact hY.keep (fun b' cur' e1 e2 => ⟨hblk b' cur' e2, .inr e1⟩))
  have hmn1 : m ≤ n1 := by omega
  have y13 := z13
  have HS : Hid (∀ w' w'' : World, (w'.cell? ⟨hb, k * 14 + 13, none⟩ = some (.slice (some ⟨b, 0, none⟩) n1 cap) ∧ w'.cell? ⟨b, m * 3, none⟩ = some (.slice A9 L9 c9) ∧ w'.frozen? ⟨b, m * 3, none⟩ = false ∧ Below w17.heap.size w17 w') → Below w'.heap.size w' w'' → (w''.cell? ⟨hb, k * 14 + 13, none⟩ = some (.slice (some ⟨b, 0, none⟩) n1 cap) ∧ w''.cell? ⟨b, m * 3, none⟩ = some (.slice A9 L9 c9) ∧ w''.frozen? ⟨b, m * 3, none⟩ = false ∧ Below w17.heap.size w17 w'')) := Lib.hid (fun w' w'' h hb' =>
    ⟨(hb'.cell (World.block_lt_of_cell? w' _ h.1)).trans h.1, (hb'.cell (World.block_lt_of_cell? w' _ h.2.1)).trans h.2.1, (hb'.frozen (p := ⟨b, m * 3, none⟩) (World.block_lt_of_cell? w' _ h.2.1)).trans h.2.2.1, h.2.2.2.trans (hb'.mono h.2.2.2.size)⟩)
  clear h2 s2 hq2 hparts hl hqr hrb hc1 hc2 hlen2 e3 hll hp1 hcell hfr hrb1 hp9 hcur z13 hblt2
  go_upto_region 6 with (fail)
  refine start_ (n := 18) (S := fun w' => w'.cell? ⟨hb, k * 14 + 13, none⟩ = some (.slice (some ⟨b, 0, none⟩) n1 cap) ∧ w'.cell? ⟨b, m * 3, none⟩ = some (.slice A9 L9 c9) ∧ w'.frozen? ⟨b, m * 3, none⟩ = false ∧ Below w17.heap.size w17 w') (ds := [17]) #[false, false, false, false, false, false, false, false, false, false, false, false, false, false, false, false, false, false] (by kernel_rfl) rfl rfl ⟨y13, y0, y1, (Below.refl _ _).drew⟩ (fun hHeld => ?_)
  clear y13 y0 y1
  generalize w17.drew = w18 at hHeld ⊢
  refine pu_ 0 44 (bm_ 18 0x1) ?_
  refine pu_ 1 45 (bm_ 18 0x3) ?_
  refine pu_ 2 46 (bm_ 18 0x7) ?_
  refine tk_ 3 47 (bm_ 18 0xf) hHeld ?_
  refine pu_ 4 48 (bm_ 18 0x1f) ?_
  refine pu_ 6 50 (bm_ 18 0x5f) ?_
  refine pu_ 7 51 (bm_ 18 0xdf) ?_
  refine pu_ 8 52 (bm_ 18 0x1df) ?_
  refine tk_ 9 53 (bm_ 18 0x3df) hHeld ?_
  refine pu_ 10 54 (bm_ 18 0x7df) ?_
  refine pu_ 11 55 (bm_ 18 0xfdf) ?_
  refine pu_ 12 56 (bm_ 18 0x1fdf) ?_
  refine tk_ 13 57 (bm_ 18 0x3fdf) hHeld ?_
  refine on_ 5 (some 49) (bm_ 18 0x3fff) fun K hK => ?_
  refine value_ (by rfl) rfl (v := .slice (some ⟨w18.heap.size, 0, none⟩) 0 0) (w1 := w18.alloc (.cells #[] 5)) (by first | rfl | go_simp) ?_
  refine hK.out _ _ (HS.out _ _ hHeld ((Below.refl _ _).alloc (Nat.le_refl _) _)) (fun hHeld5 => ?_)
  clear hK K hHeld
  generalize (w18.alloc (.cells #[] 5)) = w5 at hHeld5 ⊢
  generalize w18.heap.size = g5
  refine nm_ 49 ?_
  refine on_ 14 (some 58) (bm_ 18 0x7fff) fun K hK => ?_
  obtain ⟨v8, w8, hr8, hRB, hB8⟩ := (HRD.out _ hHeld5.2.2.2).copy 22 ⟨g5, 0, none⟩ (fun b => w17.heap.size ≤ b) (fun i hi => Nat.le_trans hHeld5.2.2.2.size hi)
  obtain ⟨A8, L8, c8, rfl⟩ : ∃ A8 L8 c8, v8 = .slice A8 L8 c8 := by obtain ⟨A8, c8, e, _⟩ := hRB; exact ⟨A8, _, c8, e⟩
  have HRB := Lib.hid hRB
  clear hRB
  refine value_ (by rfl) rfl (run_app rfl (by rfl) (by rfl) hr8) ?_
  refine hK.out _ _ (HS.out _ _ hHeld5 hB8) (fun hHeld8 => ?_)
  clear hK K hr8 hB8 hHeld5
  refine nm_ 58 ?_
  refine pu_ 15 59 (bm_ 18 0xffff) ?_
  refine pu_ 16 60 (bm_ 18 0x1ffff) ?_
  refine la_ 17 none (bm_ 18 0x3ffff) fun K hK => ?_
  have HFN := Lib.hid (HN6.out w8 A8 L8 c8 hHeld8.2.2.2 HRB.out)
  obtain ⟨r0, r1, r2, r3⟩ := hHeld8
  refine skip_ (by rfl) rfl (w1 := w8.setCell ⟨b, m * 3, none⟩ (.slice A8 L8 c8)) (by go_simp) ?_
  refine hK.out _ _ ?_
  clear hK K
  refine done_ (by kernel_rfl) ?_
  clear r0 r1 r2 r3
  generalize w8.setCell ⟨b, m * 3, none⟩ (.slice A8 L8 c8) = w9 at HFN ⊢
  go_wp2
  go_ret
  exact ⟨_, rfl, rfl, HFN.out⟩
end Go.Proofs.YtpfpdbbgiimnmaaDoor.Net
