/- WireBack walked. Conditions: bytes as they may be read. Printed by mklaws.py. -/
import Derived.Test.YtfcofokbhhnfkaaLawW
namespace Go.Proofs.Ytfcofokbhhnfkaa.Byt
set_option linter.unusedSimpArgs false
set_option linter.unusedVariables false
open Go.RowKit Go.Deep Go.Proofs.Ytfcofokbhhnfkaa.Er Go.Proofs.YtfcofokbhhnfkaaW.PrintWords Go.Proofs.YtfcofokbhhnfkaaW.PrintLast Go.Proofs.YtfcofokbhhnfkaaW.PrintMore

/-- A packet's box, and what stays. -/
structure SB (w : World) (g : Nat) (p : Pk) (u : Value) (W : World) : Prop where
  P : PkAt W g p u
  B : Below w.heap.size w W
theorem SB.below {w : World} {g : Nat} {p : Pk} {u : Value} {W W' : World} (k : SB w g p u W) (hb : Below W.heap.size W W') : SB w g p u W' := ⟨k.P.below hb, k.B.trans (hb.mono k.B.size)⟩
theorem not_none {α : Type} {o : Option α} (h : ¬ o = none) : ∃ x, o = some x := by
  cases o with
  | none => exact absurd rfl h
  | some x => exact ⟨x, rfl⟩
set_option maxHeartbeats 8000000 in
set_option maxRecDepth 100000 in
theorem back_calls (p : Pk) (u bv : Value) (l : List Int) (w : World) (hp : RdB (fun k => k < w.heap.size) w u p.data) (hl : RdB (fun k => k < w.heap.size) w bv l) :
    Calls Try.prog 3 #[pkV p u, bv] w fun e w' => e = .returned (.bool true) ∧ Below w.heap.size w w' := by
  by_cases hw : whyP p = 0
  · by_cases hg : getR l = none
    · skip
      have hlt := hl.lt
      obtain ⟨kq1, kq2⟩ := put_get hlt hg
      obtain ⟨Q, hQ⟩ : ∃ q, q = getP l := ⟨_, rfl⟩
      rw [← hQ] at kq1 kq2
      obtain ⟨d, hd⟩ : ∃ d, d = Q.data.length := ⟨_, rfl⟩
      obtain ⟨s, hs⟩ : ∃ s, s = strOfNums l := ⟨_, rfl⟩
      have HQ : Hid (getP l = Q ∧ getR l = none ∧ putR Q = none ∧ putL Q = l) := Lib.hid ⟨hQ.symm, hg, putR_none.2 kq1, kq2⟩
      have HQd := Lib.hid hd
      have HS := Lib.hid hs
      have fs1 : (s.toList == s.toList) = true := by simp
      have fs2 : (s.toList != s.toList) = false := by simp
      clear hg kq1 kq2 hQ hd hs hlt
      have HBV := Lib.hid hl
      clear hl
      have HP := Lib.hid hp
      have HU := Lib.hid (cells_of hp)
      obtain ⟨Bp, hBp⟩ : ∃ q, q = putL p := ⟨_, rfl⟩
      obtain ⟨m, hm⟩ : ∃ m, m = Bp.length := ⟨_, rfl⟩
      obtain ⟨dp, hdp⟩ : ∃ d, d = p.data.length := ⟨_, rfl⟩
      have HA : Hid (putL p = Bp ∧ putR p = none ∧ getP Bp = p ∧ getR Bp = none) := Lib.hid ⟨hBp.symm, putR_none.2 hw, by rw [hBp]; exact (get_put hw).1, by rw [hBp]; exact (get_put hw).2⟩
      have hm85 : m ≤ 85 := by rw [hm, hBp]; exact putL_len hw
      have fm1 : decide (128 < m) = false := decide_eq_false (by omega)
      have fm2 : decide ((128 : Int) < (m : Int)) = false := decide_eq_false (by omega)
      have HM := Lib.hid hm
      have HDP := Lib.hid hdp
      clear hp hw hBp hm hdp hm85
      go_enter Try.func3, Try.ntmps3
      go_upto_region 2 with (first
        | ((with_reducible refine gate_dst (N := 2) rfl ?_); refine wp_box rfl (.tmp 0) rfl rfl HU.out ?_; intro w2 hP hB hs; have H2 := Lib.hid (SB.mk hP hB); clear hP hB hs)
        | ((with_reducible refine gate_dst (N := 14) rfl ?_); refine wp_ldpk rfl (.tmp 2) rfl rfl H2.out.P ?_)
        | (go_at_call 6
           refine (Put_calls (D := fun k => k < w.heap.size) p u _ (HP.out.at0 H2.out.B) (fun k hk => Nat.lt_of_lt_of_le hk H2.out.B.size)).mono ?_
           rw [HA.out.1, HA.out.2.1]
           rintro e w3 ⟨v', ev, rfl, h1, h2, h3⟩
           obtain rfl := ErR_nil h1
           obtain ⟨A3, c3, rfl, _⟩ := h2.val
           rw [← HM.out] at h2 ⊢
           have H3 := Lib.hid (And.intro (H2.out.below h3) h2)
           clear h1 h2 h3 H2))
      go_upto_region 6 with (first
        | (go_at_call 7
           refine (Get_calls _ _ Bp H3.out.2.rb.rdlt (fun k e => e)).mono ?_
           rw [HA.out.2.2.1, HA.out.2.2.2]
           rintro e w5 ⟨v5, ev, rfl, h1, h2, h3⟩
           obtain rfl := ErR_nil h1
           obtain ⟨A5, c5, rfl, _⟩ := h2.val
           rw [← HDP.out] at h2 ⊢
           have H5 := Lib.hid (And.intro (H3.out.1.below h3) h2)
           clear h1 h2 h3 H3)
        | ((with_reducible refine gate_dst (N := 7) rfl ?_); refine wp_allocPk rfl rfl ?_; intro w6 hP hB hs; have HP6 := Lib.hid (And.intro hP (And.intro hB hs)); clear hP hB hs)
        | ((with_reducible refine gate_store (t := 26) (p := 7) rfl ?_)
           refine wp_stpk (p := p) (A := A5) (L := dp) (c := c5) rfl rfl rfl rfl HP6.out.1 rfl ?_
           intro w7 hP hO
           have hb := hO.below HP6.out.2.1 (Nat.le_refl _)
           have H7 := Lib.hid (And.intro hP (And.intro (H5.out.1.below hb) (H5.out.2.below hb)))
           clear hP hO hb HP6 H5)
        | ((with_reducible refine gate_dst (N := 28) rfl ?_); refine wp_ldpk_want (by rfl) (.tmp 2) rfl rfl H7.out.2.1.P ?_)
        | ((with_reducible refine gate_dst (N := 29) rfl ?_); refine wp_ldpk_want (by rfl) (.tmp 7) rfl rfl H7.out.1 ?_)
        | (go_at_call 8
           refine (SamR_calls (D := fun k => k < w.heap.size) p p _ _ _ (HP.out.at0 H7.out.2.1.B) H7.out.2.2.rb.rdlt (fun k hk => Nat.lt_of_lt_of_le hk H7.out.2.1.B.size) (fun k e => e)).mono ?_
           rw [show decide (p = p) = true from decide_eq_true rfl]
           rintro e w9 ⟨rfl, h1⟩
           have H9 := Lib.hid (H7.out.2.1.B.trans (h1.mono H7.out.2.1.B.size))
           clear h1 H7))
      go_wp2_with (first
        | (go_at_call 7
           refine (Get_calls _ bv l (HBV.out.at0 H9.out) (fun k hk => Nat.lt_of_lt_of_le hk H9.out.size)).mono ?_
           rw [HQ.out.1, HQ.out.2.1]
           rintro e w10 ⟨v5, ev, rfl, h1, h2, h3⟩
           obtain rfl := ErR_nil h1
           obtain ⟨A5, c5, rfl, _⟩ := h2.val
           rw [← HQd.out] at h2 ⊢
           have H10 := Lib.hid (And.intro h2 (H9.out.trans (h3.mono H9.out.size)))
           clear h1 h2 h3 H9)
        | ((with_reducible refine gate_dst (N := 9) rfl ?_); refine wp_allocPk rfl rfl ?_; intro w11 hP hB hs; have HP11 := Lib.hid (And.intro hP (And.intro hB hs)); clear hP hB hs)
        | ((with_reducible refine gate_store (t := 26) (p := 9) rfl ?_)
           refine wp_stpk (p := Q) (A := A5) (L := d) (c := c5) rfl rfl rfl rfl HP11.out.1 rfl ?_
           intro w12 hP hO
           have hb := hO.below HP11.out.2.1 (Nat.le_refl _)
           have H12 := Lib.hid (And.intro hP (And.intro (H10.out.2.trans (hb.mono H10.out.2.size)) (H10.out.1.below hb)))
           clear hP hO hb HP11)
        | ((with_reducible refine gate_dst (N := 46) rfl ?_); refine wp_ldpk rfl (.tmp 9) rfl rfl H12.out.1 ?_)
        | (go_at_call 6
           refine (Put_calls Q (.slice A5 d c5) _ H12.out.2.2.rb.rdlt (fun k hk => hk)).mono ?_
           rw [HQ.out.2.2.1, HQ.out.2.2.2]
           rintro e w13 ⟨v', ev, rfl, h1, h2, h3⟩
           obtain rfl := ErR_nil h1
           have H13 := Lib.hid (H12.out.2.1.trans (h3.mono H12.out.2.1.size))
           have hs1 := h2.rb.rdt.str
           have hs2 := (HBV.out.at0 H13.out).str
           rw [← HS.out] at hs1 hs2
           clear h1 h2 h3)
        | (go_at_call 9
           refine (awake_calls _).mono ?_
           rintro e w14 ⟨rfl, hb⟩
           have H14 := Lib.hid (H13.out.trans (hb.mono H13.out.size))
           clear hb))
      go_ret
      exact ⟨rfl, H14.out⟩
    · skip
      obtain ⟨x, hx⟩ := not_none hg
      obtain ⟨d, hd⟩ : ∃ d, d = (getP l).data.length := ⟨_, rfl⟩
      have HQ : Hid (getR l = some x) := Lib.hid hx
      have HQd := Lib.hid hd
      clear hg hx hd
      have HBV := Lib.hid hl
      clear hl
      have HP := Lib.hid hp
      have HU := Lib.hid (cells_of hp)
      obtain ⟨Bp, hBp⟩ : ∃ q, q = putL p := ⟨_, rfl⟩
      obtain ⟨m, hm⟩ : ∃ m, m = Bp.length := ⟨_, rfl⟩
      obtain ⟨dp, hdp⟩ : ∃ d, d = p.data.length := ⟨_, rfl⟩
      have HA : Hid (putL p = Bp ∧ putR p = none ∧ getP Bp = p ∧ getR Bp = none) := Lib.hid ⟨hBp.symm, putR_none.2 hw, by rw [hBp]; exact (get_put hw).1, by rw [hBp]; exact (get_put hw).2⟩
      have hm85 : m ≤ 85 := by rw [hm, hBp]; exact putL_len hw
      have fm1 : decide (128 < m) = false := decide_eq_false (by omega)
      have fm2 : decide ((128 : Int) < (m : Int)) = false := decide_eq_false (by omega)
      have HM := Lib.hid hm
      have HDP := Lib.hid hdp
      clear hp hw hBp hm hdp hm85
      go_enter Try.func3, Try.ntmps3
      go_upto_region 2 with (first
        | ((with_reducible refine gate_dst (N := 2) rfl ?_); refine wp_box rfl (.tmp 0) rfl rfl HU.out ?_; intro w2 hP hB hs; have H2 := Lib.hid (SB.mk hP hB); clear hP hB hs)
        | ((with_reducible refine gate_dst (N := 14) rfl ?_); refine wp_ldpk rfl (.tmp 2) rfl rfl H2.out.P ?_)
        | (go_at_call 6
           refine (Put_calls (D := fun k => k < w.heap.size) p u _ (HP.out.at0 H2.out.B) (fun k hk => Nat.lt_of_lt_of_le hk H2.out.B.size)).mono ?_
           rw [HA.out.1, HA.out.2.1]
           rintro e w3 ⟨v', ev, rfl, h1, h2, h3⟩
           obtain rfl := ErR_nil h1
           obtain ⟨A3, c3, rfl, _⟩ := h2.val
           rw [← HM.out] at h2 ⊢
           have H3 := Lib.hid (And.intro (H2.out.below h3) h2)
           clear h1 h2 h3 H2))
      go_upto_region 6 with (first
        | (go_at_call 7
           refine (Get_calls _ _ Bp H3.out.2.rb.rdlt (fun k e => e)).mono ?_
           rw [HA.out.2.2.1, HA.out.2.2.2]
           rintro e w5 ⟨v5, ev, rfl, h1, h2, h3⟩
           obtain rfl := ErR_nil h1
           obtain ⟨A5, c5, rfl, _⟩ := h2.val
           rw [← HDP.out] at h2 ⊢
           have H5 := Lib.hid (And.intro (H3.out.1.below h3) h2)
           clear h1 h2 h3 H3)
        | ((with_reducible refine gate_dst (N := 7) rfl ?_); refine wp_allocPk rfl rfl ?_; intro w6 hP hB hs; have HP6 := Lib.hid (And.intro hP (And.intro hB hs)); clear hP hB hs)
        | ((with_reducible refine gate_store (t := 26) (p := 7) rfl ?_)
           refine wp_stpk (p := p) (A := A5) (L := dp) (c := c5) rfl rfl rfl rfl HP6.out.1 rfl ?_
           intro w7 hP hO
           have hb := hO.below HP6.out.2.1 (Nat.le_refl _)
           have H7 := Lib.hid (And.intro hP (And.intro (H5.out.1.below hb) (H5.out.2.below hb)))
           clear hP hO hb HP6 H5)
        | ((with_reducible refine gate_dst (N := 28) rfl ?_); refine wp_ldpk_want (by rfl) (.tmp 2) rfl rfl H7.out.2.1.P ?_)
        | ((with_reducible refine gate_dst (N := 29) rfl ?_); refine wp_ldpk_want (by rfl) (.tmp 7) rfl rfl H7.out.1 ?_)
        | (go_at_call 8
           refine (SamR_calls (D := fun k => k < w.heap.size) p p _ _ _ (HP.out.at0 H7.out.2.1.B) H7.out.2.2.rb.rdlt (fun k hk => Nat.lt_of_lt_of_le hk H7.out.2.1.B.size) (fun k e => e)).mono ?_
           rw [show decide (p = p) = true from decide_eq_true rfl]
           rintro e w9 ⟨rfl, h1⟩
           have H9 := Lib.hid (H7.out.2.1.B.trans (h1.mono H7.out.2.1.B.size))
           clear h1 H7))
      go_wp2_with (first
        | (go_at_call 7
           refine (Get_calls _ bv l (HBV.out.at0 H9.out) (fun k hk => Nat.lt_of_lt_of_le hk H9.out.size)).mono ?_
           rw [HQ.out]
           rintro e w10 ⟨v5, ev, rfl, h1, h2, h3⟩
           obtain ⟨a, rfl⟩ := ErR_ptr h1
           obtain ⟨A5, c5, rfl, _⟩ := h2.val
           rw [← HQd.out] at h2 ⊢
           have H10 := Lib.hid (And.intro h2 (H9.out.trans (h3.mono H9.out.size)))
           clear h1 h2 h3 H9)
        | ((with_reducible refine gate_dst (N := 9) rfl ?_); refine wp_allocPk rfl rfl ?_; intro w11 hP hB hs; have HP11 := Lib.hid (And.intro hP (And.intro hB hs)); clear hP hB hs)
        | ((with_reducible refine gate_store (t := 26) (p := 9) rfl ?_)
           refine wp_stpk (p := getP l) (A := A5) (L := d) (c := c5) rfl rfl rfl rfl HP11.out.1 rfl ?_
           intro w12 hP hO
           have hb := hO.below HP11.out.2.1 (Nat.le_refl _)
           have H13 := Lib.hid (H10.out.2.trans (hb.mono H10.out.2.size))
           clear hP hO hb HP11)
        | (go_at_call 9
           refine (awake_calls _).mono ?_
           rintro e w14 ⟨rfl, hb⟩
           have H14 := Lib.hid (H13.out.trans (hb.mono H13.out.size))
           clear hb))
      go_ret
      exact ⟨rfl, H14.out⟩
  · by_cases hg : getR l = none
    · skip
      have hlt := hl.lt
      obtain ⟨kq1, kq2⟩ := put_get hlt hg
      obtain ⟨Q, hQ⟩ : ∃ q, q = getP l := ⟨_, rfl⟩
      rw [← hQ] at kq1 kq2
      obtain ⟨d, hd⟩ : ∃ d, d = Q.data.length := ⟨_, rfl⟩
      obtain ⟨s, hs⟩ : ∃ s, s = strOfNums l := ⟨_, rfl⟩
      have HQ : Hid (getP l = Q ∧ getR l = none ∧ putR Q = none ∧ putL Q = l) := Lib.hid ⟨hQ.symm, hg, putR_none.2 kq1, kq2⟩
      have HQd := Lib.hid hd
      have HS := Lib.hid hs
      have fs1 : (s.toList == s.toList) = true := by simp
      have fs2 : (s.toList != s.toList) = false := by simp
      clear hg kq1 kq2 hQ hd hs hlt
      have HBV := Lib.hid hl
      clear hl
      have HP := Lib.hid hp
      have HU := Lib.hid (cells_of hp)
      obtain ⟨n, hn⟩ : ∃ n, n = putR p := ⟨_, rfl⟩
      obtain ⟨x, hx⟩ := not_none (fun e => hw (putR_none.1 e))
      have HA : Hid (putR p = some x) := Lib.hid hx
      clear hp hw hx hn
      go_enter Try.func3, Try.ntmps3
      go_upto_region 2 with (first
        | ((with_reducible refine gate_dst (N := 2) rfl ?_); refine wp_box rfl (.tmp 0) rfl rfl HU.out ?_; intro w2 hP hB hs; have H2 := Lib.hid (SB.mk hP hB); clear hP hB hs)
        | ((with_reducible refine gate_dst (N := 14) rfl ?_); refine wp_ldpk rfl (.tmp 2) rfl rfl H2.out.P ?_)
        | (go_at_call 6
           refine (Put_calls (D := fun k => k < w.heap.size) p u _ (HP.out.at0 H2.out.B) (fun k hk => Nat.lt_of_lt_of_le hk H2.out.B.size)).mono ?_
           rw [HA.out]
           rintro e w9 ⟨v', ev, rfl, h1, h2, h3⟩
           obtain ⟨a, rfl⟩ := ErR_ptr h1
           obtain ⟨A3, c3, rfl, _⟩ := h2.val
           have H9 := Lib.hid (H2.out.below h3).B
           clear h1 h2 h3 H2))
      go_upto_region 6 with (fail)
      go_wp2_with (first
        | (go_at_call 7
           refine (Get_calls _ bv l (HBV.out.at0 H9.out) (fun k hk => Nat.lt_of_lt_of_le hk H9.out.size)).mono ?_
           rw [HQ.out.1, HQ.out.2.1]
           rintro e w10 ⟨v5, ev, rfl, h1, h2, h3⟩
           obtain rfl := ErR_nil h1
           obtain ⟨A5, c5, rfl, _⟩ := h2.val
           rw [← HQd.out] at h2 ⊢
           have H10 := Lib.hid (And.intro h2 (H9.out.trans (h3.mono H9.out.size)))
           clear h1 h2 h3 H9)
        | ((with_reducible refine gate_dst (N := 9) rfl ?_); refine wp_allocPk rfl rfl ?_; intro w11 hP hB hs; have HP11 := Lib.hid (And.intro hP (And.intro hB hs)); clear hP hB hs)
        | ((with_reducible refine gate_store (t := 26) (p := 9) rfl ?_)
           refine wp_stpk (p := Q) (A := A5) (L := d) (c := c5) rfl rfl rfl rfl HP11.out.1 rfl ?_
           intro w12 hP hO
           have hb := hO.below HP11.out.2.1 (Nat.le_refl _)
           have H12 := Lib.hid (And.intro hP (And.intro (H10.out.2.trans (hb.mono H10.out.2.size)) (H10.out.1.below hb)))
           clear hP hO hb HP11)
        | ((with_reducible refine gate_dst (N := 46) rfl ?_); refine wp_ldpk rfl (.tmp 9) rfl rfl H12.out.1 ?_)
        | (go_at_call 6
           refine (Put_calls Q (.slice A5 d c5) _ H12.out.2.2.rb.rdlt (fun k hk => hk)).mono ?_
           rw [HQ.out.2.2.1, HQ.out.2.2.2]
           rintro e w13 ⟨v', ev, rfl, h1, h2, h3⟩
           obtain rfl := ErR_nil h1
           have H13 := Lib.hid (H12.out.2.1.trans (h3.mono H12.out.2.1.size))
           have hs1 := h2.rb.rdt.str
           have hs2 := (HBV.out.at0 H13.out).str
           rw [← HS.out] at hs1 hs2
           clear h1 h2 h3)
        | (go_at_call 9
           refine (awake_calls _).mono ?_
           rintro e w14 ⟨rfl, hb⟩
           have H14 := Lib.hid (H13.out.trans (hb.mono H13.out.size))
           clear hb))
      go_ret
      exact ⟨rfl, H14.out⟩
    · skip
      obtain ⟨x, hx⟩ := not_none hg
      obtain ⟨d, hd⟩ : ∃ d, d = (getP l).data.length := ⟨_, rfl⟩
      have HQ : Hid (getR l = some x) := Lib.hid hx
      have HQd := Lib.hid hd
      clear hg hx hd
      have HBV := Lib.hid hl
      clear hl
      have HP := Lib.hid hp
      have HU := Lib.hid (cells_of hp)
      obtain ⟨n, hn⟩ : ∃ n, n = putR p := ⟨_, rfl⟩
      obtain ⟨x, hx⟩ := not_none (fun e => hw (putR_none.1 e))
      have HA : Hid (putR p = some x) := Lib.hid hx
      clear hp hw hx hn
      go_enter Try.func3, Try.ntmps3
      go_upto_region 2 with (first
        | ((with_reducible refine gate_dst (N := 2) rfl ?_); refine wp_box rfl (.tmp 0) rfl rfl HU.out ?_; intro w2 hP hB hs; have H2 := Lib.hid (SB.mk hP hB); clear hP hB hs)
        | ((with_reducible refine gate_dst (N := 14) rfl ?_); refine wp_ldpk rfl (.tmp 2) rfl rfl H2.out.P ?_)
        | (go_at_call 6
           refine (Put_calls (D := fun k => k < w.heap.size) p u _ (HP.out.at0 H2.out.B) (fun k hk => Nat.lt_of_lt_of_le hk H2.out.B.size)).mono ?_
           rw [HA.out]
           rintro e w9 ⟨v', ev, rfl, h1, h2, h3⟩
           obtain ⟨a, rfl⟩ := ErR_ptr h1
           obtain ⟨A3, c3, rfl, _⟩ := h2.val
           have H9 := Lib.hid (H2.out.below h3).B
           clear h1 h2 h3 H2))
      go_upto_region 6 with (fail)
      go_wp2_with (first
        | (go_at_call 7
           refine (Get_calls _ bv l (HBV.out.at0 H9.out) (fun k hk => Nat.lt_of_lt_of_le hk H9.out.size)).mono ?_
           rw [HQ.out]
           rintro e w10 ⟨v5, ev, rfl, h1, h2, h3⟩
           obtain ⟨a, rfl⟩ := ErR_ptr h1
           obtain ⟨A5, c5, rfl, _⟩ := h2.val
           rw [← HQd.out] at h2 ⊢
           have H10 := Lib.hid (And.intro h2 (H9.out.trans (h3.mono H9.out.size)))
           clear h1 h2 h3 H9)
        | ((with_reducible refine gate_dst (N := 9) rfl ?_); refine wp_allocPk rfl rfl ?_; intro w11 hP hB hs; have HP11 := Lib.hid (And.intro hP (And.intro hB hs)); clear hP hB hs)
        | ((with_reducible refine gate_store (t := 26) (p := 9) rfl ?_)
           refine wp_stpk (p := getP l) (A := A5) (L := d) (c := c5) rfl rfl rfl rfl HP11.out.1 rfl ?_
           intro w12 hP hO
           have hb := hO.below HP11.out.2.1 (Nat.le_refl _)
           have H13 := Lib.hid (H10.out.2.trans (hb.mono H10.out.2.size))
           clear hP hO hb HP11)
        | (go_at_call 9
           refine (awake_calls _).mono ?_
           rintro e w14 ⟨rfl, hb⟩
           have H14 := Lib.hid (H13.out.trans (hb.mono H13.out.size))
           clear hb))
      go_ret
      exact ⟨rfl, H14.out⟩
end Go.Proofs.Ytfcofokbhhnfkaa.Byt
