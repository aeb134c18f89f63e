/- WireGets walked. Premise: Glob. Conditions: bytes as they may be read. -/
import Derived.Test.YtfcofokbhhnfkaaDoorRefG
namespace Go.Proofs.YtfcofokbhhnfkaaDoor.Byt
set_option linter.unusedSimpArgs false
set_option linter.unusedVariables false
open Go.RowKit Go.Deep Go.Proofs.YtfcofokbhhnfkaaDoor.Er Go.Proofs.YtfcofokbhhnfkaaDoor.As Go.Proofs.YtfcofokbhhnfkaaDoorW.PrintWords Go.Proofs.YtfcofokbhhnfkaaDoorW.PrintLast Go.Proofs.YtfcofokbhhnfkaaDoorW.PrintMore
theorem ErC_u8g {w w' : World} {g : Nat} {cur : Array Value} (hO : Only w w' g) (hg : w.heap[g]? = some (.cells cur 5 (0, 0))) : ∀ (cs : List ByteArray) (v : Value) (n : Int), ErC w cs v n → ErC w' cs v n
  | [], _, _, h => h
  | c :: cs, v, n, h => by
    obtain ⟨b, inner, e, hc, hr⟩ := h
    have hne : b ≠ g := by
      intro e2
      subst e2
      rw [hc] at hg
      cases hg
    exact ⟨b, inner, e, (hO.block b hne).trans hc, ErC_u8g hO hg cs inner n hr⟩
theorem ErR_u8g {w w' : World} {g : Nat} {cur : Array Value} {v : Value} {t : Option Er} (hO : Only w w' g) (hg : w.heap[g]? = some (.cells cur 5 (0, 0))) (h : ErR w v t) : ErR w' v t := by
  cases t with
  | none => exact h
  | some y => exact ⟨h.1, ErC_u8g hO hg y.1 v y.2 h.2⟩
theorem PkAt.u8g {w w' : World} {g k : Nat} {cur : Array Value} {p : Pk} {v : Value} (h : PkAt w k p v) (hO : Only w w' g) (hg : w.heap[g]? = some (.cells cur 5 (0, 0))) : PkAt w' k p v := by
  refine (hO.block k ?_).trans h
  intro e
  subst e
  unfold PkAt at h
  rw [hg] at h
  cases h
/-- On the way through WireGets' loop. -/
structure QS (w : World) (g B5 : Nat) (p : Pk) (v3 v5 ev : Value) (t : Option Er) (Y : List Int) (W : World) : Prop where
  pk : PkAt W g p v5
  dat : OB B5 W v5 p.data
  ob : OB w.heap.size W v3 Y
  er : ErR W ev t
  be : Below w.heap.size w W
  lt : ∀ b, v3.ownBlock = some b → b < B5
  le : w.heap.size ≤ B5
theorem QS.set {w : World} {g B5 b m c : Nat} {p : Pk} {v5 ev : Value} {t : Option Er} {Y : List Int} {W : World} (h : QS w g B5 p (.slice (some ⟨b, 0, none⟩) m c) v5 ev t Y W) (j : Nat) (hj : j < Y.length) (x : Int) (hx : 0 ≤ x ∧ x < 256) : QS w g B5 p (.slice (some ⟨b, 0, none⟩) m c) v5 ev t (Y.set j x) (W.setCell ⟨b, j, none⟩ (.int .u8 x)) := by
  have hO := Only.set W b j (.int .u8 x)
  obtain ⟨hb, hlt, cur, hc⟩ := h.ob.lt (b := b) rfl
  have h5 := h.lt b rfl
  exact ⟨h.pk.u8g hO hc, h.dat.keep (fun k _ e _ => hO.block k (fun e2 => by have := (h.dat.lt e).1; omega)), h.ob.setAt j hj x hx, ErR_u8g hO hc h.er, hO.below h.be hb, h.lt, h.le⟩
set_option maxHeartbeats 8000000 in
set_option maxRecDepth 100000 in
theorem gets_calls (v : Value) (l : List Int) (w : World) (hl : RdB (fun k => k < w.heap.size) w v l) (hG : Glob w) :
    Calls Tryd.prog 5 #[v] w fun e w' => e = .returned (.bool true) ∧ Below w.heap.size w w' := by
  have HR := Lib.hid hl
  have HG := Lib.hid hG
  obtain ⟨A, c, rfl, hc1, hc2, _, _⟩ := hl
  obtain ⟨m, hm⟩ : ∃ m, m = l.length := ⟨_, rfl⟩
  have HM := Lib.hid hm
  rw [← hm] at HR hc1 hc2 ⊢
  obtain ⟨p, hp⟩ : ∃ p, p = getP l := ⟨_, rfl⟩
  obtain ⟨n, hn⟩ : ∃ n, n = getE l := ⟨_, rfl⟩
  obtain ⟨t, ht⟩ : ∃ t, t = getR l := ⟨_, rfl⟩
  have HP : Hid (getP l = p ∧ getE l = n ∧ getR l = t) := Lib.hid ⟨hp.symm, hn.symm, ht.symm⟩
  have HT : Hid (Tells.tells.f t n getN = some true) := Lib.hid (by rw [ht, hn]; exact tells_get l)
  obtain ⟨d, hd⟩ : ∃ d, d = p.data.length := ⟨_, rfl⟩
  have HDL := Lib.hid hd
  have HC1 : Hid (RdB (fun k => k < w.heap.size) (w.alloc (.cells #[] 5)) (.slice A m c) l) := Lib.hid (HR.out.at0 ((Below.refl _ _).alloc (Nat.le_refl _) _))
  clear hG hm hp hn ht hd
  go_enter Tryd.func5, Tryd.ntmps5
  go_upto_region 2 with (first
    | (at_builtin
       refine wp_copyO w.heap.size rfl (.tmp 9) (.tmp 10) rfl rfl rfl HC1.out (heap_new _ _) (Nat.le_refl _) (by simp) ?_
       rw [← HM.out]
       intro A3 c3 w3 hO hF
       have H3 := Lib.hid (And.intro hO (hF.below ((Below.refl _ _).alloc (Nat.le_refl _) _) (by simp) (fun k e => by omega)))
       clear hO hF HC1))
  go_upto_region 3 with (first
    | ((with_reducible refine gate_dst (N := 4) rfl ?_); refine wp_allocPk rfl rfl ?_; intro w5 hP hB hs; have H5 := Lib.hid (And.intro hP hB); clear hP hB hs)
    | ((with_reducible refine gate_store (t := 26) (p := 4) rfl ?_)
       refine wp_stpk (p := p) (A := A4) (L := d) (c := c4) rfl rfl rfl rfl H5.out.1 rfl ?_
       intro w6 hP hO
       have hb := hO.below H5.out.2 (Nat.le_refl _)
       have HQS : Hid (QS w w4.heap.size w3.heap.size p (.slice A3 m c3) (.slice A4 d c4) ev t l w6) := Lib.hid ⟨hP, H4.out.2.1.below hb, H4.out.2.2.1.below hb, ErR_only hO H5.out.1 (ErR_below H5.out.2 H4.out.1), H4.out.2.2.2.trans (hb.mono H4.out.2.2.2.size), fun b e => (H3.out.1.lt e).2.1, H3.out.2.size⟩
       clear hP hO hb H5 H4)
    | (go_at_call 14
       refine (Get_calls _ _ l H3.out.1.rb.rdlt (fun k hk => hk)).mono ?_
       rw [HP.out.1, HP.out.2.2]
       rintro e w4 ⟨v4, ev, rfl, h1, h2, h3⟩
       obtain ⟨A4, c4, rfl, _⟩ := h2.val
       rw [← HDL.out] at h2 ⊢
       have H4 := Lib.hid (And.intro h1 (And.intro h2 (And.intro (H3.out.1.below h3) (H3.out.2.trans (h3.mono H3.out.2.size)))))
       clear h1 h2 h3))
  go_wp2
  go_loopg [6] (m + 1) (fun kq v6 wr => ∃ i : Nat, v6 = .int .i64 i ∧ Hid (i ≤ m ∧ kq = m + 1 - i) ∧ Hid (∃ Y : List Int, Y.length = m ∧ QS w w4.heap.size w3.heap.size p (.slice A3 m c3) (.slice A4 d c4) ev t Y wr))
  case atStart => exact ⟨0, rfl, Lib.hid ⟨by omega, by omega⟩, Lib.hid ⟨l, HM.out.symm, HQS.out⟩⟩
  case round =>
    obtain ⟨i, rfl, HI, HY⟩ := hrel
    obtain ⟨Y, hYl, hPS⟩ := HY.out
    have HYL := Lib.hid hYl
    have HS := Lib.hid hPS
    clear HY hYl hPS
    by_cases hi : i < m
    · obtain ⟨b, c', e3, hbB, cur, hc, hcl⟩ := HS.out.ob.ptr (by intro e; have := HYL.out; rw [e] at this; simp at this; omega)
      obtain ⟨rfl, rfl⟩ : A3 = some ⟨b, 0, none⟩ ∧ c3 = c' := by cases e3; exact ⟨rfl, rfl⟩
      obtain ⟨x, hx⟩ : ∃ x, Y[i]? = some x := ⟨Y[i]'(by have := HYL.out; omega), List.getElem?_eq_getElem _⟩
      have hxb := HS.out.ob.2.1 x (List.mem_of_getElem? hx)
      have y0 : wr.cell? ⟨b, i, none⟩ = some (.int .u8 x) := hcl i x hx
      have y1 := blk_frozen hc i
      obtain ⟨z, hz⟩ : ∃ z, z = 255 - x := ⟨_, rfl⟩
      have e1 : IntKind.u8.wrap (255 - x) = z := by rw [IntKind.wrap_u8']; omega
      have e2 : (255 - x) % 256 = z := by omega
      have HS2 : Hid (∃ Y : List Int, Y.length = m ∧ QS w w4.heap.size w3.heap.size p (.slice (some ⟨b, 0, none⟩) m c3) (.slice A4 d c4) ev t Y (wr.setCell ⟨b, i, none⟩ (.int .u8 z))) := Lib.hid ⟨Y.set i z, by rw [List.length_set]; exact HYL.out, HS.out.set i (by have := HYL.out; omega) z (by omega)⟩
      have hi' : (i : Int) < (m : Int) := by omega
      clear e3 hbB hc hcl hx hxb hz
      go_upto_region 5 with (fail)
      clear HS y0 y1 e1 e2 hi'
      generalize wr.setCell ⟨b, i, none⟩ (.int .u8 z) = w7 at HS2 ⊢
      go_wp2
      go_roundg (m - i)
      case measure => have := HI.out; omega
      case rel => exact ⟨i + 1, by go_num, Lib.hid ⟨by omega, by omega⟩, HS2⟩
    · go_upto_region 7 with (fail)
      go_upto_region 8 with (first
        | ((with_reducible refine gate_dst (N := 7) rfl ?_); refine wp_allocPk rfl rfl ?_; intro w9 hP hB hs; have H9 := Lib.hid (And.intro hP hB); clear hP hB hs)
        | ((with_reducible refine gate_store (t := 26) (p := 7) rfl ?_)
           refine wp_stpk (p := p) (A := A8) (L := d) (c := c8) rfl rfl rfl rfl H9.out.1 rfl ?_
           intro w10 hP hO
           have hb := hO.below H9.out.2 (Nat.le_refl _)
           have H10 : Hid (PkAt w10 w4.heap.size p (.slice A4 d c4) ∧ OB w3.heap.size w10 (.slice A4 d c4) p.data ∧ PkAt w10 w8.heap.size p (.slice A8 d c8) ∧ OB w.heap.size w10 (.slice A8 d c8) p.data ∧ ErR w10 ev t ∧ Below w.heap.size w w10) := Lib.hid ⟨H8.out.1.below hb, H8.out.2.1.below hb, hP, H8.out.2.2.1.below hb, ErR_only hO H9.out.1 (ErR_below H9.out.2 H8.out.2.2.2.1), H8.out.2.2.2.2.trans (hb.mono H8.out.2.2.2.2.size)⟩
           clear hP hO hb H9 H8)
        | (go_at_call 15
           refine (rget_calls (D := fun k => k < w.heap.size) _ (.slice A m c) l (HR.out.at0 HS.out.be) (fun k hk => Nat.lt_of_lt_of_le hk HS.out.be.size)).mono ?_
           unfold GetQ
           rw [HP.out.1, HP.out.2.1]
           rintro e w8 ⟨v8, rfl, ho, hb⟩
           obtain ⟨A8, c8, rfl, _⟩ := ho.val
           rw [← HDL.out] at ho ⊢
           have H8 : Hid (PkAt w8 w4.heap.size p (.slice A4 d c4) ∧ OB w3.heap.size w8 (.slice A4 d c4) p.data ∧ OB w.heap.size w8 (.slice A8 d c8) p.data ∧ ErR w8 ev t ∧ Below w.heap.size w w8) := Lib.hid ⟨HS.out.pk.below hb, HS.out.dat.below hb, ho.base HS.out.be.size, ErR_below hb HS.out.er, HS.out.be.trans (hb.mono HS.out.be.size)⟩
           clear ho hb HS))
      go_wp2_with (first
        | (go_at_call 7
           refine (Tells.tells.calls ev t n getN true _ H10.out.2.2.2.2.1 (Glob_below HG.out H10.out.2.2.2.2.2) HT.out).mono ?_
           rintro e w11 ⟨rfl, hb⟩
           have H11 : Hid (PkAt w11 w4.heap.size p (.slice A4 d c4) ∧ OB w3.heap.size w11 (.slice A4 d c4) p.data ∧ PkAt w11 w8.heap.size p (.slice A8 d c8) ∧ OB w.heap.size w11 (.slice A8 d c8) p.data ∧ Below w.heap.size w w11) := Lib.hid ⟨H10.out.1.below hb, H10.out.2.1.below hb, H10.out.2.2.1.below hb, H10.out.2.2.2.1.below hb, H10.out.2.2.2.2.2.trans (hb.mono H10.out.2.2.2.2.2.size)⟩
           clear hb H10)
        | ((with_reducible refine gate_dst (N := 40) rfl ?_); refine wp_ldpk_want (by rfl) (.tmp 4) rfl rfl H11.out.1 ?_)
        | ((with_reducible refine gate_dst (N := 41) rfl ?_); refine wp_ldpk_want (by rfl) (.tmp 7) rfl rfl H11.out.2.2.1 ?_)
        | (go_at_call 16
           refine (SamR_calls p p _ _ _ H11.out.2.1.rb.rdlt H11.out.2.2.2.1.rb.rdlt (fun k e => e) (fun k e => e)).mono ?_
           rw [show decide (p = p) = true from decide_eq_true rfl]
           rintro e w12 ⟨rfl, hb⟩
           have H12 := Lib.hid (H11.out.2.2.2.2.trans (hb.mono H11.out.2.2.2.2.size))
           clear hb H11)
        | (go_at_call 11
           refine (awake_calls _).mono ?_
           rintro e w14 ⟨rfl, hb⟩
           have H14 := Lib.hid (H12.out.trans (hb.mono H12.out.size))
           clear hb))
      go_ret
      exact ⟨rfl, H14.out⟩
end Go.Proofs.YtfcofokbhhnfkaaDoor.Byt
