/- WirePuts walked. Premise: Glob. Conditions: numbers as memory holds them. Printed by mkputl.py. -/
import Derived.Test.YtfcofokbhhnfkaaDoorRbod
import Derived.Test.YtfcofokbhhnfkaaDoorChkL
namespace Go.Proofs.YtfcofokbhhnfkaaDoor.Byt
set_option linter.unusedSimpArgs false
set_option linter.unusedVariables false
open Go.RowKit Go.Deep Go.Proofs.YtfcofokbhhnfkaaDoor.Er Go.Proofs.YtfcofokbhhnfkaaDoor.As Go.Proofs.YtfcofokbhhnfkaaDoorW.PrintWords Go.Proofs.YtfcofokbhhnfkaaDoorW.PrintLast Go.Proofs.YtfcofokbhhnfkaaDoorW.PrintMore
theorem ErC_u8 {w w' : World} {g : Nat} {cur : Array Value} (hO : Only w w' g) (hg : w.heap[g]? = some (.cells cur 5 (0, 0))) : ∀ (cs : List ByteArray) (v : Value) (n : Int), ErC w cs v n → ErC w' cs v n
  | [], _, _, h => h
  | c :: cs, v, n, h => by
    obtain ⟨b, inner, e, hc, hr⟩ := h
    have hne : b ≠ g := by
      intro e2
      subst e2
      rw [hc] at hg
      cases hg
    exact ⟨b, inner, e, (hO.block b hne).trans hc, ErC_u8 hO hg cs inner n hr⟩
theorem ErR_u8 {w w' : World} {g : Nat} {cur : Array Value} {v : Value} {t : Option Er} (hO : Only w w' g) (hg : w.heap[g]? = some (.cells cur 5 (0, 0))) (h : ErR w v t) : ErR w' v t := by
  cases t with
  | none => exact h
  | some y => exact ⟨h.1, ErC_u8 hO hg y.1 v y.2 h.2⟩
theorem PkAt.u8 {w w' : World} {g k : Nat} {cur : Array Value} {p : Pk} {v : Value} (h : PkAt w k p v) (hO : Only w w' g) (hg : w.heap[g]? = some (.cells cur 5 (0, 0))) : PkAt w' k p v := by
  refine (hO.block k ?_).trans h
  intro e
  subst e
  unfold PkAt at h
  rw [hg] at h
  cases h
/-- On the way through WirePuts' loop. -/
structure PS (w : World) (g g3 B3 B5 : Nat) (p : Pk) (u v3 vb ev : Value) (t : Option Er) (lb Y : List Int) (W : World) : Prop where
  pk : PkAt W g p u
  own : PkAt W g3 p v3
  ob : OB B3 W v3 Y
  bb : OB B5 W vb lb
  er : ErR W ev t
  be : Below w.heap.size w W
  lt : ∀ b, v3.ownBlock = some b → b < B5
  B3 : w.heap.size ≤ B3
theorem PS.drew {w : World} {g g3 B3 B5 : Nat} {p : Pk} {u v3 vb ev : Value} {t : Option Er} {lb Y : List Int} {W : World} (h : PS w g g3 B3 B5 p u v3 vb ev t lb Y W) : PS w g g3 B3 B5 p u v3 vb ev t lb Y W.drew := ⟨h.pk, h.own, h.ob.below (Below.refl _ _).drew, h.bb.below (Below.refl _ _).drew, ErR_drew h.er, h.be.drew, h.lt, h.B3⟩
theorem PS.set {w : World} {g g3 B3 B5 b m c : Nat} {p : Pk} {u vb ev : Value} {t : Option Er} {lb Y : List Int} {W : World} (h : PS w g g3 B3 B5 p u (.slice (some ⟨b, 0, none⟩) m c) vb ev t lb Y W) (j : Nat) (hj : j < Y.length) (x : Int) (hx : 0 ≤ x ∧ x < 256) : PS w g g3 B3 B5 p u (.slice (some ⟨b, 0, none⟩) m c) vb ev t lb (Y.set j x) (W.setCell ⟨b, j, none⟩ (.int .u8 x)) := by
  have hO := Only.set W b j (.int .u8 x)
  obtain ⟨hb, hlt, cur, hc⟩ := h.ob.lt (b := b) rfl
  have h5 := h.lt b rfl
  have h3 := h.B3
  exact ⟨h.pk.u8 hO hc, h.own.u8 hO hc, h.ob.setAt j hj x hx, h.bb.keep (fun k _ e _ => hO.block k (fun e2 => by have := (h.bb.lt e).1; omega)), ErR_u8 hO hc h.er, hO.below h.be (by omega), h.lt, h.B3⟩
theorem tells_put (p : Pk) : Tells.tells.f (putR p) (whyP p) putN = some true := by
  unfold putR
  by_cases h : whyP p = 0
  · rw [if_pos h, h]; rfl
  · rw [if_neg h]; exact tells_n _ _ _ h
set_option maxHeartbeats 8000000 in
set_option maxRecDepth 100000 in
theorem puts_calls (p : Pk) (u : Value) (w : World) (hp : RdB (fun k => k < w.heap.size) w u p.data) (hb : PkB p) (hG : Glob w) :
    Calls Tryd.prog 4 #[pkV p u] w fun e w' => e = .returned (.bool true) ∧ Below w.heap.size w w' := by
  have HU := Lib.hid (cells_of hp)
  have HPB := Lib.hid hb
  have HP := Lib.hid hp
  have HG := Lib.hid hG
  obtain ⟨n, hn⟩ : ∃ n, n = whyP p := ⟨_, rfl⟩
  have HN : Hid (whyP p = n) := Lib.hid hn.symm
  obtain ⟨L, hL⟩ : ∃ L, L = p.data.length := ⟨_, rfl⟩
  have HL := Lib.hid hL
  have hL47 : L ≤ 140737488355328 := by rw [hL]; exact hp.len
  clear hp hb hG hn hL
  go_enter Tryd.func4, Tryd.ntmps4
  go_upto_region 2 with (first
    | ((with_reducible refine gate_dst (N := 1) rfl ?_); refine wp_box rfl (.tmp 0) rfl rfl HU.out ?_; intro w1 hP hB hs; have H1 := Lib.hid (SB.mk hP hB); clear hP hB hs)
    | ((with_reducible refine gate_dst (N := 8) rfl ?_); refine wp_ldpk rfl (.tmp 1) rfl rfl H1.out.P ?_)
    | (go_at_call 9; refine (copied_calls (D := fun k => k < w.heap.size) p u _ (HP.out.at0 H1.out.B) (fun k hk => Nat.lt_of_lt_of_le hk H1.out.B.size)).mono ?_; rintro e w2 ⟨cv, rfl, ho, hb⟩; obtain ⟨A3, c3, rfl, _⟩ := ho.val; rw [← HL.out] at ho ⊢; have H2 := Lib.hid (And.intro (H1.out.below hb) (And.intro (ho.base H1.out.B.size) hb)); clear ho hb)
    | ((with_reducible refine gate_dst (N := 3) rfl ?_); refine wp_allocPk rfl rfl ?_; intro w3 hP hB hs; have H3 := Lib.hid (And.intro hP hB); clear hP hB hs)
    | ((with_reducible refine gate_store (t := 26) (p := 3) rfl ?_)
       refine wp_stpk (p := p) (A := A3) (L := L) (c := c3) rfl rfl rfl rfl H3.out.1 rfl ?_
       intro w4 hP hO
       have hb := hO.below H3.out.2 (Nat.le_refl _)
       have H4 := Lib.hid (And.intro hP (And.intro (H2.out.1.below hb) (H2.out.2.1.below hb)))
       clear hP hO hb H3 H2))
  go_upto_region 3 with (first
    | ((with_reducible refine gate_dst (N := 11) rfl ?_); refine wp_ldpk rfl (.tmp 3) rfl rfl H4.out.1 ?_)
    | (go_at_call 12
       refine (Put_calls p (.slice A3 L c3) _ H4.out.2.2.rb.rdlt (fun k hk => hk)).mono ?_
       rintro e w5 ⟨vb, ev, rfl, h1, h2, h3⟩
       have HPS : Hid (PS w w.heap.size w2.heap.size w.heap.size w4.heap.size p u (.slice A3 L c3) vb ev (putR p) (putL p) p.data w5) := Lib.hid ⟨H4.out.2.1.P.below h3, H4.out.1.below h3, H4.out.2.2.below h3, h2, h1, H4.out.2.1.B.trans (h3.mono H4.out.2.1.B.size), fun b e => (H4.out.2.2.lt e).2.1, Nat.le_refl _⟩
       clear h1 h2 h3 H4))
  go_wp2
  go_loopg [6] (L + 1) (fun kq v6 wr => ∃ i : Nat, v6 = .int .i64 i ∧ Hid (i ≤ L ∧ kq = L + 1 - i) ∧ Hid (∃ Y : List Int, Y.length = L ∧ PS w w.heap.size w2.heap.size w.heap.size w4.heap.size p u (.slice A3 L c3) vb ev (putR p) (putL p) Y wr))
  case atStart => exact ⟨0, rfl, Lib.hid ⟨by omega, by omega⟩, Lib.hid ⟨p.data, HL.out.symm, HPS.out⟩⟩
  case round =>
    obtain ⟨i, rfl, HI, HY⟩ := hrel
    obtain ⟨Y, hYl, hPS⟩ := HY.out
    have HYL := Lib.hid hYl
    have HS := Lib.hid hPS
    clear HY hYl hPS
    have s10 : wr.cell? ⟨w2.heap.size, 10, none⟩ = some (.slice A3 L c3) := (blk_cell HS.out.own 10).trans rfl
    by_cases hi : i < L
    · obtain ⟨b, c, e3, hbB, cur, hc, hcl⟩ := HS.out.ob.ptr (by intro e; have := HYL.out; rw [e] at this; simp at this; omega)
      obtain ⟨rfl, rfl⟩ : A3 = some ⟨b, 0, none⟩ ∧ c3 = c := by cases e3; exact ⟨rfl, rfl⟩
      obtain ⟨x, hx⟩ : ∃ x, Y[i]? = some x := ⟨Y[i]'(by have := HYL.out; omega), List.getElem?_eq_getElem _⟩
      have hxb := HS.out.ob.2.1 x (List.mem_of_getElem? hx)
      have y0 : wr.cell? ⟨b, i, none⟩ = some (.int .u8 x) := hcl i x hx
      have y1 := blk_frozen hc i
      obtain ⟨z, hz⟩ : ∃ z, z = 255 - x := ⟨_, rfl⟩
      have e1 : IntKind.u8.wrap (255 - x) = z := by rw [IntKind.wrap_u8']; omega
      have e2 : (255 - x) % 256 = z := by omega
      have HS2 : Hid (∃ Y : List Int, Y.length = L ∧ PS w w.heap.size w2.heap.size w.heap.size w4.heap.size p u (.slice (some ⟨b, 0, none⟩) L c3) vb ev (putR p) (putL p) Y (wr.drew.setCell ⟨b, i, none⟩ (.int .u8 z))) := Lib.hid ⟨Y.set i z, by rw [List.length_set]; exact HYL.out, HS.out.drew.set i (by have := HYL.out; omega) z (by omega)⟩
      have hi' : (i : Int) < (L : Int) := by omega
      clear e3 hbB hc hcl hx hxb hz
      go_upto_region 6 with (fail)
      refine start_ (n := 11) (S := fun w' => w'.cell? ⟨w2.heap.size, 10, none⟩ = some (.slice (some ⟨b, 0, none⟩) L c3) ∧ w'.cell? ⟨b, i, none⟩ = some (.int .u8 x) ∧ w'.frozen? ⟨b, i, none⟩ = false) (ds := [10]) #[false, false, false, false, false, false, false, false, false, false, false] (by kernel_rfl) rfl rfl ⟨s10, y0, y1⟩ (fun hHeld => ?_)
      refine pure_ (i := 0) (N := some 22) (v := ?_) (a' := ?_) #[true, false, false, false, false, false, false, false, false, false, false] rfl rfl (by kernel_rfl) (fun _ _ _ h => h) (Or.inl ⟨by rfl, ?_⟩) ?_ ?_
      rotate_left
      · intro w'
        go_simp
        with_reducible rfl
      rotate_left
      · simp only [Act.put, List.setIfInBounds_toArray, List.set_cons_zero, List.set_cons_succ, i64_w, i32_w]
        rfl
      refine take_ (i := 1) (N := some 23) (v := ?_) (a' := ?_) #[true, true, false, false, false, false, false, false, false, false, false] rfl rfl (by kernel_rfl) (fun _ _ _ h => h) (Or.inl ⟨by rfl, ?_⟩) hHeld ?_ ?_
      rotate_left
      · rintro w' ⟨s0, s1, s2⟩
        go_simp
        with_reducible rfl
      rotate_left
      · simp only [Act.put, List.setIfInBounds_toArray, List.set_cons_zero, List.set_cons_succ, i64_w, i32_w]
        rfl
      refine pure_ (i := 2) (N := some 24) (v := ?_) (a' := ?_) #[true, true, true, false, false, false, false, false, false, false, false] rfl rfl (by kernel_rfl) (fun _ _ _ h => h) (Or.inl ⟨by rfl, ?_⟩) ?_ ?_
      rotate_left
      · intro w'
        go_simp
        with_reducible rfl
      rotate_left
      · simp only [Act.put, List.setIfInBounds_toArray, List.set_cons_zero, List.set_cons_succ, i64_w, i32_w]
        rfl
      refine pure_ (i := 3) (N := some 25) (v := ?_) (a' := ?_) #[true, true, true, true, false, false, false, false, false, false, false] rfl rfl (by kernel_rfl) (fun _ _ _ h => h) (Or.inl ⟨by rfl, ?_⟩) ?_ ?_
      rotate_left
      · intro w'
        go_simp
        with_reducible rfl
      rotate_left
      · simp only [Act.put, List.setIfInBounds_toArray, List.set_cons_zero, List.set_cons_succ, i64_w, i32_w]
        rfl
      refine take_ (i := 4) (N := some 26) (v := ?_) (a' := ?_) #[true, true, true, true, true, false, false, false, false, false, false] rfl rfl (by kernel_rfl) (fun _ _ _ h => h) (Or.inl ⟨by rfl, ?_⟩) hHeld ?_ ?_
      rotate_left
      · rintro w' ⟨s0, s1, s2⟩
        go_simp
        with_reducible rfl
      rotate_left
      · simp only [Act.put, List.setIfInBounds_toArray, List.set_cons_zero, List.set_cons_succ, i64_w, i32_w]
        rfl
      refine pure_ (i := 5) (N := some 27) (v := ?_) (a' := ?_) #[true, true, true, true, true, true, false, false, false, false, false] rfl rfl (by kernel_rfl) (fun _ _ _ h => h) (Or.inl ⟨by rfl, ?_⟩) ?_ ?_
      rotate_left
      · intro w'
        go_simp
        with_reducible rfl
      rotate_left
      · simp only [Act.put, List.setIfInBounds_toArray, List.set_cons_zero, List.set_cons_succ, i64_w, i32_w]
        rfl
      refine pure_ (i := 6) (N := some 28) (v := ?_) (a' := ?_) #[true, true, true, true, true, true, true, false, false, false, false] rfl rfl (by kernel_rfl) (fun _ _ _ h => h) (Or.inl ⟨by rfl, ?_⟩) ?_ ?_
      rotate_left
      · intro w'
        go_simp
        with_reducible rfl
      rotate_left
      · simp only [Act.put, List.setIfInBounds_toArray, List.set_cons_zero, List.set_cons_succ, i64_w, i32_w]
        rfl
      refine take_ (i := 7) (N := some 29) (v := ?_) (a' := ?_) #[true, true, true, true, true, true, true, true, false, false, false] rfl rfl (by kernel_rfl) (fun _ _ _ h => h) (Or.inl ⟨by rfl, ?_⟩) hHeld ?_ ?_
      rotate_left
      · rintro w' ⟨s0, s1, s2⟩
        go_simp
        with_reducible rfl
      rotate_left
      · simp only [Act.put, List.setIfInBounds_toArray, List.set_cons_zero, List.set_cons_succ, i64_w, i32_w]
        rfl
      refine pure_ (i := 8) (N := some 30) (v := ?_) (a' := ?_) #[true, true, true, true, true, true, true, true, true, false, false] rfl rfl (by kernel_rfl) (fun _ _ _ h => h) (Or.inl ⟨by rfl, ?_⟩) ?_ ?_
      rotate_left
      · intro w'
        go_simp
        with_reducible rfl
      rotate_left
      · simp only [Act.put, List.setIfInBounds_toArray, List.set_cons_zero, List.set_cons_succ, i64_w, i32_w]
        rfl
      refine pure_ (i := 9) (N := some 31) (v := ?_) (a' := ?_) #[true, true, true, true, true, true, true, true, true, true, false] rfl rfl (by kernel_rfl) (fun _ _ _ h => h) (Or.inl ⟨by rfl, ?_⟩) ?_ ?_
      rotate_left
      · intro w'
        go_simp
        with_reducible rfl
      rotate_left
      · simp only [Act.put, List.setIfInBounds_toArray, List.set_cons_zero, List.set_cons_succ, i64_w, i32_w]
        rfl
      refine last_ (i := 10) (N := none) #[true, true, true, true, true, true, true, true, true, true, true] rfl rfl (by kernel_rfl) (by decide) (fun K hK => ?_)
      refine skip_ (by rfl) rfl (w1 := wr.drew.setCell ⟨b, i, none⟩ (.int .u8 z)) (by go_simp) ?_
      refine hK.out _ _ ?_
      clear hK K hHeld
      refine done_ (by kernel_rfl) ?_
      clear HS s10 y0 y1 e1 e2 hi'
      generalize wr.drew.setCell ⟨b, i, none⟩ (.int .u8 z) = w7 at HS2 ⊢
      go_wp2
      go_roundg (L - i)
      case measure => have := HI.out; omega
      case rel => exact ⟨i + 1, by go_num, Lib.hid ⟨by omega, by omega⟩, HS2⟩
    · go_upto_region 7 with (fail)
      clear s10
      go_upto_region 8 with (first
        | ((with_reducible refine gate_dst (N := 32) rfl ?_); refine wp_ldpk rfl (.tmp 1) rfl rfl HS.out.pk ?_)
        | (go_at_call 10; refine (rcheck_calls p u _ (HP.out.at1 HS.out.be) HPB.out).mono ?_; rw [HN.out]; rintro e w8 ⟨rfl, hb⟩; have H8 : Hid (PkAt w8 w.heap.size p u ∧ OB w4.heap.size w8 vb (putL p) ∧ ErR w8 ev (putR p) ∧ Below w.heap.size w w8) := Lib.hid ⟨HS.out.pk.below hb, HS.out.bb.below hb, ErR_below hb HS.out.er, HS.out.be.trans (hb.mono HS.out.be.size)⟩; clear hb))
      clear HS
      go_upto_region 10 with (first
        | (go_at_call 7
           refine (Tells.tells.calls ev (putR p) n putN true _ H8.out.2.2.1 (Glob_below HG.out H8.out.2.2.2) (by rw [← HN.out]; exact tells_put p)).mono ?_
           rintro e w9 ⟨rfl, hb⟩
           have H9 : Hid (SB w w.heap.size p u w9 ∧ OB w4.heap.size w9 vb (putL p)) := Lib.hid ⟨⟨H8.out.1.below hb, H8.out.2.2.2.trans (hb.mono H8.out.2.2.2.size)⟩, H8.out.2.1.below hb⟩
           clear hb H8))
      by_cases h0 : n = 0
      · subst h0
        obtain ⟨A9, c9, rfl, _⟩ := H9.out.2.val
        obtain ⟨lb, hlb⟩ : ∃ lb, lb = (putL p).length := ⟨_, rfl⟩
        obtain ⟨s, hs⟩ : ∃ s, s = strOfNums (putL p) := ⟨_, rfl⟩
        have HSS : Hid (strOfNums (putL p) = s) := Lib.hid hs.symm
        rw [← hlb] at H9 ⊢
        have hcs : (s.toList == s.toList) = true := by simp
        clear hlb hs
        go_upto_region 12 with (fail)
        refine start_ (n := 10) (S := fun w' => SB w w.heap.size p u w' ∧ OB w4.heap.size w' (.slice A9 lb c9) (putL p)) (ds := []) #[false, false, false, false, false, false, false, false, false, false] (by kernel_rfl) rfl rfl ⟨H9.out.1.drew, H9.out.2.below (Below.refl _ _).drew⟩ (fun hHeld => ?_)
        refine pure_ (i := 0) (N := some 46) (v := ?_) (a' := ?_) #[true, false, false, false, false, false, false, false, false, false] rfl rfl (by kernel_rfl) (fun _ _ _ h => h) (Or.inl ⟨by rfl, ?_⟩) ?_ ?_
        rotate_left
        · intro w'
          go_simp
          with_reducible rfl
        rotate_left
        · simp only [Act.put, List.setIfInBounds_toArray, List.set_cons_zero, List.set_cons_succ, i64_w, i32_w]
          rfl
        refine take_ (i := 1) (N := some 47) (v := .string s) #[true, true, false, false, false, false, false, false, false, false] rfl rfl (by kernel_rfl) (fun _ _ _ h => h) (Or.inl ⟨by rfl, fun w' hs => run_cnv (.tmp 46) rfl rfl (HSS.out ▸ hs.2.rb.rdt.str)⟩) hHeld rfl ?_
        refine norm_ (a' := ?_) ?_ ?_
        rotate_left
        · show Act.put _ (some 47) _ = _
          simp only [Act.put, List.setIfInBounds_toArray, List.set_cons_zero, List.set_cons_succ, i64_w, i32_w]
          rfl
        refine take_ (i := 2) (N := some 48) (v := pkV p u) #[true, true, true, false, false, false, false, false, false, false] rfl rfl (by kernel_rfl) (fun _ _ _ h => h) (Or.inl ⟨by rfl, fun w' hs => run_ldpk (.tmp 1) rfl rfl hs.1.P⟩) hHeld rfl ?_
        refine norm_ (a' := ?_) ?_ ?_
        rotate_left
        · show Act.put _ (some 48) _ = _
          simp only [Act.put, List.setIfInBounds_toArray, List.set_cons_zero, List.set_cons_succ, i64_w, i32_w]
          rfl
        refine one_ (i := 3) (N := some 49) #[true, true, true, true, false, false, false, false, false, false] rfl rfl (by kernel_rfl) (by decide) (fun K hK => ?_)
        refine call_ 13 #[pkV p u] (by rfl) rfl ?_ ?_
        · have he := enters_ (P := Tryd.prog) Tryd.func13 (by kernel_rfl) rfl #[pkV p u] w9.drew
          unfold execOp
          simp [resolve, Deferred.ofValue, invoke, Act.eval, he]
        refine (rput_calls p u w9.drew (HP.out.at1 hHeld.1.B) HN.out).mono ?_
        rintro e w10 ⟨v10, rfl, ho, hb⟩
        refine ⟨_, rfl, ?_⟩
        have hH10x := And.intro (hHeld.1.below hb) (hHeld.2.below hb)
        have hs10 := ho.rb.rdt.str
        rw [HSS.out] at hs10
        clear ho
        clear hb
        refine hK.out _ _ hH10x (fun hH10 => ?_)
        clear hK K hHeld
        refine norm_ (a' := ?_) ?_ ?_
        rotate_left
        · show Act.put _ (some 49) _ = _
          simp only [Act.put, List.setIfInBounds_toArray, List.set_cons_zero, List.set_cons_succ, i64_w, i32_w]
          rfl
        refine one_ (i := 4) (N := some 50) #[true, true, true, true, true, false, false, false, false, false] rfl rfl (by kernel_rfl) (by decide) (fun K hK => ?_)
        refine value_ (by rfl) rfl (run_cnv (.tmp 49) rfl rfl hs10) ?_
        refine hK.out _ _ hH10 (fun _ => ?_)
        clear hK K
        refine norm_ (a' := ?_) ?_ ?_
        rotate_left
        · show Act.put _ (some 50) _ = _
          simp only [Act.put, List.setIfInBounds_toArray, List.set_cons_zero, List.set_cons_succ, i64_w, i32_w]
          rfl
        refine pure_ (i := 5) (N := some 51) (v := ?_) (a' := ?_) #[true, true, true, true, true, true, false, false, false, false] rfl rfl (by kernel_rfl) (fun _ _ _ h => h) (Or.inl ⟨by rfl, ?_⟩) ?_ ?_
        rotate_left
        · intro w'
          go_simp
          with_reducible rfl
        rotate_left
        · simp only [Act.put, List.setIfInBounds_toArray, List.set_cons_zero, List.set_cons_succ, i64_w, i32_w]
          rfl
        refine pure_ (i := 6) (N := some 52) (v := ?_) (a' := ?_) #[true, true, true, true, true, true, true, false, false, false] rfl rfl (by kernel_rfl) (fun _ _ _ h => h) (Or.inl ⟨by rfl, ?_⟩) ?_ ?_
        rotate_left
        · intro w'
          go_simp
          with_reducible rfl
        rotate_left
        · simp only [Act.put, List.setIfInBounds_toArray, List.set_cons_zero, List.set_cons_succ, i64_w, i32_w]
          rfl
        refine one_ (i := 7) (N := some 53) #[true, true, true, true, true, true, true, true, false, false] rfl rfl (by kernel_rfl) (by decide) (fun K hK => ?_)
        refine call_ 11 #[] (by rfl) rfl ?_ ?_
        · have he := enters_ (P := Tryd.prog) Tryd.func11 (by kernel_rfl) rfl #[] w10
          unfold execOp
          simp [resolve, Deferred.ofValue, invoke, Act.eval, he]
        refine (awake_calls w10).mono ?_
        rintro e w11 ⟨rfl, hb⟩
        refine ⟨_, rfl, ?_⟩
        have hH11x := And.intro (hH10.1.below hb) (hH10.2.below hb)
        clear hb
        refine hK.out _ _ hH11x (fun hH11 => ?_)
        clear hK K hH10
        refine norm_ (a' := ?_) ?_ ?_
        rotate_left
        · show Act.put _ (some 53) _ = _
          simp only [Act.put, List.setIfInBounds_toArray, List.set_cons_zero, List.set_cons_succ, i64_w, i32_w]
          rfl
        refine pure_ (i := 8) (N := some 54) (v := ?_) (a' := ?_) #[true, true, true, true, true, true, true, true, true, false] rfl rfl (by kernel_rfl) (fun _ _ _ h => h) (Or.inl ⟨by rfl, ?_⟩) ?_ ?_
        rotate_left
        · intro w'
          go_simp
          with_reducible rfl
        rotate_left
        · simp only [Act.put, List.setIfInBounds_toArray, List.set_cons_zero, List.set_cons_succ, i64_w, i32_w]
          rfl
        refine pure_ (i := 9) (N := some 2) (v := ?_) (a' := ?_) #[true, true, true, true, true, true, true, true, true, true] rfl rfl (by kernel_rfl) (fun _ _ _ h => h) (Or.inl ⟨by rfl, ?_⟩) ?_ ?_
        rotate_left
        · intro w'
          go_simp
          with_reducible rfl
        rotate_left
        · simp only [Act.put, List.setIfInBounds_toArray, List.set_cons_zero, List.set_cons_succ, i64_w, i32_w]
          rfl
        refine done_ (by kernel_rfl) ?_
        go_wp2
        go_ret
        exact ⟨rfl, hH11.1.B⟩
      · have f1 : (n != 0) = true := bne_iff_ne.2 h0
        have f2 : (n == 0) = false := beq_eq_false_iff_ne.2 h0
        have HE : Hid (putL p = []) := Lib.hid (if_neg (by rw [HN.out]; exact h0))
        rw [HE.out] at H9
        obtain ⟨A9, c9, rfl, _⟩ := H9.out.2.val
        clear h0
        go_wp2_with (first
          | (go_at_call 11; refine (awake_calls _).mono ?_; rintro e w14 ⟨rfl, hb⟩; have H14 := Lib.hid (H9.out.1.below hb).B; clear hb))
        go_ret
        exact ⟨rfl, H14.out⟩
end Go.Proofs.YtfcofokbhhnfkaaDoor.Byt
