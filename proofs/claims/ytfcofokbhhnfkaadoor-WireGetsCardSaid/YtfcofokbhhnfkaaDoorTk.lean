/- check.Take by its contract. Conditions: bytes as they may be read. -/
import Derived.Test.YtfcofokbhhnfkaaDoorAdd
import Derived.Lib.Bytes
namespace Go.Proofs.YtfcofokbhhnfkaaDoor.Byt
set_option linter.unusedSimpArgs false
set_option linter.unusedVariables false
open Go.RowKit Go.Deep Go.Proofs.YtfcofokbhhnfkaaDoor.Er Go.Proofs.YtfcofokbhhnfkaaDoorW.PrintWords Go.Proofs.YtfcofokbhhnfkaaDoorW.PrintLast
def er (c : ByteArray) (n : Int) : Option Er := if n = 0 then none else some ([c], n)
def takeN : ByteArray := ⟨#[99, 104, 101, 99, 107, 46, 84, 97, 107, 101]⟩
def takeE (l : List Int) : Int := if l.length < 4 then 2 else if addI (l.take (l.length - 4)) = l then 0 else 6
def takeL (l : List Int) : List Int := if takeE l = 0 then l.take (l.length - 4) else []
theorem bts_inj : ∀ {a b : List Int}, (∀ x ∈ a, 0 ≤ x ∧ x < 256) → (∀ x ∈ b, 0 ≤ x ∧ x < 256) → Lib.bytesOf a = Lib.bytesOf b → a = b := by
  intro a b ha hb h
  have g : ∀ (N : List Int), (∀ x ∈ N, 0 ≤ x ∧ x < 256) → (Lib.bytesOf N).map (fun u : UInt8 => (u.toNat : Int)) = N := by
    intro N hN
    induction N with
    | nil => rfl
    | cons x N ih =>
      have hx := hN x (by simp)
      have h2 := ih (fun y hy => hN y (by simp [hy]))
      show ((UInt8.toNat _ : Nat) : Int) :: (Lib.bytesOf N).map _ = _
      rw [h2]
      congr 1
      simp
      omega
  have := congrArg (List.map (fun u : UInt8 => (u.toNat : Int))) h
  rw [g a ha, g b hb] at this
  exact this
theorem str_inj {a b : List Int} (ha : ∀ x ∈ a, 0 ≤ x ∧ x < 256) (hb : ∀ x ∈ b, 0 ≤ x ∧ x < 256) (h : strOfNums a = strOfNums b) : a = b := by
  have := congrArg ByteArray.toList h
  rw [Lib.strOfNums_toList, Lib.strOfNums_toList] at this
  exact bts_inj ha hb this
theorem str_eq {a b : List Int} (ha : ∀ x ∈ a, 0 ≤ x ∧ x < 256) (hb : ∀ x ∈ b, 0 ≤ x ∧ x < 256) : ((strOfNums a).toList == (strOfNums b).toList) = decide (a = b) := by
  by_cases h : a = b
  · rw [decide_eq_true h, h]; simp
  · rw [decide_eq_false h]
    refine beq_eq_false_iff_ne.2 (fun e => h ?_)
    rw [Lib.strOfNums_toList, Lib.strOfNums_toList] at e
    exact bts_inj ha hb e
theorem RdB.take {D : Nat → Prop} {w : World} {A : Option Addr} {m c : Nat} {l : List Int} (h : RdB D w (.slice A m c) l) (n : Nat) (hn : n ≤ m) : RdB D w (.slice A n c) (l.take n) := by
  obtain ⟨A', c', e, h1, h2, h3, h4⟩ := h
  cases e
  have hl : (l.take n).length = n := by rw [List.length_take]; omega
  refine ⟨A, c, by rw [hl], by rw [hl]; omega, by rw [hl]; omega, fun x hx => h3 x (List.mem_of_mem_take hx), fun hne => ?_⟩
  obtain ⟨a, ea, hD, hc⟩ := h4 (fun e => hne (by rw [e]; simp))
  refine ⟨a, ea, hD, fun j x hj => hc j x ?_⟩
  rw [List.getElem?_take] at hj
  split at hj
  · exact hj
  · cases hj
theorem RdB.lt {D : Nat → Prop} {w : World} {v : Value} {l : List Int} (h : RdB D w v l) : ∀ x ∈ l, 0 ≤ x ∧ x < 256 := by
  obtain ⟨A, c, e, h1, h2, h3, h4⟩ := h
  exact h3
theorem le4_lt (s : Nat) : ∀ x ∈ le4 s, 0 ≤ x ∧ x < 256 := by
  have g : ∀ (n s : Nat), ∀ y ∈ CrcM.nbytes n s, y < 256 := by
    intro n
    induction n with
    | zero => intro s y hy; simp [CrcM.nbytes] at hy
    | succ n ih =>
      intro s y hy
      rcases List.mem_cons.1 (show y ∈ s % 256 :: CrcM.nbytes n (s / 256) from hy) with rfl | hy
      · omega
      · exact ih _ y hy
  intro x hx
  obtain ⟨y, hy, rfl⟩ := List.mem_map.1 hx
  have := g 4 s y hy
  omega
theorem addI_lt {l : List Int} (h : ∀ x ∈ l, 0 ≤ x ∧ x < 256) : ∀ x ∈ addI l, 0 ≤ x ∧ x < 256 := fun x hx => (List.mem_append.1 hx).elim (h x) (le4_lt _ x)
theorem er_some {c : ByteArray} {n : Int} (h : n ≠ 0) : er c n = some ([c], n) := if_neg h
set_option maxHeartbeats 4000000 in
set_option maxRecDepth 100000 in
theorem Take_calls {D : Nat → Prop} (w : World) (v : Value) (l : List Int) (hl : RdB D w v l) (hD : ∀ k, D k → k < w.heap.size) :
    Calls Tryd.prog 30 #[v] w fun e w' => ∃ v' ev, e = .returned (.tuple #[v', ev]) ∧ ErR w' ev (er takeN (takeE l)) ∧ OB w.heap.size w' v' (takeL l) ∧ Below w.heap.size w w' := by
  have HR := Lib.hid hl
  have HD := Lib.hid hD
  obtain ⟨A, c, rfl, hc1, hc2, hlt, _⟩ := hl
  have HLT := Lib.hid hlt
  obtain ⟨m, hm⟩ : ∃ m, m = l.length := ⟨_, rfl⟩
  have HM := Lib.hid (And.intro hm hc2)
  rw [← hm] at HR hc1 hc2 ⊢
  by_cases h4 : m < 4
  · have HE : Hid (takeE l = 2) := Lib.hid (by unfold takeE; rw [if_pos (by omega)])
    have HL : Hid (takeL l = []) := Lib.hid (by unfold takeL; rw [HE.out, if_neg (by decide)])
    rw [HE.out, HL.out]
    clear hm hD hlt
    go_enter Tryd.func30, Tryd.ntmps30
    go_wp2_with (first
      | (go_at_call 19; refine (fault_New.calls _ 2 (er takeN 2) _ rfl).mono ?_; rintro e w2 ⟨ev, rfl, h1, h2⟩; have HE2 := Lib.hid (And.intro h1 h2); clear h1 h2))
    go_ret2
    exact ⟨_, _, rfl, HE2.out.1, OB.nil _ _, HE2.out.2⟩
  · have hcut := cut_to (P := Tryd.prog) 22 5 .i64 (i := (info_parts infoU).choose) Tryd.underlying22 (info_parts infoU).choose_spec.1 A m c ((m : Int) - 4) (by omega) (by omega) hc1
    rw [show ((m : Int) - 4).toNat = m - 4 by omega] at hcut
    have hm4 : ((m : Int) - 4) = ((m - 4 : Nat) : Int) := by omega
    have hlt4 : (l.take (m - 4)).length = m - 4 := by rw [List.length_take]; omega
    have HT4 := Lib.hid hlt4
    have HEQ : Hid (takeE l = if addI (l.take (m - 4)) = l then 0 else 6) := Lib.hid (by unfold takeE; rw [if_neg (by omega), ← hm])
    have HCV : Hid (∀ w', Below w.heap.size w w' → (convert 22 9 (.slice A m c)).run Tryd.prog w' = .ok (.string (strOfNums l)) w') := Lib.hid (fun w' hb => RdB.str (HR.out.keep (fun k hk => hb.block k (HD.out k hk))))
    clear hm hD hlt hlt4
    go_enter Tryd.func30, Tryd.ntmps30
    go_wp2_with (first | (at_builtin; refine wp_copyO w.heap.size rfl (.tmp 9) (.tmp 14) rfl rfl rfl ((HR.out.take (m - 4) (Nat.sub_le _ _)).keep ?c0) (heap_new _ _) (Nat.le_refl _) (by simp) ?_))
    case c0 => exact fun k hk => ((Below.refl _ _).alloc (Nat.le_refl _) _).block k (HD.out k hk)
    rw [show min (m - 4) l.length = m - 4 from (List.length_take ▸ HT4.out)]
    intro A5 c5 w5 hO5 hF5
    have HB5 : Hid (Below w.heap.size w w5) := Lib.hid (hF5.below ((Below.refl _ _).alloc (Nat.le_refl _) _) (by simp) (fun k e => by omega))
    have HO5 := Lib.hid hO5
    clear hO5 hF5
    obtain ⟨s1, hs1⟩ : ∃ s1, s1 = strOfNums l := ⟨_, rfl⟩
    rw [← hs1] at HCV
    go_wp2
    refine start_ (n := 6) (S := fun w' => (convert 22 9 (.slice A m c)).run Tryd.prog w' = .ok (.string s1) w' ∧ OB w.heap.size w' (.slice A5 (m - 4) c5) (l.take (m - 4)) ∧ Below w.heap.size w w') (ds := []) #[false, false, false, false, false, false] (by kernel_rfl) rfl rfl ⟨HCV.out _ HB5.out.drew, HO5.out.below (Below.refl _ _).drew, HB5.out.drew⟩ (fun hHeld => ?_)
    refine pure_ (i := 0) (N := some 16) (v := ?_) (a' := ?_) #[true, false, false, false, false, false] rfl rfl (by kernel_rfl) (fun _ _ _ h => h) (Or.inl ⟨by rfl, ?_⟩) ?_ ?_
    rotate_left
    · intro w'
      go_simp
      with_reducible rfl
    rotate_left
    · simp only [Act.put, List.setIfInBounds_toArray, List.set_cons_zero, List.set_cons_succ, i64_w, i32_w]
      rfl
    refine pure_ (i := 3) (N := some 19) (v := ?_) (a' := ?_) #[true, false, false, true, false, false] rfl rfl (by kernel_rfl) (fun _ _ _ h => h) (Or.inl ⟨by rfl, ?_⟩) ?_ ?_
    rotate_left
    · intro w'
      go_simp
      with_reducible rfl
    rotate_left
    · simp only [Act.put, List.setIfInBounds_toArray, List.set_cons_zero, List.set_cons_succ, i64_w, i32_w]
      rfl
    refine take_ (i := 4) (N := some 20) (v := ?_) (a' := ?_) #[true, false, false, true, true, false] rfl rfl (by kernel_rfl) (fun _ _ _ h => h) (Or.inl ⟨by rfl, ?_⟩) hHeld ?_ ?_
    rotate_left
    · rintro w' ⟨s0, s1_, s2⟩
      go_simp
      with_reducible rfl
    rotate_left
    · simp only [Act.put, List.setIfInBounds_toArray, List.set_cons_zero, List.set_cons_succ, i64_w, i32_w]
      rfl
    refine one_ (i := 1) (N := some 17) #[true, true, false, true, true, false] rfl rfl (by kernel_rfl) (by decide) (fun K hK => ?_)
    refine call_ 27 #[.slice A5 (m - 4) c5] (by rfl) rfl ?_ ?_
    · have he := enters_ (P := Tryd.prog) Tryd.func27 (by kernel_rfl) rfl #[.slice A5 (m - 4) c5] w5.drew
      unfold execOp
      simp [resolve, Deferred.ofValue, invoke, Act.eval, he]
    · refine (Add_calls w5.drew (.slice A5 (m - 4) c5) (l.take (m - 4)) hHeld.2.1.rb.rdlt (fun k hk => hk) (by have := HM.out; rw [List.length_take]; omega)).mono ?_
      rintro e w6 ⟨v6, rfl, hO6, hB6⟩
      refine ⟨_, rfl, ?_⟩
      have HS6 := Lib.hid (And.intro hO6.rb.rdt.str (And.intro (hHeld.2.1.below hB6) (hHeld.2.2.trans (hB6.mono hHeld.2.2.size))))
      clear hO6 hB6
      refine hK.out _ _ ⟨HCV.out _ HS6.out.2.2, HS6.out.2⟩ (fun hHeld6 => ?_)
      clear hK K hHeld
      refine norm_ (a' := ?_) ?_ ?_
      rotate_left
      · show Act.put _ (some 17) _ = _
        simp only [Act.put, List.setIfInBounds_toArray, List.set_cons_zero, List.set_cons_succ, i64_w, i32_w]
        rfl
      refine one_ (i := 2) (N := some 18) #[true, true, true, true, true, false] rfl rfl (by kernel_rfl) (by decide) (fun K hK => ?_)
      refine value_ (by rfl) rfl (w1 := w6) (v := .string (strOfNums (addI (l.take (m - 4))))) (by go_simp; rw [HS6.out.1]; rfl) ?_
      refine hK.out _ _ hHeld6 (fun hHeld6 => ?_)
      clear hK K
      refine norm_ (a' := ?_) ?_ ?_
      rotate_left
      · show Act.put _ (some 18) _ = _
        simp only [Act.put, List.setIfInBounds_toArray, List.set_cons_zero, List.set_cons_succ, i64_w, i32_w]
        rfl
      refine pure_ (i := 5) (N := some 21) (v := ?_) (a' := ?_) #[true, true, true, true, true, true] rfl rfl (by kernel_rfl) (fun _ _ _ h => h) (Or.inl ⟨by rfl, ?_⟩) ?_ ?_
      rotate_left
      · intro w'
        go_simp
        with_reducible rfl
      rotate_left
      · simp only [Act.put, List.setIfInBounds_toArray, List.set_cons_zero, List.set_cons_succ, i64_w, i32_w]
        rfl
      refine done_ (by kernel_rfl) ?_
      clear hHeld6
      have hcmp := str_eq (addI_lt (fun x hx => HLT.out x (List.mem_of_mem_take (i := m - 4) hx))) HLT.out
      have HS7 := Lib.hid HS6.out.2
      by_cases heq : addI (l.take (m - 4)) = l
      · have HE : Hid (takeE l = 0 ∧ takeL l = l.take (m - 4)) := Lib.hid (by
          have hE : takeE l = 0 := by rw [HEQ.out, if_pos heq]
          exact ⟨hE, by unfold takeL; rw [if_pos hE, HM.out.1]⟩)
        rw [decide_eq_true heq] at hcmp
        rw [hcmp, show (!true) = false from rfl]
        generalize strOfNums (addI (l.take (m - 4))) = s2
        generalize strOfNums l = s3
        clear hcmp
        clear HS6 heq HR HCV HO5 HB5 hcut HEQ hs1
        go_wp2
        go_ret2
        exact ⟨_, _, rfl, by rw [HE.out.1]; exact rfl, by rw [HE.out.2]; exact HS7.out.1, HS7.out.2⟩
      · have HE : Hid (takeE l = 6 ∧ takeL l = []) := Lib.hid (by
          have hE : takeE l = 6 := by rw [HEQ.out, if_neg heq]
          exact ⟨hE, by unfold takeL; rw [hE, if_neg (by decide)]⟩)
        rw [decide_eq_false heq] at hcmp
        rw [hcmp, show (!false) = true from rfl]
        generalize strOfNums (addI (l.take (m - 4))) = s2
        generalize strOfNums l = s3
        clear hcmp
        clear HS6 heq HR HCV HO5 HB5 hcut HEQ hs1
        go_wp2_with (first
          | (go_at_call 19; refine (fault_New.calls _ 6 (er takeN 6) _ rfl).mono ?_; rintro e w2 ⟨ev, rfl, h1, h2⟩; have HE2 := Lib.hid (And.intro h1 h2); clear h1 h2))
        go_ret2
        exact ⟨_, _, rfl, by rw [HE.out.1]; exact HE2.out.1, by rw [HE.out.2]; exact OB.nil _ _, HS7.out.2.trans (HE2.out.2.mono HS7.out.2.size)⟩
end Go.Proofs.YtfcofokbhhnfkaaDoor.Byt
