/- geyserref16's all by its contract. Conditions: numbers of 1, 2, 4 or 5 bytes that are none below 0. Printed by mkrall.py. -/
import Derived.Test.YtfcofokbhhnfkaaDoorRlay
namespace Go.Proofs.YtfcofokbhhnfkaaDoor.Byt
set_option linter.unusedSimpArgs false
set_option linter.unusedVariables false
open Go.RowKit Go.Deep Go.Proofs.YtfcofokbhhnfkaaDoor.Er Go.Proofs.YtfcofokbhhnfkaaDoorW.PrintWords Go.Proofs.YtfcofokbhhnfkaaDoorW.PrintLast Go.Proofs.YtfcofokbhhnfkaaDoorW.PrintMore
def nmB (x : Nm) : List Int := beI x.sz.toNat x.n
def nmsB (L : List Nm) : List Int := L.flatMap nmB
def NmOk (x : Nm) : Prop := (0 ≤ x.n ∧ x.n ≤ 9223372036854775807) ∧ (x.sz = 1 ∨ x.sz = 2 ∨ x.sz = 4 ∨ x.sz = 5)
theorem nmsB_snoc {L : List Nm} {i : Nat} {x : Nm} (h : L[i]? = some x) : nmsB (L.take (i + 1)) = nmsB (L.take i) ++ nmB x := by
  unfold nmsB
  rw [List.take_add_one, h, List.flatMap_append]
  simp
theorem nmsB_len : ∀ (L : List Nm), (∀ x ∈ L, NmOk x) → (nmsB L).length ≤ 5 * L.length
  | [], _ => by simp [nmsB]
  | x :: L, h => by
    have h1 := nmsB_len L (fun y hy => h y (List.mem_cons_of_mem _ hy))
    have h2 := (h x List.mem_cons_self).2
    show (nmB x ++ nmsB L).length ≤ _
    rw [List.length_append, List.length_cons]
    unfold nmB
    rw [beI_len]
    omega
set_option maxHeartbeats 8000000 in
set_option maxRecDepth 100000 in
theorem rall_calls (w : World) (g c : Nat) (L : List Nm) (hg : NumAt w g L) (hl : L.length ≤ 1000) (hok : ∀ x ∈ L, NmOk x) :
    Calls Tryd.prog 47 #[.slice (some ⟨g, 0, none⟩) L.length c] w fun e w' => ∃ v', e = .returned v' ∧ OB w.heap.size w' v' (nmsB L) ∧ Below w.heap.size w w' := by
  have HG := Lib.hid hg
  have HOK := Lib.hid hok
  obtain ⟨m, hm⟩ : ∃ m, m = L.length := ⟨_, rfl⟩
  have HM := Lib.hid hm
  rw [← hm] at hl ⊢
  clear hg hm hok
  go_enter Tryd.func47, Tryd.ntmps47
  have H0 : Hid (OB w.heap.size (w.alloc (.cells #[] 5)) (.slice (some ⟨w.heap.size, 0, none⟩) 0 0) [] ∧ Below w.heap.size w (w.alloc (.cells #[] 5))) := Lib.hid ⟨⟨⟨rfl, .inr ⟨_, 0, #[], rfl, Nat.le_refl _, heap_new _ _, Nat.le_refl _, Nat.zero_le _, rfl, rfl⟩⟩, by simp, by simp⟩, (Below.refl _ _).alloc (Nat.le_refl _) _⟩
  go_wp2
  go_loopg [3, 4] (m + 1) (fun kq v3 v4 wr => ∃ (i : Nat), v4 = .int .i64 i ∧ Hid (i ≤ m ∧ kq = m + 1 - i) ∧ Hid (OB w.heap.size wr v3 (nmsB (L.take i)) ∧ Below w.heap.size w wr))
  case atStart => exact ⟨0, rfl, Lib.hid ⟨by omega, by omega⟩, H0⟩
  case round =>
    obtain ⟨i, rfl, HI, HA⟩ := hrel
    by_cases hi : i < m
    · obtain ⟨x, hx⟩ : ∃ x, L[i]? = some x := ⟨L[i]'(by rw [← HM.out]; exact hi), List.getElem?_eq_getElem _⟩
      have hxo := HOK.out x (List.mem_of_getElem? hx)
      have HNX := Lib.hid (nmsB_snoc hx)
      have HCE0 : ∀ w' : World, Below w.heap.size w w' → w'.cell? ⟨g, i * 4, none⟩ = some (.int .i64 x.n) ∧ w'.cell? ⟨g, i * 4 + 1, none⟩ = some (.int .i64 x.sz) := fun w' hb => ⟨(HG.out.below hb).cell hx 0 (by decide), (HG.out.below hb).cell hx 1 (by decide)⟩
      have hlen := nmsB_len (L.take i) (fun y hy => HOK.out y (List.mem_of_mem_take hy))
      rw [List.length_take] at hlen
      obtain ⟨n, sz, lo, hi_⟩ := x
      simp only [nmB] at HNX
      dsimp only at HCE0 HNX
      obtain ⟨hn, hs⟩ := hxo
      dsimp only at hn hs
      obtain ⟨s, rfl⟩ : ∃ s : Nat, sz = (s : Int) := ⟨sz.toNat, by omega⟩
      rw [Int.toNat_natCast] at HNX
      have HSN : Hid (True ∧ (s = 1 ∨ s = 2 ∨ s = 4 ∨ s = 5) ∧ (0 ≤ n ∧ n ≤ 9223372036854775807)) := Lib.hid ⟨trivial, by omega, hn⟩
      have HCE := Lib.hid HCE0
      obtain ⟨X, hX⟩ : ∃ X, X = nmsB (L.take i) := ⟨_, rfl⟩
      rw [← hX] at HA HNX hlen
      obtain ⟨A3, c3, hv3, _⟩ := HA.out.1.val
      obtain ⟨L3, hL3⟩ : ∃ L3, L3 = X.length := ⟨_, rfl⟩
      have HX : Hid (True ∧ L3 = X.length) := Lib.hid ⟨trivial, hL3⟩
      have HXL : Hid (X.length ≤ 5000) := Lib.hid (by omega)
      rw [← hL3] at hv3
      subst hv3
      have hi' : (i : Int) < (m : Int) := by omega
      clear hx hn hs HCE0 hX hL3 hlen
      go_upto_region 5 with (fail)
      refine start_ (n := 14) (S := fun w' => w'.cell? ⟨g, i * 4, none⟩ = some (.int .i64 n) ∧ w'.cell? ⟨g, i * 4 + 1, none⟩ = some (.int .i64 (s : Int)) ∧ OB w.heap.size w' (.slice A3 L3 c3) X ∧ Below w.heap.size w w') (ds := [12]) #[false, false, false, false, false, false, false, false, false, false, false, false, false, false] (by kernel_rfl) rfl rfl ⟨(HCE.out _ HA.out.2.drew).1, (HCE.out _ HA.out.2.drew).2, HA.out.1.below (Below.refl _ _).drew, HA.out.2.drew⟩ (fun hHeld => ?_)
      refine pure_ (i := 0) (N := some 12) (v := ?_) (a' := ?_) #[true, false, false, false, false, false, false, false, false, false, false, false, false, false] rfl rfl (by kernel_rfl) (fun _ _ _ h => h) (Or.inl ⟨by rfl, ?_⟩) ?_ ?_
      rotate_left
      · intro w'
        go_simp
        with_reducible rfl
      rotate_left
      · simp only [Act.put, List.setIfInBounds_toArray, List.set_cons_zero, List.set_cons_succ, i64_w, i32_w]
        rfl
      refine pure_ (i := 1) (N := some 13) (v := ?_) (a' := ?_) #[true, true, false, false, false, false, false, false, false, false, false, false, false, false] rfl rfl (by kernel_rfl) (fun _ _ _ h => h) (Or.inl ⟨by rfl, ?_⟩) ?_ ?_
      rotate_left
      · intro w'
        go_simp
        with_reducible rfl
      rotate_left
      · simp only [Act.put, List.setIfInBounds_toArray, List.set_cons_zero, List.set_cons_succ, i64_w, i32_w]
        rfl
      refine pure_ (i := 2) (N := some 14) (v := ?_) (a' := ?_) #[true, true, true, false, false, false, false, false, false, false, false, false, false, false] rfl rfl (by kernel_rfl) (fun _ _ _ h => h) (Or.inl ⟨by rfl, ?_⟩) ?_ ?_
      rotate_left
      · intro w'
        go_simp
        with_reducible rfl
      rotate_left
      · simp only [Act.put, List.setIfInBounds_toArray, List.set_cons_zero, List.set_cons_succ, i64_w, i32_w]
        rfl
      refine pure_ (i := 3) (N := some 15) (v := ?_) (a' := ?_) #[true, true, true, true, false, false, false, false, false, false, false, false, false, false] rfl rfl (by kernel_rfl) (fun _ _ _ h => h) (Or.inl ⟨by rfl, ?_⟩) ?_ ?_
      rotate_left
      · intro w'
        go_simp
        with_reducible rfl
      rotate_left
      · simp only [Act.put, List.setIfInBounds_toArray, List.set_cons_zero, List.set_cons_succ, i64_w, i32_w]
        rfl
      refine pure_ (i := 4) (N := some 16) (v := ?_) (a' := ?_) #[true, true, true, true, true, false, false, false, false, false, false, false, false, false] rfl rfl (by kernel_rfl) (fun _ _ _ h => h) (Or.inl ⟨by rfl, ?_⟩) ?_ ?_
      rotate_left
      · intro w'
        go_simp
        with_reducible rfl
      rotate_left
      · simp only [Act.put, List.setIfInBounds_toArray, List.set_cons_zero, List.set_cons_succ, i64_w, i32_w]
        rfl
      refine take_ (i := 5) (N := some 17) (v := ?_) (a' := ?_) #[true, true, true, true, true, true, false, false, false, false, false, false, false, false] rfl rfl (by kernel_rfl) (fun _ _ _ h => h) (Or.inl ⟨by rfl, ?_⟩) hHeld ?_ ?_
      rotate_left
      · rintro w' ⟨s0, s1, s2, s3⟩
        go_simp
        with_reducible rfl
      rotate_left
      · simp only [Act.put, List.setIfInBounds_toArray, List.set_cons_zero, List.set_cons_succ, i64_w, i32_w]
        rfl
      refine pure_ (i := 6) (N := some 18) (v := ?_) (a' := ?_) #[true, true, true, true, true, true, true, false, false, false, false, false, false, false] rfl rfl (by kernel_rfl) (fun _ _ _ h => h) (Or.inl ⟨by rfl, ?_⟩) ?_ ?_
      rotate_left
      · intro w'
        go_simp
        with_reducible rfl
      rotate_left
      · simp only [Act.put, List.setIfInBounds_toArray, List.set_cons_zero, List.set_cons_succ, i64_w, i32_w]
        rfl
      refine pure_ (i := 7) (N := some 19) (v := ?_) (a' := ?_) #[true, true, true, true, true, true, true, true, false, false, false, false, false, false] rfl rfl (by kernel_rfl) (fun _ _ _ h => h) (Or.inl ⟨by rfl, ?_⟩) ?_ ?_
      rotate_left
      · intro w'
        go_simp
        with_reducible rfl
      rotate_left
      · simp only [Act.put, List.setIfInBounds_toArray, List.set_cons_zero, List.set_cons_succ, i64_w, i32_w]
        rfl
      refine pure_ (i := 8) (N := some 20) (v := ?_) (a' := ?_) #[true, true, true, true, true, true, true, true, true, false, false, false, false, false] rfl rfl (by kernel_rfl) (fun _ _ _ h => h) (Or.inl ⟨by rfl, ?_⟩) ?_ ?_
      rotate_left
      · intro w'
        go_simp
        with_reducible rfl
      rotate_left
      · simp only [Act.put, List.setIfInBounds_toArray, List.set_cons_zero, List.set_cons_succ, i64_w, i32_w]
        rfl
      refine pure_ (i := 9) (N := some 21) (v := ?_) (a' := ?_) #[true, true, true, true, true, true, true, true, true, true, false, false, false, false] rfl rfl (by kernel_rfl) (fun _ _ _ h => h) (Or.inl ⟨by rfl, ?_⟩) ?_ ?_
      rotate_left
      · intro w'
        go_simp
        with_reducible rfl
      rotate_left
      · simp only [Act.put, List.setIfInBounds_toArray, List.set_cons_zero, List.set_cons_succ, i64_w, i32_w]
        rfl
      refine take_ (i := 10) (N := some 22) (v := ?_) (a' := ?_) #[true, true, true, true, true, true, true, true, true, true, true, false, false, false] rfl rfl (by kernel_rfl) (fun _ _ _ h => h) (Or.inl ⟨by rfl, ?_⟩) hHeld ?_ ?_
      rotate_left
      · rintro w' ⟨s0, s1, s2, s3⟩
        go_simp
        with_reducible rfl
      rotate_left
      · simp only [Act.put, List.setIfInBounds_toArray, List.set_cons_zero, List.set_cons_succ, i64_w, i32_w]
        rfl
      refine one_ (i := 11) (N := some 23) #[true, true, true, true, true, true, true, true, true, true, true, true, false, false] rfl rfl (by kernel_rfl) (by decide) (fun K hK => ?_)
      refine call_ 48 #[.int .i64 n, .int .i64 (s : Int)] (by rfl) rfl ?_ ?_
      · have he := enters_ (P := Tryd.prog) Tryd.func48 (by kernel_rfl) rfl #[.int .i64 n, .int .i64 (s : Int)] wr.drew
        unfold execOp
        simp [resolve, Deferred.ofValue, invoke, Act.eval, he]
      refine (rlay_calls s n wr.drew HSN.out.2.2 HSN.out.2.1).mono ?_
      rintro e w6 ⟨v6, rfl, ho, hb⟩
      refine ⟨_, rfl, ?_⟩
      obtain ⟨A6, c6, rfl, _⟩ := ho.val
      have hB6 : Below w.heap.size w w6 := hHeld.2.2.2.trans (hb.mono hHeld.2.2.2.size)
      have HL6 := Lib.hid ho
      refine hK.out _ _ ⟨(HCE.out _ hB6).1, (HCE.out _ hB6).2, hHeld.2.2.1.below hb, hB6⟩ (fun hHeld6 => ?_)
      clear hK K hHeld ho hb hB6
      refine norm_ (a' := ?_) ?_ ?_
      rotate_left
      · show Act.put _ (some 23) _ = _
        simp only [Act.put, List.setIfInBounds_toArray, List.set_cons_zero, List.set_cons_succ, i64_w, i32_w]
        rfl
      refine last_ (i := 12) (N := some 24) #[true, true, true, true, true, true, true, true, true, true, true, true, true, false] rfl rfl (by kernel_rfl) (by decide) (fun K hK => ?_)
      obtain ⟨A7, c7, w7, hr7, ho7, hf7⟩ := hHeld6.2.2.1.append hHeld6.2.2.2.size (HL6.out.rb.rd HL6.out.2.2) (by intro e; have e2 := congrArg List.length e; rw [beI_len] at e2; have e3 := HSN.out.2.1; simp only [List.length_nil] at e2; omega) (by have e1 := HXL.out; rw [beI_len]; have e3 := HSN.out.2.1; omega) 22
      refine value_ (by rfl) rfl (run_app rfl rfl rfl hr7) ?_
      have HO7 : Hid (OB w.heap.size w7 (.slice A7 (X ++ beI s n).length c7) (X ++ beI s n) ∧ Below w.heap.size w w7) := Lib.hid ⟨ho7, hHeld6.2.2.1.bel hf7 hHeld6.2.2.2 hHeld6.2.2.2.size⟩
      refine hK.out _ _ ?_
      clear hK K hr7 ho7 hf7 hHeld6
      refine norm_ (a' := ?_) ?_ ?_
      rotate_left
      · show Act.put _ (some 24) _ = _
        simp only [Act.put, List.setIfInBounds_toArray, List.set_cons_zero, List.set_cons_succ, i64_w, i32_w]
        rfl
      refine pure_ (i := 13) (N := some 3) (v := ?_) (a' := ?_) #[true, true, true, true, true, true, true, true, true, true, true, true, true, true] rfl rfl (by kernel_rfl) (fun _ _ _ h => h) (Or.inl ⟨by rfl, ?_⟩) ?_ ?_
      rotate_left
      · intro w'
        go_simp
        with_reducible rfl
      rotate_left
      · simp only [Act.put, List.setIfInBounds_toArray, List.set_cons_zero, List.set_cons_succ, i64_w, i32_w]
        rfl
      refine done_ (by kernel_rfl) ?_
      have HA8 : Hid (OB w.heap.size w7 (.slice A7 (X.length + (beI s n).length) c7) (nmsB (L.take (i + 1))) ∧ Below w.heap.size w w7) := Lib.hid ⟨by rw [HNX.out, ← List.length_append]; exact HO7.out.1, HO7.out.2⟩
      clear HO7 HA HL6 HCE
      go_wp2
      go_roundg (m - i)
      case measure => have := HI.out; omega
      case rel => exact ⟨i + 1, by go_num, Lib.hid ⟨by omega, by omega⟩, HA8⟩
    · have HE : Hid (L.take i = L) := Lib.hid (List.take_of_length_le (by have := HM.out; have := HI.out; omega))
      go_wp2
      go_ret
      exact ⟨_, rfl, by rw [← HE.out]; exact HA.out.1, HA.out.2⟩
end Go.Proofs.YtfcofokbhhnfkaaDoor.Byt
