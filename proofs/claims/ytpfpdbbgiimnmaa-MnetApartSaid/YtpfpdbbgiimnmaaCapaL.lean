/- geyserlaw22.MnetCapacity: the law's walk. Conditions: the datagrams as they may come in. -/
import Derived.Test.YtpfpdbbgiimnmaaCapac
namespace Go.Proofs.Ytpfpdbbgiimnmaa.Net
set_option linter.unusedSimpArgs false
set_option linter.unusedVariables false
open Go.RowKit Go.Deep Go.Proofs.Ytpfpdbbgiimnmaa.Er Go.Proofs.Ytpfpdbbgiimnmaa.Mod Go.Proofs.YtpfpdbbgiimnmaaW.PrintWords
theorem DgIs.take {D : Nat → Prop} {w : World} {A : Option Addr} {m c : Nat} {l : List Dg} (h : DgIs D w (.slice A m c) l) (k : Nat) (hk : k ≤ m) : DgIs D w (.slice A k c) (l.take k) := by
  obtain ⟨A', c', e1, h2, h3, h5⟩ := h
  cases e1
  have hl : (l.take k).length = k := by rw [List.length_take]; omega
  refine ⟨A, c, by rw [hl], by rw [hl]; omega, by rw [hl]; omega, fun hne => ?_⟩
  have hne' : l ≠ [] := by rintro rfl; exact hne List.take_nil
  obtain ⟨ab, ao, e, hD, hx⟩ := h5 hne'
  refine ⟨ab, ao, e, hD, fun j d hj => hx j d ?_⟩
  have hj1 : j < k := by rw [← hl]; exact (List.getElem?_eq_some_iff.1 hj).1
  rw [List.getElem?_take, if_pos hj1] at hj
  exact hj
theorem capd_wf (most now : Int) (hm : 0 ≤ most) (hn : 0 ≤ now ∧ now ≤ 1000) : Wf (N1 now (hoC most)) 1000 := n1_wf ⟨hn.1, by omega⟩ (show (-1 : Int) ≤ 7 ∧ (7 : Int) < 8 by decide) (show (0 : Int) ≤ 0 ∧ (0 : Int) ≤ 64 by decide) ⟨Int.le_refl _, show (0 : Int) + _ < _ by decide⟩ (show 0 + 1000 ≤ _ by decide)
theorem capd_start (most : Int) (hm : 0 ≤ most ∧ most < 10) : (N1 0 (hoL 7)).capE 0 most = 0 ∧ (N1 0 (hoL 7)).setCap 0 most = N1 0 (hoC most) := n1_cap 0 (hoL 7) most ⟨by omega, by omega⟩
theorem capd_small {D : Nat → Prop} {w : World} {v : Value} {l : List Dg} (h : DgIs D w v l) (most : Int) : ∀ x ∈ (capLs most l).2, x.length ≤ 140737488355328 := by
  have key : ∀ (l' : List Dg) (a : Int × List (List Int)), (∀ d ∈ l', d.b.length ≤ 140737488355328) → (∀ x ∈ a.2, x.length ≤ 140737488355328) → ∀ x ∈ (capF most a l').2, x.length ≤ 140737488355328 := by
    intro l'
    induction l' with
    | nil => intro a _ h; exact h
    | cons d l' ih =>
      intro a h1 h2
      refine ih (cap1 most a d) (fun d' hd' => h1 d' (List.mem_cons.2 (.inr hd'))) ?_
      have h3 := h1 d (List.mem_cons.2 (.inl rfl))
      intro x hx
      unfold cap1 at hx
      split at hx
      · split at hx
        · split at hx
          · exact h2 x hx
          · rcases List.mem_append.1 hx with hx | hx
            · exact h2 x hx
            · obtain rfl : x = d.b := by simpa using hx
              exact h3
        · rcases List.mem_append.1 hx with hx | hx
          · exact h2 x hx
          · obtain rfl : x = d.b := by simpa using hx
            exact h3
      · exact h2 x hx
  refine key l (0, []) (fun d hd => ?_) (by simp)
  obtain ⟨j, hj⟩ := List.getElem?_of_mem hd
  exact h.small j d hj
set_option maxHeartbeats 4000000 in
set_option maxRecDepth 100000 in
theorem capac_calls (W : World) (m0 : Int) (v : Value) (l : List Dg) (hl : DgIs (fun k => k < W.heap.size) W v l) : Calls Try.prog 4 #[.int .i64 m0, v] W fun e w' => e = .returned (.bool true) ∧ Below W.heap.size W w' := by
  have u1 := utm_ m0 10 (by omega) (by omega)
  have HD := Lib.hid hl
  obtain ⟨A, c, rfl, hc1, hc2, _⟩ := hl
  obtain ⟨m, hm⟩ : ∃ m, m = l.length := ⟨_, rfl⟩
  have HM := Lib.hid hm
  rw [← hm] at HD hc1 hc2 ⊢
  clear hm
  obtain ⟨m', l', hc, HDD⟩ : ∃ (m' : Nat) (l' : List Dg), ((decide ((60 : Int) < (m : Int)) = false ∧ m' = m) ∨ (decide ((60 : Int) < (m : Int)) = true ∧ m' = 60)) ∧ Hid (DgIs (fun k => k < W.heap.size) W (.slice A m' c) l') ∧ Hid (l'.length = m') ∧ m' ≤ 60 := by
    by_cases h : 60 < m
    · exact ⟨60, l.take 60, .inr ⟨decide_eq_true (by omega), rfl⟩, Lib.hid (HD.out.take 60 (by omega)), Lib.hid (by rw [List.length_take, ← HM.out]; omega), Nat.le_refl _⟩
    · exact ⟨m, l, .inl ⟨decide_eq_false (by omega), rfl⟩, HD, Lib.hid HM.out.symm, by omega⟩
  clear HD HM
  have hm60 : decide ((60 : Int) < (m : Int)) = true → 60 < (m : Int) := fun h => of_decide_eq_true h
  rcases hc with ⟨h60, rfl⟩ | ⟨h60, rfl⟩
  rotate_left
  · have h61 := hm60 h60
    clear hm60
    go_enter Try.func4, Try.ntmps4
    go_upto_region 2 with (fail)
    generalize wrap64 ((IntKind.u64.wrap m0).tmod 10) = most at u1 ⊢
    obtain ⟨ms0, ms10⟩ := u1
    have HS := Lib.hid (capd_start most ⟨ms0, ms10⟩)
    go_upto_region 7 with (first
      | (go_at_call 7; refine (one_calls _ 7 (by decide)).mono ?_; rintro e w1 ⟨nb, hb, rfl, h⟩; have H1 := Lib.hid h; clear h)
      | (go_at_call 11; refine (capL H1.out 0 most).mono ?_; rintro e w2 ⟨ev, rfl, he, h⟩; rw [er_zero _ HS.out.1] at he; obtain rfl := ErR_nil he; rw [HS.out.2] at h; have H2 := Lib.hid h; clear h he))
    clear H1 HS
    go_upto_block 0 with (fail)
    go_wp2
    go_loopg [6] 3 (fun kq v6 wr => ∃ t : Nat, v6 = .int .i64 t ∧ Hid (t ≤ 2 ∧ kq = 3 - t) ∧ Hid (LN W nb hb (N1 t (hoC most)) wr))
    case atStart => exact ⟨0, rfl, Lib.hid ⟨by omega, by omega⟩, H2⟩
    case round =>
      obtain ⟨t, rfl, HK, HA⟩ := hrel
      have ht : t ≤ 2 := HK.out.1
      by_cases hi : t < 2
      · have HRO := Lib.hid (cap_round most t ms0 (by omega) l')
        have HW0 := Lib.hid (capd_wf most t ms0 ⟨by omega, by omega⟩)
        have HW1 : Hid (Wf ((N1 t (hoC most)).send l') 900) := Lib.hid (Wf.send (M := 100) HW0.out _ (by rw [HDD.2.1.out]; have := HDD.2.2; omega))
        have HW2 : Hid (Wf (((N1 t (hoC most)).send l').take 0) 900) := Lib.hid (HW1.out.take 0)
        go_wp2_with (first
          | (go_at_call 8; refine (sendL (D := fun k => k < W.heap.size) HA.out (Below.refl _ _) HW0.out _ l' (HDD.1.out.keep (fun k hk => HA.out.bel.block k hk)) (fun k hk => ⟨Nat.lt_of_lt_of_le hk HA.out.bel.size, .inr hk⟩) (by rw [HDD.2.1.out]; have := HDD.2.2; omega)).mono ?_; rintro e w3 ⟨rfl, h⟩; have H3 := Lib.hid h; clear h)
          | (go_at_call 9; refine (takeL H3.out HW1.out 0 (by rw [HRO.out.1]; exact capd_small HDD.1.out most)).mono ?_; rintro e w4 ⟨v4, rfl, h, ho⟩; have H4 := Lib.hid h; have O4 : Hid (OutV w4 v4 (capLs most l').2) := Lib.hid (by rw [HRO.out.1] at ho; exact ho); clear h ho; obtain ⟨A4, c4, hv4, _⟩ := O4.out.form; subst hv4)
          | (go_at_call 12; refine (capped_calls _ _ _ l' most (fun k => k < W.heap.size) ⟨ms0, by omega⟩ (by rw [HDD.2.1.out]; have := HDD.2.2; omega) O4.out (HDD.1.out.keep (fun k hk => H4.out.bel.block k hk))).mono ?_; rintro e w5 ⟨rfl, h⟩; have H5 := Lib.hid (H4.out.below h); clear h)
          | (go_at_call 13; refine (tickL H5.out HW2.out).mono ?_; rintro e w6 ⟨rfl, h⟩; have H6 : Hid (LN W nb hb (N1 (t + 1 : Nat) (hoC most)) w6) := Lib.hid (by rw [HRO.out.2] at h; exact h); clear h))
        go_roundg (2 - t)
        case measure => have := HK.out; omega
        case rel => exact ⟨t + 1, by go_num, Lib.hid ⟨by omega, by omega⟩, H6⟩
      · go_wp2_with (first | (go_at_call 10; refine (awake_calls _).mono ?_; rintro e w9 ⟨rfl, h9⟩; have H9 := Lib.hid h9; clear h9))
        go_ret
        exact ⟨rfl, HA.out.bel.trans (H9.out.mono HA.out.bel.size)⟩
  · clear hm60
    go_enter Try.func4, Try.ntmps4
    go_upto_region 2 with (fail)
    generalize wrap64 ((IntKind.u64.wrap m0).tmod 10) = most at u1 ⊢
    obtain ⟨ms0, ms10⟩ := u1
    have HS := Lib.hid (capd_start most ⟨ms0, ms10⟩)
    go_upto_region 7 with (first
      | (go_at_call 7; refine (one_calls _ 7 (by decide)).mono ?_; rintro e w1 ⟨nb, hb, rfl, h⟩; have H1 := Lib.hid h; clear h)
      | (go_at_call 11; refine (capL H1.out 0 most).mono ?_; rintro e w2 ⟨ev, rfl, he, h⟩; rw [er_zero _ HS.out.1] at he; obtain rfl := ErR_nil he; rw [HS.out.2] at h; have H2 := Lib.hid h; clear h he))
    clear H1 HS
    go_upto_block 0 with (fail)
    go_wp2
    go_loopg [6] 3 (fun kq v6 wr => ∃ t : Nat, v6 = .int .i64 t ∧ Hid (t ≤ 2 ∧ kq = 3 - t) ∧ Hid (LN W nb hb (N1 t (hoC most)) wr))
    case atStart => exact ⟨0, rfl, Lib.hid ⟨by omega, by omega⟩, H2⟩
    case round =>
      obtain ⟨t, rfl, HK, HA⟩ := hrel
      have ht : t ≤ 2 := HK.out.1
      by_cases hi : t < 2
      · have HRO := Lib.hid (cap_round most t ms0 (by omega) l')
        have HW0 := Lib.hid (capd_wf most t ms0 ⟨by omega, by omega⟩)
        have HW1 : Hid (Wf ((N1 t (hoC most)).send l') 900) := Lib.hid (Wf.send (M := 100) HW0.out _ (by rw [HDD.2.1.out]; have := HDD.2.2; omega))
        have HW2 : Hid (Wf (((N1 t (hoC most)).send l').take 0) 900) := Lib.hid (HW1.out.take 0)
        go_wp2_with (first
          | (go_at_call 8; refine (sendL (D := fun k => k < W.heap.size) HA.out (Below.refl _ _) HW0.out _ l' (HDD.1.out.keep (fun k hk => HA.out.bel.block k hk)) (fun k hk => ⟨Nat.lt_of_lt_of_le hk HA.out.bel.size, .inr hk⟩) (by rw [HDD.2.1.out]; have := HDD.2.2; omega)).mono ?_; rintro e w3 ⟨rfl, h⟩; have H3 := Lib.hid h; clear h)
          | (go_at_call 9; refine (takeL H3.out HW1.out 0 (by rw [HRO.out.1]; exact capd_small HDD.1.out most)).mono ?_; rintro e w4 ⟨v4, rfl, h, ho⟩; have H4 := Lib.hid h; have O4 : Hid (OutV w4 v4 (capLs most l').2) := Lib.hid (by rw [HRO.out.1] at ho; exact ho); clear h ho; obtain ⟨A4, c4, hv4, _⟩ := O4.out.form; subst hv4)
          | (go_at_call 12; refine (capped_calls _ _ _ l' most (fun k => k < W.heap.size) ⟨ms0, by omega⟩ (by rw [HDD.2.1.out]; have := HDD.2.2; omega) O4.out (HDD.1.out.keep (fun k hk => H4.out.bel.block k hk))).mono ?_; rintro e w5 ⟨rfl, h⟩; have H5 := Lib.hid (H4.out.below h); clear h)
          | (go_at_call 13; refine (tickL H5.out HW2.out).mono ?_; rintro e w6 ⟨rfl, h⟩; have H6 : Hid (LN W nb hb (N1 (t + 1 : Nat) (hoC most)) w6) := Lib.hid (by rw [HRO.out.2] at h; exact h); clear h))
        go_roundg (2 - t)
        case measure => have := HK.out; omega
        case rel => exact ⟨t + 1, by go_num, Lib.hid ⟨by omega, by omega⟩, H6⟩
      · go_wp2_with (first | (go_at_call 10; refine (awake_calls _).mono ?_; rintro e w9 ⟨rfl, h9⟩; have H9 := Lib.hid h9; clear h9))
        go_ret
        exact ⟨rfl, HA.out.bel.trans (H9.out.mono HA.out.bel.size)⟩
end Go.Proofs.Ytpfpdbbgiimnmaa.Net
