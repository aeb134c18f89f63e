/- WireSpoilt walked. Premise: Glob. Conditions: bytes as they may be read. Printed by mkspt.py. -/
import Derived.Test.YtfcofokbhhnfkaaDoorBas
import Derived.Test.YtfcofokbhhnfkaaDoorSpoM
namespace Go.Proofs.YtfcofokbhhnfkaaDoor.Byt
set_option linter.unusedSimpArgs false
set_option linter.unusedVariables false
open Go.RowKit Go.Deep Go.Proofs.YtfcofokbhhnfkaaDoor.Er Go.Proofs.YtfcofokbhhnfkaaDoor.As Go.Proofs.YtfcofokbhhnfkaaDoorW.PrintWords Go.Proofs.YtfcofokbhhnfkaaDoorW.PrintLast Go.Proofs.YtfcofokbhhnfkaaDoorW.PrintMore
set_option maxHeartbeats 8000000 in
set_option maxRecDepth 100000 in
theorem spoilt_calls (p : Pk) (u : Value) (at_ mk : Int) (w : World) (hp : RdB (fun k => k < w.heap.size) w u p.data) (ha : -9223372036854775808 ≤ at_ ∧ at_ ≤ 9223372036854775807) (hm : 0 ≤ mk ∧ mk < 4294967296) (hG : Glob w) :
    Calls Tryd.prog 6 #[pkV p u, .int .i64 at_, .int .u32 mk] w fun e w' => e = .returned (.bool true) ∧ Below w.heap.size w w' := by
  have HP := Lib.hid hp
  have HU := Lib.hid (cells_of hp)
  have HG := Lib.hid hG
  have HAT := Lib.hid ha
  have HMK := Lib.hid hm
  have HLT := Lib.hid hp.lt
  clear hp hG ha hm
  by_cases hw : whyP p = 0
  rotate_left
  · skip
    obtain ⟨x, hx⟩ := not_none (fun e => hw (putR_none.1 e))
    have HA : Hid (putR p = some x ∧ putL p = []) := Lib.hid ⟨hx, if_neg hw⟩
    clear hw hx
    go_enter Tryd.func6, Tryd.ntmps6
    go_wp2_with (first
      | ((with_reducible refine gate_dst (N := 3) rfl ?_); refine wp_box rfl (.tmp 0) rfl rfl HU.out ?_; intro w2 hP hB hs; have H2 := Lib.hid (SB.mk hP hB); clear hP hB hs)
      | ((with_reducible refine gate_dst (N := 14) rfl ?_); refine wp_ldpk rfl (.tmp 3) rfl rfl H2.out.P ?_)
      | (go_at_call 12
         refine (Put_calls (D := fun k => k < w.heap.size) p u _ (HP.out.at0 H2.out.B) (fun k hk => Nat.lt_of_lt_of_le hk H2.out.B.size)).mono ?_
         rw [HA.out.1, HA.out.2]
         rintro e w9 ⟨v', ev, rfl, h1, h2, h3⟩
         obtain ⟨a, rfl⟩ := ErR_ptr h1
         obtain ⟨A3, c3, rfl, _⟩ := h2.val
         have H9 := Lib.hid (H2.out.below h3).B
         clear h1 h2 h3 H2)
      | (go_at_call 11
         refine (awake_calls _).mono ?_
         rintro e w14 ⟨rfl, hb⟩
         have H14 := Lib.hid (H9.out.trans (hb.mono H9.out.size))
         clear hb))
    go_ret
    exact ⟨rfl, H14.out⟩
  obtain ⟨Bp, hBp⟩ : ∃ q, q = putL p := ⟨_, rfl⟩
  obtain ⟨m, hm⟩ : ∃ m, m = Bp.length := ⟨_, rfl⟩
  have HA : Hid (putL p = Bp ∧ putR p = none) := Lib.hid ⟨hBp.symm, putR_none.2 hw⟩
  have HM := Lib.hid hm
  have HBA : Hid (Bp = addI (bodyI p)) := Lib.hid (hBp.trans (if_pos hw))
  cases hsp : spoilB Bp at_ mk with
  | none =>
    have HSP : Hid (spoilB Bp at_ mk = none) := Lib.hid hsp
    clear hw hBp hm hsp
    go_enter Tryd.func6, Tryd.ntmps6
    go_wp2_with (first
      | ((with_reducible refine gate_dst (N := 3) rfl ?_); refine wp_box rfl (.tmp 0) rfl rfl HU.out ?_; intro w2 hP hB hs; have H2 := Lib.hid (SB.mk hP hB); clear hP hB hs)
      | ((with_reducible refine gate_dst (N := 14) rfl ?_); refine wp_ldpk rfl (.tmp 3) rfl rfl H2.out.P ?_)
      | (go_at_call 12
         refine (Put_calls (D := fun k => k < w.heap.size) p u _ (HP.out.at0 H2.out.B) (fun k hk => Nat.lt_of_lt_of_le hk H2.out.B.size)).mono ?_
         rw [HA.out.1, HA.out.2]
         rintro e w3 ⟨v', ev, rfl, h1, h2, h3⟩
         obtain rfl := ErR_nil h1
         obtain ⟨A3, c3, rfl, _⟩ := h2.val
         rw [← HM.out] at h2 ⊢
         have H3 := Lib.hid (And.intro (H2.out.below h3).B h2)
         clear h1 h2 h3 H2)
      | (go_at_call 17
         refine (chkspoil_calls (l := Bp) H3.out.2.rb.rdlt (fun k hk => hk) at_ mk HAT.out HMK.out).mono ?_
         rw [HSP.out]
         rintro e w9 ⟨⟨ev, rfl, h1⟩, h2⟩
         obtain ⟨a, rfl⟩ := ErR_ptr h1
         have H9 := Lib.hid (H3.out.1.trans (h2.mono H3.out.1.size))
         clear h1 h2 H3)
      | (go_at_call 11
         refine (awake_calls _).mono ?_
         rintro e w14 ⟨rfl, hb⟩
         have H14 := Lib.hid (H9.out.trans (hb.mono H9.out.size))
         clear hb))
    go_ret
    exact ⟨rfl, H14.out⟩
  | some Y =>
    have hY6 : takeE Y = 6 := spoilt_take (b := bodyI p) (fun x hx => putBody_lt p HLT.out x hx) HMK.out (by rw [← HBA.out]; exact hsp)
    have HSP : Hid (spoilB Bp at_ mk = some Y) := Lib.hid hsp
    obtain ⟨my, hmy⟩ : ∃ m, m = Y.length := ⟨_, rfl⟩
    have HMY := Lib.hid hmy
    have HQ : Hid (getP Y = pk0 ∧ getR Y = some ([getN, takeN], 6)) := Lib.hid ⟨if_neg (by rw [hY6]; decide), by unfold getR; rw [if_neg (by rw [hY6]; decide), hY6]⟩
    clear hw hBp hm hsp hmy hY6
    go_enter Tryd.func6, Tryd.ntmps6
    go_upto_region 7 with (first
      | ((with_reducible refine gate_dst (N := 3) rfl ?_); refine wp_box rfl (.tmp 0) rfl rfl HU.out ?_; intro w2 hP hB hs; have H2 := Lib.hid (SB.mk hP hB); clear hP hB hs)
      | ((with_reducible refine gate_dst (N := 14) rfl ?_); refine wp_ldpk rfl (.tmp 3) rfl rfl H2.out.P ?_)
      | (go_at_call 12
         refine (Put_calls (D := fun k => k < w.heap.size) p u _ (HP.out.at0 H2.out.B) (fun k hk => Nat.lt_of_lt_of_le hk H2.out.B.size)).mono ?_
         rw [HA.out.1, HA.out.2]
         rintro e w3 ⟨v', ev, rfl, h1, h2, h3⟩
         obtain rfl := ErR_nil h1
         obtain ⟨A3, c3, rfl, _⟩ := h2.val
         rw [← HM.out] at h2 ⊢
         have H3 := Lib.hid (And.intro (H2.out.below h3).B h2)
         clear h1 h2 h3 H2)
      | (go_at_call 17
         refine (chkspoil_calls (l := Bp) H3.out.2.rb.rdlt (fun k hk => hk) at_ mk HAT.out HMK.out).mono ?_
         rw [HSP.out]
         rintro e w5 ⟨⟨A5, c5, rfl, h1⟩, h2⟩
         rw [← HMY.out] at h1 ⊢
         have H5 := Lib.hid (And.intro (H3.out.1.trans (h2.mono H3.out.1.size)) h1)
         clear h1 h2 H3))
    go_upto_region 8 with (first
      | (go_at_call 14
         refine (Get_calls _ _ Y H5.out.2.rdlt (fun k hk => hk)).mono ?_
         rw [HQ.out.1, HQ.out.2]
         rintro e w7 ⟨v7, ev, rfl, h1, h2, h3⟩
         obtain ⟨A7, c7, rfl, _⟩ := h2.val
         have H7 := Lib.hid (And.intro (H5.out.1.trans (h3.mono H5.out.1.size)) (And.intro h1 h2))
         clear h1 h2 h3 H5)
      | ((with_reducible refine gate_dst (N := 11) rfl ?_); refine wp_allocPk rfl rfl ?_; intro w8 hP hB hs; have HP8 := Lib.hid (And.intro hP (And.intro hB hs)); clear hP hB hs)
      | ((with_reducible refine gate_store (t := 26) (p := 11) rfl ?_)
         refine wp_stpk (p := pk0) (A := A7) (L := 0) (c := c7) rfl rfl rfl rfl HP8.out.1 rfl ?_
         intro w9 hP hO
         have hb := hO.below HP8.out.2.1 (Nat.le_refl _)
         have H9 := Lib.hid (And.intro hP (And.intro (H7.out.1.trans (hb.mono H7.out.1.size)) (And.intro (ErR_only hO HP8.out.1 (ErR_below HP8.out.2.1 H7.out.2.1)) (H7.out.2.2.below hb))))
         clear hP hO hb HP8 H7))
    go_wp2_with (first
      | (go_at_call 7
         refine (Tells.tells.calls ev (some ([getN, takeN], 6)) 6 getN true _ H9.out.2.2.1 (Glob_below HG.out H9.out.2.1) (tells_n _ _ _ (by decide))).mono ?_
         rintro e w10 ⟨rfl, hb⟩
         have H10 := Lib.hid (And.intro (H9.out.1.below hb) (And.intro (H9.out.2.1.trans (hb.mono H9.out.2.1.size)) (H9.out.2.2.2.below hb)))
         clear hb H9)
      | ((with_reducible refine gate_dst (N := 44) rfl ?_); refine wp_ldpk_want (by rfl) (.tmp 11) rfl rfl H10.out.1 ?_)
      | (go_at_call 16
         refine (SamR_calls (D' := fun k => k < w10.heap.size) pk0 pk0 _ (.slice none 0 0) _ H10.out.2.2.rb.rdlt ⟨none, 0, rfl, Nat.le_refl _, by decide, (fun x hx => by cases hx), fun e => absurd rfl e⟩ (fun k e => e) (fun k e => e)).mono ?_
         rw [show decide (pk0 = pk0) = true from decide_eq_true rfl]
         rintro e w11 ⟨rfl, hb⟩
         have H9 := Lib.hid (H10.out.2.1.trans (hb.mono H10.out.2.1.size))
         clear hb H10)
      | (go_at_call 11
         refine (awake_calls _).mono ?_
         rintro e w14 ⟨rfl, hb⟩
         have H14 := Lib.hid (H9.out.trans (hb.mono H9.out.size))
         clear hb))
    go_ret
    exact ⟨rfl, H14.out⟩
end Go.Proofs.YtfcofokbhhnfkaaDoor.Byt
