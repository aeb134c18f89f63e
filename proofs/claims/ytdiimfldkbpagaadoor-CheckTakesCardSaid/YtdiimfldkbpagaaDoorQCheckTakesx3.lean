-- Written by a program of this session out of the translation. Lean checks it.
import Derived.Test.YtdiimfldkbpagaaDoorQCheckTakesx0
import Derived.Test.YtdiimfldkbpagaaDoorQCheckTakesx1
import Derived.Test.YtdiimfldkbpagaaDoorQCheckTakesx2
namespace Go.Proofs.YtdiimfldkbpagaaDoor.QCheckTakes
open Go.RowKit Go.Proofs.YtdiimfldkbpagaaDoor.Er Go.Proofs.YtdiimfldkbpagaaDoor.As Go.Proofs.YtdiimfldkbpagaaDoor.Tells Go.Proofs.YtdiimfldkbpagaaDoor.Lit Go.Proofs.YtdiimfldkbpagaaDoorW.PrintWords Go.Proofs.YtdiimfldkbpagaaDoorW.PrintLast Go.Proofs.YtdiimfldkbpagaaDoorW.PrintMore
attribute [local go_sem] max2_int min2_int max_two min_two max_three min_three max_four min_four   -- for this text's walks alone
set_option linter.unusedVariables false
set_option linter.unusedSimpArgs false

/-! ### geyserlaw15_CheckTakes: function 3 -/
def geyserlaw15_CheckTakes.l0 : Nat → List Int → List Int → List Int → Option Er → Int → Option (Bool)
  | 0, _, _, _, _, _ => none
  | k + 1, x0, x3, x4, x5, x6 => if x6 < (x3.length : Int) then (if 0 ≤ x6 then (geyserlaw15_CheckTakes.l0 k x0 (x3.set (x6 : Int).toNat ((255 - (rd x3 x6)) % 256)) x4 x5 (wrap64 (x6 + 1))) else (none)) else ((geyserref15_Take.f k x0).bind fun bt186 => ((tells.f x5 bt186.2 (⟨#[99, 104, 101, 99, 107, 46, 84, 97, 107, 101]⟩ : ByteArray)).bind fun t190 => (if t190 = true then (if (strOfNums x4).toList = (strOfNums bt186.1).toList then ((geyserlaw15_awake.f k).bind fun t191 => (some t191)) else (some false)) else (some false))))
def geyserlaw15_CheckTakes.f (k : Nat) (l0 : List Int) : Option (Bool) := (some (([] : List Int) : List Int)).bind fun y174 => (if y174.length + l0.length < 140737488355328 then ((some (y174 ++ l0 : List Int)).bind fun y177 => ((check_Take.f k y177).bind fun bt180 => (geyserlaw15_CheckTakes.l0 k l0 y177 bt180.1 bt180.2 0))) else (none))
theorem geyserlaw15_CheckTakes.mono_l : ∀ k, (∀ y0 y1 y2 y3 y4, LeO (geyserlaw15_CheckTakes.l0 k y0 y1 y2 y3 y4) (geyserlaw15_CheckTakes.l0 (k + 1) y0 y1 y2 y3 y4))
  | 0 => fun _ _ _ _ _ r h => by simp [geyserlaw15_CheckTakes.l0] at h
  | k + 1 => by
    have ih0 := geyserlaw15_CheckTakes.mono_l k
    · intro y0 y1 y2 y3 y4
      unfold geyserlaw15_CheckTakes.l0
      repeat' first
      | (with_reducible exact ih0 _ _ _ _ _)
      | (with_reducible exact check_Take.mono _ _)
      | (with_reducible exact geyserlaw15_awake.mono _)
      | (with_reducible exact geyserref15_Take.mono _ _)
      | (with_reducible exact LeO.refl _)
      | (with_reducible exact LeO.none _)
      | (with_reducible refine LeO.ite ?_ ?_)
      | (with_reducible refine LeO.bind ?_ (fun _ => ?_))
      | exact ih0 _ _ _ _ _
      | exact check_Take.mono _ _
      | exact geyserlaw15_awake.mono _
      | exact geyserref15_Take.mono _ _
      | exact LeO.none _
      | refine LeO.ite ?_ ?_
      | refine LeO.bind ?_ (fun _ => ?_)
theorem geyserlaw15_CheckTakes.mono : ∀ a0 k, LeO (geyserlaw15_CheckTakes.f k a0) (geyserlaw15_CheckTakes.f (k + 1) a0) := by
  intro a0 k
  have ih0 := geyserlaw15_CheckTakes.mono_l k
  unfold geyserlaw15_CheckTakes.f
  repeat' first
      | (with_reducible exact ih0 _ _ _ _ _)
      | (with_reducible exact check_Take.mono _ _)
      | (with_reducible exact geyserlaw15_awake.mono _)
      | (with_reducible exact geyserref15_Take.mono _ _)
      | (with_reducible exact LeO.refl _)
      | (with_reducible exact LeO.none _)
      | (with_reducible refine LeO.ite ?_ ?_)
      | (with_reducible refine LeO.bind ?_ (fun _ => ?_))
      | exact ih0 _ _ _ _ _
      | exact check_Take.mono _ _
      | exact geyserlaw15_awake.mono _
      | exact geyserref15_Take.mono _ _
      | exact LeO.none _
      | refine LeO.ite ?_ ?_
      | refine LeO.bind ?_ (fun _ => ?_)
set_option maxHeartbeats 8000000 in
set_option maxRecDepth 100000 in
theorem geyserlaw15_CheckTakes.calls (k : Nat) (A0 : Option Addr) (c0 : Nat) (l0 : List Int) (r : Bool) (w : World) (hr0 : Kd.C (Kd.int .u8) w A0 l0.length l0) (hc0 : l0.length ≤ c0) (hG : Glob w) (h : geyserlaw15_CheckTakes.f k l0 = some r) :
    Calls Tryd.prog 3 #[.slice A0 l0.length c0] w fun e w' => e = .returned (.bool r) ∧ Below w.heap.size w w' := by
  have HG := Aside0.mk hG
  clear hG
  have HR0 := Aside0.mk hr0
  have HC0 := Aside0.mk hc0
  clear hr0 hc0
  have HB := Aside0.mk (Below.refl w.heap.size w)
  have H : ((some (([] : List Int) : List Int)).bind fun y174 => (if y174.length + l0.length < 140737488355328 then ((some (y174 ++ l0 : List Int)).bind fun y177 => ((check_Take.f k y177).bind fun bt180 => (geyserlaw15_CheckTakes.l0 k l0 y177 bt180.1 bt180.2 0))) else (none))) = some r := h
  clear h
  obtain ⟨y174, hy174⟩ : ∃ y_ : List Int, y_ = (([] : List Int)) := ⟨_, rfl⟩
  replace H : (if y174.length + l0.length < 140737488355328 then ((some (y174 ++ l0 : List Int)).bind fun y177 => ((check_Take.f k y177).bind fun bt180 => (geyserlaw15_CheckTakes.l0 k l0 y177 bt180.1 bt180.2 0))) else (none)) = some r := by first | (rw [hy174]; with_reducible exact H) | (have H2_ := (Option.bind_some _ _).symm.trans H; rw [hy174]; with_reducible exact H2_) | (have H2_ := (Option.bind_some _ _).symm.trans H; with_reducible exact H2_) | with_reducible exact H | (rw [hy174]; exact H) | exact H
  have Ny174 := Aside0.mk hy174
  clear hy174
  by_cases c2 : y174.length + l0.length < 140737488355328
  · rw [if_pos c2] at H
    have LMc2 := Aside0.mk c2
    clear c2
    obtain ⟨y177, hy177⟩ : ∃ y_ : List Int, y_ = (y174 ++ l0) := ⟨_, rfl⟩
    replace H : ((check_Take.f k y177).bind fun bt180 => (geyserlaw15_CheckTakes.l0 k l0 y177 bt180.1 bt180.2 0)) = some r := by first | (rw [hy177]; with_reducible exact H) | (have H2_ := (Option.bind_some _ _).symm.trans H; rw [hy177]; with_reducible exact H2_) | (have H2_ := (Option.bind_some _ _).symm.trans H; with_reducible exact H2_) | with_reducible exact H | (rw [hy177]; exact H) | exact H
    have Ny177 := Aside0.mk hy177
    clear hy177
    replace H := Option.bind_eq_some_iff.mp H
    obtain ⟨⟨t180, t181⟩, A30, H⟩ := H
    replace H : (geyserlaw15_CheckTakes.l0 k l0 y177 t180 t181 0) = some r := H
    have A3 := Aside0.mk A30
    clear A30
    have H' := Aside0.mk H
    clear H
    go_enter Tryd.func3, Tryd.ntmps3
    go_wp2_with (first | ((with_reducible refine gate_dst (N := 9) rfl ?_); refine Kd.R_lit (Kd.int .u8) _ 5 ?hg (N := 9) ?hd (xs := ([] : List Int)) (inner := []) (ok := fun _ => True) (okp := fun _ => True) ?hr ?hp (fun _ hk => hk) trivial (Below.refl _ _) (Nat.le_refl _) (by simp) ?_; (case hd => rfl); (case hg => rfl); (case hr => first | (go_simp; done) | (go_simp; rfl)); (case hp => exact (Reps.none _ _)); intro v175 w4 ho5 hb hg_ hnew_; clear hg_ hnew_; (first | rw [← Ny174.out] at ho5 | (simp only [Int.reduceToNat] at ho5; rw [← Ny174.out] at ho5)); have n0_ := Aside0.mk (Kd.R_lower ho5 (below_size (by repeat (first | (with_reducible first | exact HB.out | apply below_alloc | apply pw_below_drewN | apply below_drew1) | exact HB.out)))); have n1_ := Aside0.mk (below_step (by repeat (first | (with_reducible first | exact HB.out | apply below_alloc | apply pw_below_drewN | apply below_drew1) | exact HB.out)) hb); clear HB; have HO176 := n0_; have HB := n1_; clear n0_ n1_; clear hb ho5) | ((with_reducible refine gate_builtin (b := .append) (xs := #[.tmp 9, .tmp 10]) rfl ?_); at_builtin; refine Kd.R_append_rows (Kd.int .u8) (w0 := w) w.heap.size rfl (.tmp 9) (.tmp 10) 22 5 (.int .u8 0) 1 rfl Tryd.underlying22 info5 rfl (by decide) (by omega) v175 y174 l0 _ _ _ (fun _ => True) (fun _ => False) rfl rfl ?aO ?aR (fun _ _ h => h) (fun _ h => h.elim) ?aF ?aB ?aS ?aL ?_; (case aR => repeat (first | exact (Kd.C_below HR0.out HB.out) | (with_reducible refine Kd.C_alloc ?_ _) | (with_reducible refine Kd.C_drewN ?_ _) | (with_reducible refine Kd.C_drew ?_))); (case aB => exact (by repeat (first | (with_reducible first | exact HB.out | apply below_alloc | apply pw_below_drewN | apply below_drew1) | exact HB.out))); (case aF => exact (fun _ _ => trivial)); (case aO => exact (by (with_reducible repeat (first | apply Kd.R_alloc | apply Kd.R_drewN | apply Kd.R_drew)); exact HO176.out)); (case aS => exact (below_size (by repeat (first | (with_reducible first | exact HB.out | apply below_alloc | apply pw_below_drewN | apply below_drew1) | exact HB.out)))); (case aL => have := LMc2.out; omega); intro v178 w6 ho hb hg hat; rw [← Ny177.out] at ho; have n0_ := Aside0.mk (hb); have n1_ := Aside0.mk (ho); clear HB; clear HO176; have HB := n0_; have HO179 := n1_; clear n0_ n1_; clear ho hb hg hat; obtain ⟨Ao7, co7, eo7⟩ := Kd.R_slice HO179.out; subst eo7) | ((with_reducible refine gate_callee (f := 6) rfl ?_); refine goesL_ (some 14) rfl rfl Tryd.func6 (by kernel_rfl) rfl #[.slice Ao7 y177.length co7] rfl (by (try simp only [List.map_toArray, List.map_cons, List.map_nil]); first | done | rfl | (simp only [List.length_drop, List.length_take]; rfl)) ?_; (with_reducible refine (check_Take.calls k _ _ y177 t180 t181 _ ?side1 ?side2 A3.out).mono ?_); (case side1 => repeat (first | exact (Kd.R_reads' HO179.out).2.2 | (with_reducible refine Kd.C_alloc ?_ _) | (with_reducible refine Kd.C_drewN ?_ _) | (with_reducible refine Kd.C_drew ?_))); (case side2 => exact (Kd.R_reads' HO179.out).2.1); rintro e w8 ⟨v182, ev_t181, rfl, ho0, he0, hb⟩; refine ⟨_, rfl, ?_⟩; have n0_ := Aside0.mk (Kd.R_elder' (by (with_reducible repeat (first | apply Kd.R_alloc | apply Kd.R_drewN | apply Kd.R_drew)); exact HO179.out) (Kd.R_base ho0) hb); have n1_ := Aside0.mk (Kd.R_lower (Kd.R_new' ho0 (Kd.R_lt (by (with_reducible repeat (first | apply Kd.R_alloc | apply Kd.R_drewN | apply Kd.R_drew)); exact HO179.out))) (below_size (by repeat (first | (with_reducible first | exact HB.out | apply below_alloc | apply pw_below_drewN | apply below_drew1) | exact HB.out)))); have n2_ := Aside0.mk (below_step (by repeat (first | (with_reducible first | exact HB.out | apply below_alloc | apply pw_below_drewN | apply below_drew1) | exact HB.out)) hb); clear HO179; clear HB; have HO179 := n0_; have HO183 := n1_; have HB := n2_; clear n0_ n1_ n2_; (try clear hb); (try clear hb2); (try clear hk); (try clear hi); (try clear ho0); have HE_t181 := Aside0.mk he0; clear he0))
    go_loopg [6] k (fun kq v6 w' => ∃ (x3_1 : List Int) (x6_1 : Int), v6 = .int .i64 x6_1 ∧ Aside0 (geyserlaw15_CheckTakes.l0 kq l0 x3_1 t180 t181 x6_1 = some r) ∧ Aside0 (kq ≤ k) ∧ Aside0 (Kd.R (Kd.int .u8) 5 w' w.heap.size (fun k_ => some k_ ≠ (v182 : Value).ownBlock) (.slice Ao7 y177.length co7) x3_1) ∧ Aside0 (Kd.R (Kd.int .u8) 5 w' w.heap.size (fun k_ => some k_ ≠ ((.slice Ao7 y177.length co7) : Value).ownBlock) v182 t180) ∧ Aside0 (ErR w' (ev_t181) t181) ∧ Aside0 (Below w.heap.size w w'))
    case atStart => exact ⟨(y177), (0), (by first | rfl | (simp; done) | (simp [*]; done)), H', ⟨Nat.le_refl _⟩, ⟨by (with_reducible repeat (first | apply Kd.R_alloc | apply Kd.R_drewN | apply Kd.R_drew)); exact Kd.R_mono HO179.out (fun _ hk => hk.2)⟩, ⟨by (with_reducible repeat (first | apply Kd.R_alloc | apply Kd.R_drewN | apply Kd.R_drew)); exact Kd.R_mono HO183.out (fun _ hk => hk.2)⟩, ⟨by repeat (first | (with_reducible exact HE_t181.out) | (with_reducible exact ErR_none _) | (with_reducible exact Aside0.out (by assumption)) | (with_reducible apply ErR_drew) | (with_reducible apply ErR_drewN) | (with_reducible apply ErR_alloc) | (with_reducible refine ErR_set (by repeat (first | (with_reducible refine NF_blk (Aside0.out (by assumption)) (by decide)) | (with_reducible apply NF_set) | (with_reducible apply NF_drew) | (with_reducible apply NF_drewN) | (with_reducible apply NF_alloc))) ?_) | exact HE_t181.out | apply ErR_drew | apply ErR_drewN | apply ErR_alloc)⟩, ⟨by repeat (first | (with_reducible first | exact HB.out | apply below_alloc | apply pw_below_drewN | apply below_drew1) | exact HB.out)⟩⟩
    case round =>
      clear H'
      try clear c2
      try clear p2
      try clear c3
      try clear c6
      obtain ⟨x3_1, x6_1, rfl, HA, HK1, HO_3, HO_4, HE_t181, HB⟩ := hrel
      have hl3_1 := (Kd.R_reads' HO_3.out).1
      rw [hl3_1] at HO_3
      (try simp only [hl3_1])
      (try simp only [hl3_1] at HO_4)
      cases gk with
      | zero => exact absurd HA.out (by simp [geyserlaw15_CheckTakes.l0])
      | succ k1 =>
        have H := HA.out
        clear HA
        simp only [geyserlaw15_CheckTakes.l0] at H
        by_cases c9 : x6_1 < (x3_1.length : Int)
        · rw [if_pos c9] at H
          have c9b0 : decide (x6_1 < (x3_1.length : Int)) = true := decide_eq_true c9
          clear c9
          by_cases c10 : 0 ≤ x6_1
          · rw [if_pos c10] at H
            have c10b0 : decide (0 ≤ x6_1) = true := decide_eq_true c10
            clear c10
            obtain ⟨y185, hy185⟩ : ∃ y_ : List Int, y_ = (x3_1.set (x6_1 : Int).toNat ((255 - (rd x3_1 x6_1)) % 256)) := ⟨_, rfl⟩
            replace H : (geyserlaw15_CheckTakes.l0 k1 l0 y185 t180 t181 (wrap64 (x6_1 + 1))) = some r := by first | (rw [hy185]; with_reducible exact H) | (have H2_ := (Option.bind_some _ _).symm.trans H; rw [hy185]; with_reducible exact H2_) | (have H2_ := (Option.bind_some _ _).symm.trans H; with_reducible exact H2_) | with_reducible exact H | (rw [hy185]; exact H) | exact H
            have Ny185 := Aside0.mk hy185
            clear hy185
            have H' := Aside0.mk H
            clear H
            have p184 : 0 ≤ (x6_1 : Int) := of_decide_eq_true (by first | (with_reducible assumption) | assumption)
            have q184 : x6_1 < (x3_1.length : Int) := of_decide_eq_true (by first | (with_reducible assumption) | assumption)
            obtain ⟨ad184, e184, hx184_0⟩ := Kd.at_int (Kd.R_reads' HO_3.out).2.2 x6_1 p184 q184
            cases e184
            replace p184 := eq_true p184
            replace q184 := eq_true q184
            have p11 : 0 ≤ (x6_1 : Int) := of_decide_eq_true (by first | (with_reducible assumption) | assumption)
            have q11 : (x6_1 : Int) < ((x3_1.length : Int) : Int) := of_decide_eq_true (by first | (with_reducible assumption) | assumption)
            obtain ⟨go11, co11, eo11, gb11, gl11, cl11, HG11⟩ := Kd.R_form HO_3.out (by omega)
            (first | cases eo11 | (injection eo11 with ea_ en_ ec_; (first | subst ea_ | (injection ea_ with ea_; subst ea_)); subst ec_; clear en_))
            have GB11 := Aside0.mk gb11
            have GG11 := Aside0.mk HG11
            clear gb11 gl11 HG11
            (first | simp only [add_plain] at hx184_0 | skip)
            obtain ⟨hx11_0, hf11_0⟩ := Kd.R_celln 0 HO_3.out (x6_1 : Int) p11 q11
            replace p11 := eq_true p11
            replace q11 := eq_true q11
            have HP12 := Kd.R_putg HO_3.out (x6_1 : Int) ((255 - (rd x3_1 x6_1)) % 256)
            go_wp2_with (first | ((with_reducible refine gate_store (t := 5) (p := 30) rfl ?_); refine store_event (t := 5) (p := 30) (v := ?vo_w13) (w1 := (wr.setCell ⟨go11, (x6_1 : Int).toNat, none⟩ (.int .u8 ((255 - (rd x3_1 x6_1)) % 256)))) ?hg ?ho ?hn ?hr ?_; (case ho => rfl); (case hg => rfl); (case hn => rfl); (case hr => first | (go_simp; done) | (go_simp; rfl)); intro w13 hw; have hg : wr.grownBy w13 (some go11) := (by rw [hw]; exact HP12.2); have hp_ : Kd.R (Kd.int .u8) 5 w13 w.heap.size (fun k_ => some k_ ≠ (v182 : Value).ownBlock) (.slice (some ⟨go11, 0, none⟩) x3_1.length co7) y185 := (by rw [hw, Ny185.out]; exact HP12.1); clear HP12; (try (have nE_ := Aside0.mk (ErR_to hw (NF_blk GG11.out (by decide)) HE_t181.out); clear HE_t181; have HE_t181 := nE_; clear nE_)); have n0_ := Aside0.mk (hp_); have n1_ := Aside0.mk (Kd.R_after (v := (.slice (some ⟨go11, 0, none⟩) x3_1.length co7)) (v1 := (.slice (some ⟨go11, 0, none⟩) x3_1.length co7)) (ok := (fun _ => True)) (by (with_reducible repeat (first | apply Kd.R_alloc | apply Kd.R_drewN | apply Kd.R_drew)); exact Kd.R_mono HO_4.out (fun _ hk => ⟨trivial, hk⟩)) hg (.inl rfl)); have n2_ := Aside0.mk ((by rw [hw]; exact below_set (HB.out) GB11.out : Below w.heap.size w w13)); clear HO_3; clear HO_4; clear HB; have HO_3 := n0_; have HO_4 := n1_; have HB := n2_; clear n0_ n1_ n2_; clear hg hw hp_))
            (try simp only [← hl3_1])
            go_roundg k1
            case measure => have := HK1.out; omega
            case rel => exact ⟨(y185), (wrap64 (x6_1 + 1)), (by first | rfl | (simp; done) | (simp [*]; done)), H', ⟨by have := HK1.out; omega⟩, ⟨by (try simp only [hl3_1]); (with_reducible repeat (first | apply Kd.R_alloc | apply Kd.R_drewN | apply Kd.R_drew)); exact HO_3.out⟩, ⟨by (try simp only [hl3_1]); (with_reducible repeat (first | apply Kd.R_alloc | apply Kd.R_drewN | apply Kd.R_drew)); exact Kd.R_mono HO_4.out (fun _ hk => hk.2)⟩, ⟨by repeat (first | (with_reducible exact HE_t181.out) | (with_reducible exact ErR_none _) | (with_reducible exact Aside0.out (by assumption)) | (with_reducible apply ErR_drew) | (with_reducible apply ErR_drewN) | (with_reducible apply ErR_alloc) | (with_reducible refine ErR_set (by repeat (first | (with_reducible refine NF_blk (Aside0.out (by assumption)) (by decide)) | (with_reducible apply NF_set) | (with_reducible apply NF_drew) | (with_reducible apply NF_drewN) | (with_reducible apply NF_alloc))) ?_) | exact HE_t181.out | apply ErR_drew | apply ErR_drewN | apply ErR_alloc)⟩, ⟨by repeat (first | (with_reducible first | exact HB.out | apply below_alloc | apply pw_below_drewN | apply below_drew1) | exact HB.out)⟩⟩
          · rw [if_neg c10] at H
            exact absurd H (by simp)
        · rw [if_neg c9] at H
          have c9b0 : decide (x6_1 < (x3_1.length : Int)) = false := decide_eq_false c9
          clear c9
          replace H := Option.bind_eq_some_iff.mp H
          obtain ⟨⟨t186, t189⟩, A140, H⟩ := H
          replace H : ((tells.f t181 t189 (⟨#[99, 104, 101, 99, 107, 46, 84, 97, 107, 101]⟩ : ByteArray)).bind fun t190 => (if t190 = true then (if (strOfNums t180).toList = (strOfNums t186).toList then ((geyserlaw15_awake.f k1).bind fun t191 => (some t191)) else (some false)) else (some false))) = some r := H
          have A14 := Aside0.mk A140
          clear A140
          replace H := Option.bind_eq_some_iff.mp H
          obtain ⟨t190, A150, H⟩ := H
          replace H : (if t190 = true then (if (strOfNums t180).toList = (strOfNums t186).toList then ((geyserlaw15_awake.f k1).bind fun t191 => (some t191)) else (some false)) else (some false)) = some r := H
          have A15 := Aside0.mk A150
          clear A150
          by_cases c16 : t190 = true
          · subst c16
            have H1 : (if (strOfNums t180).toList = (strOfNums t186).toList then ((geyserlaw15_awake.f k1).bind fun t191 => (some t191)) else (some false)) = some r := by rw [if_pos rfl] at H; exact H
            clear H
            have H := H1
            clear H1
            by_cases c17 : (strOfNums t180).toList = (strOfNums t186).toList
            · rw [if_pos c17] at H
              have c17b0 : ((strOfNums t180).toList == (strOfNums t186).toList) = true := beq_iff_eq.mpr c17
              have c17b1 : ((strOfNums t180).toList != (strOfNums t186).toList) = false := bne_eq_false_iff_eq.mpr c17
              clear c17
              replace H := Option.bind_eq_some_iff.mp H
              obtain ⟨t191, A180, H⟩ := H
              replace H : (some t191) = some r := H
              have A18 := Aside0.mk A180
              clear A180
              obtain rfl := Option.some.inj H
              go_wp2_with (first | ((with_reducible refine gate_callee (f := 7) rfl ?_); refine goesL_ (some 33) rfl rfl Tryd.func7 (by kernel_rfl) rfl #[.slice A0 l0.length c0] rfl (by (try simp only [List.map_toArray, List.map_cons, List.map_nil]); first | done | rfl | (simp only [List.length_drop, List.length_take]; rfl)) ?_; (with_reducible refine (geyserref15_Take.calls k1 (fun k_ => k_ < w.heap.size) _ _ l0 t186 t189 _ ?side1 A14.out).mono ?_); (case side1 => exact Kd.V_mk HC0.out (Kd.F_below (Kd.C_F (Kd.heap_int .u8) HR0.out) (by repeat (first | (with_reducible first | exact HB.out | apply below_alloc | apply pw_below_drewN | apply below_drew1) | exact HB.out)))); rintro e w19 ⟨v187, rfl, ho0, hb⟩; refine ⟨_, rfl, ?_⟩; (try (have nE_ := Aside0.mk (ErR_below hb (by repeat (first | (with_reducible exact HE_t181.out) | (with_reducible apply ErR_drew) | (with_reducible apply ErR_drewN) | (with_reducible apply ErR_alloc) | (with_reducible refine ErR_set (by repeat (first | (with_reducible refine NF_blk (Aside0.out (by assumption)) (by decide)) | (with_reducible apply NF_set) | (with_reducible apply NF_drew) | (with_reducible apply NF_drewN) | (with_reducible apply NF_alloc))) ?_) | exact HE_t181.out | apply ErR_drew | apply ErR_drewN | apply ErR_alloc))); clear HE_t181; have HE_t181 := nE_; clear nE_)); have n0_ := Aside0.mk (Kd.R_below (by (with_reducible repeat (first | apply Kd.R_alloc | apply Kd.R_drewN | apply Kd.R_drew)); exact HO_3.out) hb); have n1_ := Aside0.mk (Kd.R_below (by (with_reducible repeat (first | apply Kd.R_alloc | apply Kd.R_drewN | apply Kd.R_drew)); exact HO_4.out) hb); have n2_ := Aside0.mk (Kd.V_lower (Kd.V_mono (ok' := fun k_ => some k_ ≠ (.slice Ao7 x3_1.length co7 : Value).ownBlock ∧ some k_ ≠ (v182 : Value).ownBlock) ho0 (fun k_ hk_ => ⟨Or.elim hk_ (fun hs_ => fun e_ => Nat.not_le.2 hs_ (Kd.R_base HO_3.out k_ e_.symm)) (fun hn_ => (Kd.fresh' (Kd.R_lt (by (with_reducible repeat (first | apply Kd.R_alloc | apply Kd.R_drewN | apply Kd.R_drew)); exact HO_3.out)) k_ hn_)), Or.elim hk_ (fun hs_ => fun e_ => Nat.not_le.2 hs_ (Kd.R_base HO_4.out k_ e_.symm)) (fun hn_ => (Kd.fresh' (Kd.R_lt (by (with_reducible repeat (first | apply Kd.R_alloc | apply Kd.R_drewN | apply Kd.R_drew)); exact HO_4.out)) k_ hn_))⟩)) (below_size (by repeat (first | (with_reducible first | exact HB.out | apply below_alloc | apply pw_below_drewN | apply below_drew1) | exact HB.out)))); have n3_ := Aside0.mk (below_step (by repeat (first | (with_reducible first | exact HB.out | apply below_alloc | apply pw_below_drewN | apply below_drew1) | exact HB.out)) hb); clear HO_3; clear HO_4; clear HB; have HO_3 := n0_; have HO_4 := n1_; have HO188 := n2_; have HB := n3_; clear n0_ n1_ n2_ n3_; (try clear hb); (try clear hb2); (try clear hk); (try clear hi); (try clear ho0)) | (go_at_call 8; (with_reducible refine (tells.calls _ t181 t189 (⟨#[99, 104, 101, 99, 107, 46, 84, 97, 107, 101]⟩ : ByteArray) true _ ?side1 ?side2 A15.out).mono ?_); (case side1 => repeat (first | (with_reducible exact HE_t181.out) | (with_reducible exact ErR_none _) | (with_reducible exact Aside0.out (by assumption)) | (with_reducible apply ErR_drew) | (with_reducible apply ErR_drewN) | (with_reducible apply ErR_alloc) | (with_reducible refine ErR_set (by repeat (first | (with_reducible refine NF_blk (Aside0.out (by assumption)) (by decide)) | (with_reducible apply NF_set) | (with_reducible apply NF_drew) | (with_reducible apply NF_drewN) | (with_reducible apply NF_alloc))) ?_) | exact HE_t181.out | apply ErR_drew | apply ErR_drewN | apply ErR_alloc)); (case side2 => exact Glob_below HG.out (by repeat (first | (with_reducible first | exact HB.out | apply below_alloc | apply pw_below_drewN | apply below_drew1) | exact HB.out))); rintro e w20 ⟨rfl, hb⟩; (try (have nE_ := Aside0.mk (ErR_below hb (by repeat (first | (with_reducible exact HE_t181.out) | (with_reducible apply ErR_drew) | (with_reducible apply ErR_drewN) | (with_reducible apply ErR_alloc) | (with_reducible refine ErR_set (by repeat (first | (with_reducible refine NF_blk (Aside0.out (by assumption)) (by decide)) | (with_reducible apply NF_set) | (with_reducible apply NF_drew) | (with_reducible apply NF_drewN) | (with_reducible apply NF_alloc))) ?_) | exact HE_t181.out | apply ErR_drew | apply ErR_drewN | apply ErR_alloc))); clear HE_t181; have HE_t181 := nE_; clear nE_)); have n0_ := Aside0.mk (Kd.R_below (by (with_reducible repeat (first | apply Kd.R_alloc | apply Kd.R_drewN | apply Kd.R_drew)); exact HO_3.out) hb); have n1_ := Aside0.mk (Kd.R_below (by (with_reducible repeat (first | apply Kd.R_alloc | apply Kd.R_drewN | apply Kd.R_drew)); exact HO_4.out) hb); have n2_ := Aside0.mk (Kd.V_below (by (with_reducible repeat (first | apply Kd.V_alloc | apply Kd.V_drewN | apply Kd.V_drew)); exact HO188.out) hb); have n3_ := Aside0.mk (below_step (by repeat (first | (with_reducible first | exact HB.out | apply below_alloc | apply pw_below_drewN | apply below_drew1) | exact HB.out)) hb); clear HO_3; clear HO_4; clear HO188; clear HB; have HO_3 := n0_; have HO_4 := n1_; have HO188 := n2_; have HB := n3_; clear n0_ n1_ n2_ n3_; (try clear hb); (try clear hb2); (try clear hk); (try clear hi); have hcv21 := own_string (P := Tryd.prog) Tryd.underlying22 Tryd.underlying5 Tryd.underlying9 (Kd.own_of_R HO_4.out); have hcv22 := V_string (P := Tryd.prog) Tryd.underlying22 Tryd.underlying5 Tryd.underlying9 HO188.out) | (go_at_call 9; (with_reducible refine (geyserlaw15_awake.calls k1  t191 _ A18.out).mono ?_); rintro e w23 ⟨rfl, hb⟩; (try (have nE_ := Aside0.mk (ErR_below hb (by repeat (first | (with_reducible exact HE_t181.out) | (with_reducible apply ErR_drew) | (with_reducible apply ErR_drewN) | (with_reducible apply ErR_alloc) | (with_reducible refine ErR_set (by repeat (first | (with_reducible refine NF_blk (Aside0.out (by assumption)) (by decide)) | (with_reducible apply NF_set) | (with_reducible apply NF_drew) | (with_reducible apply NF_drewN) | (with_reducible apply NF_alloc))) ?_) | exact HE_t181.out | apply ErR_drew | apply ErR_drewN | apply ErR_alloc))); clear HE_t181; have HE_t181 := nE_; clear nE_)); have n0_ := Aside0.mk (Kd.R_below (by (with_reducible repeat (first | apply Kd.R_alloc | apply Kd.R_drewN | apply Kd.R_drew)); exact HO_3.out) hb); have n1_ := Aside0.mk (Kd.R_below (by (with_reducible repeat (first | apply Kd.R_alloc | apply Kd.R_drewN | apply Kd.R_drew)); exact HO_4.out) hb); have n2_ := Aside0.mk (Kd.V_below (by (with_reducible repeat (first | apply Kd.V_alloc | apply Kd.V_drewN | apply Kd.V_drew)); exact HO188.out) hb); have n3_ := Aside0.mk (below_step (by repeat (first | (with_reducible first | exact HB.out | apply below_alloc | apply pw_below_drewN | apply below_drew1) | exact HB.out)) hb); clear HO_3; clear HO_4; clear HO188; clear HB; have HO_3 := n0_; have HO_4 := n1_; have HO188 := n2_; have HB := n3_; clear n0_ n1_ n2_ n3_; (try clear hb); (try clear hb2); (try clear hk); (try clear hi)))
              go_ret
              exact ⟨by first | rfl | (simp [errW_none, errW_some] <;> rfl) | (simp [*, errW_none, errW_some] <;> rfl), by repeat (first | (with_reducible first | exact HB.out | apply below_alloc | apply pw_below_drewN | apply below_drew1) | exact HB.out)⟩
            · rw [if_neg c17] at H
              have c17b0 : ((strOfNums t180).toList == (strOfNums t186).toList) = false := beq_eq_false_iff_ne.mpr c17
              have c17b1 : ((strOfNums t180).toList != (strOfNums t186).toList) = true := bne_iff_ne.mpr c17
              obtain rfl := Option.some.inj H
              go_wp2_with (first | ((with_reducible refine gate_callee (f := 7) rfl ?_); refine goesL_ (some 33) rfl rfl Tryd.func7 (by kernel_rfl) rfl #[.slice A0 l0.length c0] rfl (by (try simp only [List.map_toArray, List.map_cons, List.map_nil]); first | done | rfl | (simp only [List.length_drop, List.length_take]; rfl)) ?_; (with_reducible refine (geyserref15_Take.calls k1 (fun k_ => k_ < w.heap.size) _ _ l0 t186 t189 _ ?side1 A14.out).mono ?_); (case side1 => exact Kd.V_mk HC0.out (Kd.F_below (Kd.C_F (Kd.heap_int .u8) HR0.out) (by repeat (first | (with_reducible first | exact HB.out | apply below_alloc | apply pw_below_drewN | apply below_drew1) | exact HB.out)))); rintro e w24 ⟨v187, rfl, ho0, hb⟩; refine ⟨_, rfl, ?_⟩; (try (have nE_ := Aside0.mk (ErR_below hb (by repeat (first | (with_reducible exact HE_t181.out) | (with_reducible apply ErR_drew) | (with_reducible apply ErR_drewN) | (with_reducible apply ErR_alloc) | (with_reducible refine ErR_set (by repeat (first | (with_reducible refine NF_blk (Aside0.out (by assumption)) (by decide)) | (with_reducible apply NF_set) | (with_reducible apply NF_drew) | (with_reducible apply NF_drewN) | (with_reducible apply NF_alloc))) ?_) | exact HE_t181.out | apply ErR_drew | apply ErR_drewN | apply ErR_alloc))); clear HE_t181; have HE_t181 := nE_; clear nE_)); have n0_ := Aside0.mk (Kd.R_below (by (with_reducible repeat (first | apply Kd.R_alloc | apply Kd.R_drewN | apply Kd.R_drew)); exact HO_3.out) hb); have n1_ := Aside0.mk (Kd.R_below (by (with_reducible repeat (first | apply Kd.R_alloc | apply Kd.R_drewN | apply Kd.R_drew)); exact HO_4.out) hb); have n2_ := Aside0.mk (Kd.V_lower (Kd.V_mono (ok' := fun k_ => some k_ ≠ (.slice Ao7 x3_1.length co7 : Value).ownBlock ∧ some k_ ≠ (v182 : Value).ownBlock) ho0 (fun k_ hk_ => ⟨Or.elim hk_ (fun hs_ => fun e_ => Nat.not_le.2 hs_ (Kd.R_base HO_3.out k_ e_.symm)) (fun hn_ => (Kd.fresh' (Kd.R_lt (by (with_reducible repeat (first | apply Kd.R_alloc | apply Kd.R_drewN | apply Kd.R_drew)); exact HO_3.out)) k_ hn_)), Or.elim hk_ (fun hs_ => fun e_ => Nat.not_le.2 hs_ (Kd.R_base HO_4.out k_ e_.symm)) (fun hn_ => (Kd.fresh' (Kd.R_lt (by (with_reducible repeat (first | apply Kd.R_alloc | apply Kd.R_drewN | apply Kd.R_drew)); exact HO_4.out)) k_ hn_))⟩)) (below_size (by repeat (first | (with_reducible first | exact HB.out | apply below_alloc | apply pw_below_drewN | apply below_drew1) | exact HB.out)))); have n3_ := Aside0.mk (below_step (by repeat (first | (with_reducible first | exact HB.out | apply below_alloc | apply pw_below_drewN | apply below_drew1) | exact HB.out)) hb); clear HO_3; clear HO_4; clear HB; have HO_3 := n0_; have HO_4 := n1_; have HO188 := n2_; have HB := n3_; clear n0_ n1_ n2_ n3_; (try clear hb); (try clear hb2); (try clear hk); (try clear hi); (try clear ho0)) | (go_at_call 8; (with_reducible refine (tells.calls _ t181 t189 (⟨#[99, 104, 101, 99, 107, 46, 84, 97, 107, 101]⟩ : ByteArray) true _ ?side1 ?side2 A15.out).mono ?_); (case side1 => repeat (first | (with_reducible exact HE_t181.out) | (with_reducible exact ErR_none _) | (with_reducible exact Aside0.out (by assumption)) | (with_reducible apply ErR_drew) | (with_reducible apply ErR_drewN) | (with_reducible apply ErR_alloc) | (with_reducible refine ErR_set (by repeat (first | (with_reducible refine NF_blk (Aside0.out (by assumption)) (by decide)) | (with_reducible apply NF_set) | (with_reducible apply NF_drew) | (with_reducible apply NF_drewN) | (with_reducible apply NF_alloc))) ?_) | exact HE_t181.out | apply ErR_drew | apply ErR_drewN | apply ErR_alloc)); (case side2 => exact Glob_below HG.out (by repeat (first | (with_reducible first | exact HB.out | apply below_alloc | apply pw_below_drewN | apply below_drew1) | exact HB.out))); rintro e w25 ⟨rfl, hb⟩; (try (have nE_ := Aside0.mk (ErR_below hb (by repeat (first | (with_reducible exact HE_t181.out) | (with_reducible apply ErR_drew) | (with_reducible apply ErR_drewN) | (with_reducible apply ErR_alloc) | (with_reducible refine ErR_set (by repeat (first | (with_reducible refine NF_blk (Aside0.out (by assumption)) (by decide)) | (with_reducible apply NF_set) | (with_reducible apply NF_drew) | (with_reducible apply NF_drewN) | (with_reducible apply NF_alloc))) ?_) | exact HE_t181.out | apply ErR_drew | apply ErR_drewN | apply ErR_alloc))); clear HE_t181; have HE_t181 := nE_; clear nE_)); have n0_ := Aside0.mk (Kd.R_below (by (with_reducible repeat (first | apply Kd.R_alloc | apply Kd.R_drewN | apply Kd.R_drew)); exact HO_3.out) hb); have n1_ := Aside0.mk (Kd.R_below (by (with_reducible repeat (first | apply Kd.R_alloc | apply Kd.R_drewN | apply Kd.R_drew)); exact HO_4.out) hb); have n2_ := Aside0.mk (Kd.V_below (by (with_reducible repeat (first | apply Kd.V_alloc | apply Kd.V_drewN | apply Kd.V_drew)); exact HO188.out) hb); have n3_ := Aside0.mk (below_step (by repeat (first | (with_reducible first | exact HB.out | apply below_alloc | apply pw_below_drewN | apply below_drew1) | exact HB.out)) hb); clear HO_3; clear HO_4; clear HO188; clear HB; have HO_3 := n0_; have HO_4 := n1_; have HO188 := n2_; have HB := n3_; clear n0_ n1_ n2_ n3_; (try clear hb); (try clear hb2); (try clear hk); (try clear hi); have hcv26 := own_string (P := Tryd.prog) Tryd.underlying22 Tryd.underlying5 Tryd.underlying9 (Kd.own_of_R HO_4.out); have hcv27 := V_string (P := Tryd.prog) Tryd.underlying22 Tryd.underlying5 Tryd.underlying9 HO188.out))
              go_ret
              exact ⟨by first | rfl | (simp [errW_none, errW_some] <;> rfl) | (simp [*, errW_none, errW_some] <;> rfl), by repeat (first | (with_reducible first | exact HB.out | apply below_alloc | apply pw_below_drewN | apply below_drew1) | exact HB.out)⟩
          · replace c16 := Bool.eq_false_iff.mpr c16
            subst c16
            have H1 : (some false) = some r := by rw [if_neg (show ¬ (false = true) by decide)] at H; exact H
            clear H
            have H := H1
            clear H1
            obtain rfl := Option.some.inj H
            go_wp2_with (first | ((with_reducible refine gate_callee (f := 7) rfl ?_); refine goesL_ (some 33) rfl rfl Tryd.func7 (by kernel_rfl) rfl #[.slice A0 l0.length c0] rfl (by (try simp only [List.map_toArray, List.map_cons, List.map_nil]); first | done | rfl | (simp only [List.length_drop, List.length_take]; rfl)) ?_; (with_reducible refine (geyserref15_Take.calls k1 (fun k_ => k_ < w.heap.size) _ _ l0 t186 t189 _ ?side1 A14.out).mono ?_); (case side1 => exact Kd.V_mk HC0.out (Kd.F_below (Kd.C_F (Kd.heap_int .u8) HR0.out) (by repeat (first | (with_reducible first | exact HB.out | apply below_alloc | apply pw_below_drewN | apply below_drew1) | exact HB.out)))); rintro e w28 ⟨v187, rfl, ho0, hb⟩; refine ⟨_, rfl, ?_⟩; (try (have nE_ := Aside0.mk (ErR_below hb (by repeat (first | (with_reducible exact HE_t181.out) | (with_reducible apply ErR_drew) | (with_reducible apply ErR_drewN) | (with_reducible apply ErR_alloc) | (with_reducible refine ErR_set (by repeat (first | (with_reducible refine NF_blk (Aside0.out (by assumption)) (by decide)) | (with_reducible apply NF_set) | (with_reducible apply NF_drew) | (with_reducible apply NF_drewN) | (with_reducible apply NF_alloc))) ?_) | exact HE_t181.out | apply ErR_drew | apply ErR_drewN | apply ErR_alloc))); clear HE_t181; have HE_t181 := nE_; clear nE_)); have n0_ := Aside0.mk (Kd.R_below (by (with_reducible repeat (first | apply Kd.R_alloc | apply Kd.R_drewN | apply Kd.R_drew)); exact HO_3.out) hb); have n1_ := Aside0.mk (Kd.R_below (by (with_reducible repeat (first | apply Kd.R_alloc | apply Kd.R_drewN | apply Kd.R_drew)); exact HO_4.out) hb); have n2_ := Aside0.mk (Kd.V_lower (Kd.V_mono (ok' := fun k_ => some k_ ≠ (.slice Ao7 x3_1.length co7 : Value).ownBlock ∧ some k_ ≠ (v182 : Value).ownBlock) ho0 (fun k_ hk_ => ⟨Or.elim hk_ (fun hs_ => fun e_ => Nat.not_le.2 hs_ (Kd.R_base HO_3.out k_ e_.symm)) (fun hn_ => (Kd.fresh' (Kd.R_lt (by (with_reducible repeat (first | apply Kd.R_alloc | apply Kd.R_drewN | apply Kd.R_drew)); exact HO_3.out)) k_ hn_)), Or.elim hk_ (fun hs_ => fun e_ => Nat.not_le.2 hs_ (Kd.R_base HO_4.out k_ e_.symm)) (fun hn_ => (Kd.fresh' (Kd.R_lt (by (with_reducible repeat (first | apply Kd.R_alloc | apply Kd.R_drewN | apply Kd.R_drew)); exact HO_4.out)) k_ hn_))⟩)) (below_size (by repeat (first | (with_reducible first | exact HB.out | apply below_alloc | apply pw_below_drewN | apply below_drew1) | exact HB.out)))); have n3_ := Aside0.mk (below_step (by repeat (first | (with_reducible first | exact HB.out | apply below_alloc | apply pw_below_drewN | apply below_drew1) | exact HB.out)) hb); clear HO_3; clear HO_4; clear HB; have HO_3 := n0_; have HO_4 := n1_; have HO188 := n2_; have HB := n3_; clear n0_ n1_ n2_ n3_; (try clear hb); (try clear hb2); (try clear hk); (try clear hi); (try clear ho0)) | (go_at_call 8; (with_reducible refine (tells.calls _ t181 t189 (⟨#[99, 104, 101, 99, 107, 46, 84, 97, 107, 101]⟩ : ByteArray) false _ ?side1 ?side2 A15.out).mono ?_); (case side1 => repeat (first | (with_reducible exact HE_t181.out) | (with_reducible exact ErR_none _) | (with_reducible exact Aside0.out (by assumption)) | (with_reducible apply ErR_drew) | (with_reducible apply ErR_drewN) | (with_reducible apply ErR_alloc) | (with_reducible refine ErR_set (by repeat (first | (with_reducible refine NF_blk (Aside0.out (by assumption)) (by decide)) | (with_reducible apply NF_set) | (with_reducible apply NF_drew) | (with_reducible apply NF_drewN) | (with_reducible apply NF_alloc))) ?_) | exact HE_t181.out | apply ErR_drew | apply ErR_drewN | apply ErR_alloc)); (case side2 => exact Glob_below HG.out (by repeat (first | (with_reducible first | exact HB.out | apply below_alloc | apply pw_below_drewN | apply below_drew1) | exact HB.out))); rintro e w29 ⟨rfl, hb⟩; (try (have nE_ := Aside0.mk (ErR_below hb (by repeat (first | (with_reducible exact HE_t181.out) | (with_reducible apply ErR_drew) | (with_reducible apply ErR_drewN) | (with_reducible apply ErR_alloc) | (with_reducible refine ErR_set (by repeat (first | (with_reducible refine NF_blk (Aside0.out (by assumption)) (by decide)) | (with_reducible apply NF_set) | (with_reducible apply NF_drew) | (with_reducible apply NF_drewN) | (with_reducible apply NF_alloc))) ?_) | exact HE_t181.out | apply ErR_drew | apply ErR_drewN | apply ErR_alloc))); clear HE_t181; have HE_t181 := nE_; clear nE_)); have n0_ := Aside0.mk (Kd.R_below (by (with_reducible repeat (first | apply Kd.R_alloc | apply Kd.R_drewN | apply Kd.R_drew)); exact HO_3.out) hb); have n1_ := Aside0.mk (Kd.R_below (by (with_reducible repeat (first | apply Kd.R_alloc | apply Kd.R_drewN | apply Kd.R_drew)); exact HO_4.out) hb); have n2_ := Aside0.mk (Kd.V_below (by (with_reducible repeat (first | apply Kd.V_alloc | apply Kd.V_drewN | apply Kd.V_drew)); exact HO188.out) hb); have n3_ := Aside0.mk (below_step (by repeat (first | (with_reducible first | exact HB.out | apply below_alloc | apply pw_below_drewN | apply below_drew1) | exact HB.out)) hb); clear HO_3; clear HO_4; clear HO188; clear HB; have HO_3 := n0_; have HO_4 := n1_; have HO188 := n2_; have HB := n3_; clear n0_ n1_ n2_ n3_; (try clear hb); (try clear hb2); (try clear hk); (try clear hi)))
            go_ret
            exact ⟨by first | rfl | (simp [errW_none, errW_some] <;> rfl) | (simp [*, errW_none, errW_some] <;> rfl), by repeat (first | (with_reducible first | exact HB.out | apply below_alloc | apply pw_below_drewN | apply below_drew1) | exact HB.out)⟩
  · rw [if_neg c2] at H
    exact absurd H (by simp)

/-- THE ONE PURE STATEMENT of geyserlaw15_CheckTakes: yours. -/
def geyserlaw15_CheckTakes.Pure : Prop := ∀ (l0 : List Int), l0.length ≤ maxLen → l0.length * 1 ≤ 140737488351232 → (∀ x ∈ l0, (Lit.int .u8 x).wf = true) → ∃ k, geyserlaw15_CheckTakes.f k l0 = some true
theorem geyserlaw15_CheckTakes.walk (P : geyserlaw15_CheckTakes.Pure) (a0 : Option Addr) (len0 cap0 : Nat) (z0 : List Int) (w : World) (w0 : (a0 = none ∧ len0 = 0 ∧ cap0 = 0 ∧ z0 = []) ∨ ∃ x, a0 = some x ∧ len0 ≤ cap0 ∧ cap0 ≤ maxLen ∧ z0.length = cap0 ∧ (∀ i, i < z0.length → w.cell? (x.add i) = some (.int .u8 (z0.getD i 0))) ∧ ∀ n ∈ z0, (Lit.int .u8 n).wf = true) (y0 : len0 * 1 ≤ 140737488351232) (hG : Glob w) :
    Calls Tryd.prog 3 #[.slice a0 len0 cap0] w fun e w' => e = .returned (.bool true) ∧ Below w.heap.size w w' := by
  obtain ⟨l0, rfl, hr0, hm0, hw0, hc0⟩ := ReadsInt.ofRowC w0
  obtain ⟨k, h⟩ := P l0 hm0 y0 hw0
  refine (geyserlaw15_CheckTakes.calls k _ _ l0 true w (Kd.C_of_reads (d := (0 : Int)) (h1 := fun _ => rfl) hr0) hc0 hG h).mono ?_
  rintro e w' ⟨rfl, hd⟩
  exact ⟨rfl, hd⟩

end Go.Proofs.YtdiimfldkbpagaaDoor.QCheckTakes
