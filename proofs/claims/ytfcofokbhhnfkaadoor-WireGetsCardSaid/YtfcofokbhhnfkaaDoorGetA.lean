/- wire.Get of what is no packet of data, by its contract. Conditions: bytes as they may be read. Printed by mkget2.py. -/
import Derived.Test.YtfcofokbhhnfkaaDoorGet
import Derived.Test.YtfcofokbhhnfkaaDoorGsa
namespace Go.Proofs.YtfcofokbhhnfkaaDoor.Byt
set_option linter.unusedSimpArgs false
set_option linter.unusedVariables false
open Go.RowKit Go.Deep Go.Proofs.YtfcofokbhhnfkaaDoor.Er Go.Proofs.YtfcofokbhhnfkaaDoorW.PrintWords Go.Proofs.YtfcofokbhhnfkaaDoorW.PrintLast Go.Proofs.YtfcofokbhhnfkaaDoorW.PrintMore
attribute [local irreducible] nxtV nxtL nxtB
theorem body_ann {B l1 l2 l3 l4 l5 l6 l7 l8 l9 l10 l11 l12 l13 : List Int} {b1 b2 b3 b4 b5 b6 b7 b8 b9 b10 b11 b12 b13 : Bool} {k2 k3 k4 k5 k6 k7 k8 k9 k10 k11 k12 k13 : Int} (hk : nxtV B 1 = 2) (h1 : 2 = nxtV B 1 ∧ l1 = nxtL B 1 ∧ b1 = nxtB B false 1) (h2 : k2 = nxtV l1 2 ∧ l2 = nxtL l1 2 ∧ b2 = nxtB l1 b1 2) (h3 : k3 = nxtV l2 1 ∧ l3 = nxtL l2 1 ∧ b3 = nxtB l2 b2 1) (h4 : k4 = nxtV l3 5 ∧ l4 = nxtL l3 5 ∧ b4 = nxtB l3 b3 5) (h5 : k5 = nxtV l4 4 ∧ l5 = nxtL l4 4 ∧ b5 = nxtB l4 b4 4) (h6 : k6 = nxtV l5 1 ∧ l6 = nxtL l5 1 ∧ b6 = nxtB l5 b5 1) (h7 : k7 = nxtV l6 1 ∧ l7 = nxtL l6 1 ∧ b7 = nxtB l6 b6 1) (h8 : k8 = nxtV l7 1 ∧ l8 = nxtL l7 1 ∧ b8 = nxtB l7 b7 1) (h9 : k9 = nxtV l8 1 ∧ l9 = nxtL l8 1 ∧ b9 = nxtB l8 b8 1) (h10 : k10 = nxtV l9 1 ∧ l10 = nxtL l9 1 ∧ b10 = nxtB l9 b9 1) (h11 : k11 = nxtV l10 2 ∧ l11 = nxtL l10 2 ∧ b11 = nxtB l10 b10 2) (h12 : k12 = nxtV l11 2 ∧ l12 = nxtL l11 2 ∧ b12 = nxtB l11 b11 2) (h13 : k13 = nxtV l12 2 ∧ l13 = nxtL l12 2 ∧ b13 = nxtB l12 b12 2) :
    bodyG B = finG (b13 || decide (0 < l13.length)) (Pk.mk 2 k2 k3 k4 false 0 0 0 0 0 [] k5 k6 k7 k8 k9 k10 (k11 + 1) k12 k13) := by
  obtain ⟨e1, rfl, rfl⟩ := h1
  obtain ⟨rfl, rfl, rfl⟩ := h2
  obtain ⟨rfl, rfl, rfl⟩ := h3
  obtain ⟨rfl, rfl, rfl⟩ := h4
  obtain ⟨rfl, rfl, rfl⟩ := h5
  obtain ⟨rfl, rfl, rfl⟩ := h6
  obtain ⟨rfl, rfl, rfl⟩ := h7
  obtain ⟨rfl, rfl, rfl⟩ := h8
  obtain ⟨rfl, rfl, rfl⟩ := h9
  obtain ⟨rfl, rfl, rfl⟩ := h10
  obtain ⟨rfl, rfl, rfl⟩ := h11
  obtain ⟨rfl, rfl, rfl⟩ := h12
  obtain ⟨rfl, rfl, rfl⟩ := h13
  simp only [bodyG, annG, pk0, hk, if_true, show ¬ (2 : Int) = 1 by decide, if_false]
set_option maxHeartbeats 8000000 in
set_option maxRecDepth 100000 in
theorem Get_ann {D : Nat → Prop} (w : World) (v : Value) (l B : List Int) (hl : RdB D w v l) (hD : ∀ k, D k → k < w.heap.size) (ht : er takeN (takeE l) = none ∧ takeL l = B) (hk : nxtV B 1 = 2) :
    Calls Tryd.prog 14 #[v] w fun e w' => ∃ v' ev, e = .returned (.tuple #[pkV (bodyG B).1 v', ev]) ∧ ErR w' ev (er getN (bodyG B).2) ∧ OB w.heap.size w' v' ((bodyG B).1).data ∧ Below w.heap.size w w' := by
  have HR := Lib.hid hl
  have HD := Lib.hid hD
  have HT := Lib.hid ht
  have HK := Lib.hid hk
  clear hl hD ht hk
  go_enter Tryd.func14, Tryd.ntmps14
  go_upto_region 4 with (first
    | ((with_reducible refine gate_dst (N := 2) rfl ?_); refine wp_allocPk rfl rfl ?_; intro w1 hP hB hs; have HP := Lib.hid hP; have HB := Lib.hid (And.intro hB hs); clear hP hB hs)
    | (go_at_call 30
       refine (Take_calls (D := D) w1 v l (HR.out.keep (fun k hk => HB.out.1.block k (HD.out k hk))) (fun k hk => Nat.lt_of_lt_of_le (HD.out k hk) HB.out.1.size)).mono ?_
       rw [HT.out.1, HT.out.2]
       rintro e wd ⟨bv, ev, rfl, h1, h2, h3⟩
       obtain rfl := ErR_nil h1
       have HE := Lib.hid (And.intro h2 (And.intro (HB.out.1.trans (h3.mono HB.out.1.size)) h3))
       have HP2 := Lib.hid (HP.out.below h3)
       clear h1 h2 h3))
  obtain ⟨Ab, cb, hbv, hcb⟩ := HE.out.1.val
  subst hbv
  have HG0 : Hid (GS0 w wd w.heap.size wd.heap.size B false (wd.alloc (.cells #[.slice Ab B.length cb, .bool false] 63))) := Lib.hid ⟨HE.out.2.1.alloc HE.out.2.1.size _, (Below.refl _ _).alloc (Nat.le_refl _) _, HP2.out.below ((Below.refl _ _).alloc (Nat.le_refl _) _), ⟨Ab, cb, heap_new _ _, HE.out.1.rb.rdlt, hcb⟩, Nat.le_refl _, lt_of HP2.out, Nat.le_refl _, HE.out.2.1.size⟩
  go_upto_region 5 with (fail)
  generalize wd.alloc (.cells #[.slice Ab B.length cb, .bool false] 63) = we at HG0 ⊢
  generalize hob : wd.heap.size = ob at HG0 ⊢
  have HSG0 := HG0
  clear HG0
  go_upto_region 6 with (first
    | ((with_reducible refine gate_dst (N := 7) rfl ?_); refine wp_allocPk rfl rfl ?_; intro wp hP hB hs; have HPP := Lib.hid (And.intro hP (And.intro hB hs)); clear hP hB hs)
    | ((with_reducible refine gate_store (t := 26) (p := 7) rfl ?_)
       refine wp_stpk (p := Pk.mk k1 k2 k3 k4 false 0 0 0 0 0 [] 0 0 0 0 0 0 0 0 0) (A := none) (L := 0) (c := 0) rfl rfl rfl rfl HPP.out.1 rfl ?_
       intro wq hP hO
       have HGS4 := Lib.hid (HSG4.out.box rfl HPP.out.2.1 HPP.out.2.2 hO hP)
       clear hP hO)
    | (go_at_call 31
       refine (HSG0.out.next 1 (by decide)).mono ?_
       rintro e wn1 ⟨rfl, hS⟩
       obtain ⟨k1, hk1⟩ : ∃ q, q = nxtV B 1 := ⟨_, rfl⟩
       obtain ⟨l1, hl1⟩ : ∃ q, q = nxtL B 1 := ⟨_, rfl⟩
       obtain ⟨b1, hb1⟩ : ∃ q, q = nxtB B false 1 := ⟨_, rfl⟩
       rw [← hk1]
       rw [← hl1, ← hb1] at hS
       have HQ1 := Lib.hid (And.intro hk1 (And.intro hl1 hb1))
       have HSG1 := Lib.hid hS
       clear hS hk1 hl1 hb1 HSG0)
    | (go_at_call 31
       refine (HSG1.out.next 2 (by decide)).mono ?_
       rintro e wn2 ⟨rfl, hS⟩
       obtain ⟨k2, hk2⟩ : ∃ q, q = nxtV l1 2 := ⟨_, rfl⟩
       obtain ⟨l2, hl2⟩ : ∃ q, q = nxtL l1 2 := ⟨_, rfl⟩
       obtain ⟨b2, hb2⟩ : ∃ q, q = nxtB l1 b1 2 := ⟨_, rfl⟩
       rw [← hk2]
       rw [← hl2, ← hb2] at hS
       have HQ2 := Lib.hid (And.intro hk2 (And.intro hl2 hb2))
       have HSG2 := Lib.hid hS
       clear hS hk2 hl2 hb2 HSG1)
    | (go_at_call 31
       refine (HSG2.out.next 1 (by decide)).mono ?_
       rintro e wn3 ⟨rfl, hS⟩
       obtain ⟨k3, hk3⟩ : ∃ q, q = nxtV l2 1 := ⟨_, rfl⟩
       obtain ⟨l3, hl3⟩ : ∃ q, q = nxtL l2 1 := ⟨_, rfl⟩
       obtain ⟨b3, hb3⟩ : ∃ q, q = nxtB l2 b2 1 := ⟨_, rfl⟩
       rw [← hk3]
       rw [← hl3, ← hb3] at hS
       have HQ3 := Lib.hid (And.intro hk3 (And.intro hl3 hb3))
       have HSG3 := Lib.hid hS
       clear hS hk3 hl3 hb3 HSG2)
    | (go_at_call 31
       refine (HSG3.out.next 5 (by decide)).mono ?_
       rintro e wn4 ⟨rfl, hS⟩
       obtain ⟨k4, hk4⟩ : ∃ q, q = nxtV l3 5 := ⟨_, rfl⟩
       obtain ⟨l4, hl4⟩ : ∃ q, q = nxtL l3 5 := ⟨_, rfl⟩
       obtain ⟨b4, hb4⟩ : ∃ q, q = nxtB l3 b3 5 := ⟨_, rfl⟩
       rw [← hk4]
       rw [← hl4, ← hb4] at hS
       have HQ4 := Lib.hid (And.intro hk4 (And.intro hl4 hb4))
       have HSG4 := Lib.hid hS
       clear hS hk4 hl4 hb4 HSG3))
  clear HPP HSG4 hob
  generalize wn4.heap.size = pb at HGS4 ⊢
  have hk1 := HQ1.out.1
  obtain rfl : k1 = 2 := hk1.trans HK.out
  clear hk1
  have s0 : wq.cell? ⟨pb, 0, none⟩ = some (.int .i64 2) := (blk_cell HGS4.out.P 0).trans rfl
  go_upto_region 15 with (first
    | (go_at_call 31
       refine (HGS4.out.next 4 (by decide)).mono ?_
       rintro e wn5 ⟨rfl, hS⟩
       obtain ⟨k5, hk5⟩ : ∃ q, q = nxtV l4 4 := ⟨_, rfl⟩
       obtain ⟨l5, hl5⟩ : ∃ q, q = nxtL l4 4 := ⟨_, rfl⟩
       obtain ⟨b5, hb5⟩ : ∃ q, q = nxtB l4 b4 4 := ⟨_, rfl⟩
       rw [← hk5]
       rw [← hl5, ← hb5] at hS
       have HQ5 := Lib.hid (And.intro hk5 (And.intro hl5 hb5))
       have HGS5 := Lib.hid hS
       clear hS hk5 hl5 hb5 HGS4
       have s11 : wn5.cell? ⟨pb, 11, none⟩ = some (.int .i64 0) := (blk_cell HGS5.out.P 11).trans rfl
       have f11 := blk_frozen HGS5.out.P 11))
  clear s0
  have HGSa := Lib.hid (HGS5.out.put 11 (.int .i64 k5) (Pk.mk 2 k2 k3 k4 false 0 0 0 0 0 [] k5 0 0 0 0 0 0 0 0) (.slice none 0 0) rfl)
  clear s11 f11
  generalize (wn5.setCell ⟨pb, 11, none⟩ (.int .i64 k5)) = wa at HGSa ⊢
  clear HGS5
  go_upto_region 16 with (first
    | (go_at_call 31
       refine (HGSa.out.next 1 (by decide)).mono ?_
       rintro e wn6 ⟨rfl, hS⟩
       obtain ⟨k6, hk6⟩ : ∃ q, q = nxtV l5 1 := ⟨_, rfl⟩
       obtain ⟨l6, hl6⟩ : ∃ q, q = nxtL l5 1 := ⟨_, rfl⟩
       obtain ⟨b6, hb6⟩ : ∃ q, q = nxtB l5 b5 1 := ⟨_, rfl⟩
       rw [← hk6]
       rw [← hl6, ← hb6] at hS
       have HQ6 := Lib.hid (And.intro hk6 (And.intro hl6 hb6))
       have HGS6 := Lib.hid hS
       clear hS hk6 hl6 hb6 HGSa)
    | (go_at_call 31
       refine (HGS6.out.next 1 (by decide)).mono ?_
       rintro e wn7 ⟨rfl, hS⟩
       obtain ⟨k7, hk7⟩ : ∃ q, q = nxtV l6 1 := ⟨_, rfl⟩
       obtain ⟨l7, hl7⟩ : ∃ q, q = nxtL l6 1 := ⟨_, rfl⟩
       obtain ⟨b7, hb7⟩ : ∃ q, q = nxtB l6 b6 1 := ⟨_, rfl⟩
       rw [← hk7]
       rw [← hl7, ← hb7] at hS
       have HQ7 := Lib.hid (And.intro hk7 (And.intro hl7 hb7))
       have HGS7 := Lib.hid hS
       clear hS hk7 hl7 hb7 HGS6)
    | (go_at_call 31
       refine (HGS7.out.next 1 (by decide)).mono ?_
       rintro e wn8 ⟨rfl, hS⟩
       obtain ⟨k8, hk8⟩ : ∃ q, q = nxtV l7 1 := ⟨_, rfl⟩
       obtain ⟨l8, hl8⟩ : ∃ q, q = nxtL l7 1 := ⟨_, rfl⟩
       obtain ⟨b8, hb8⟩ : ∃ q, q = nxtB l7 b7 1 := ⟨_, rfl⟩
       rw [← hk8]
       rw [← hl8, ← hb8] at hS
       have HQ8 := Lib.hid (And.intro hk8 (And.intro hl8 hb8))
       have HGS8 := Lib.hid hS
       clear hS hk8 hl8 hb8 HGS7)
    | (go_at_call 31
       refine (HGS8.out.next 1 (by decide)).mono ?_
       rintro e wn9 ⟨rfl, hS⟩
       obtain ⟨k9, hk9⟩ : ∃ q, q = nxtV l8 1 := ⟨_, rfl⟩
       obtain ⟨l9, hl9⟩ : ∃ q, q = nxtL l8 1 := ⟨_, rfl⟩
       obtain ⟨b9, hb9⟩ : ∃ q, q = nxtB l8 b8 1 := ⟨_, rfl⟩
       rw [← hk9]
       rw [← hl9, ← hb9] at hS
       have HQ9 := Lib.hid (And.intro hk9 (And.intro hl9 hb9))
       have HGS9 := Lib.hid hS
       clear hS hk9 hl9 hb9 HGS8)
    | (go_at_call 31
       refine (HGS9.out.next 1 (by decide)).mono ?_
       rintro e wn10 ⟨rfl, hS⟩
       obtain ⟨k10, hk10⟩ : ∃ q, q = nxtV l9 1 := ⟨_, rfl⟩
       obtain ⟨l10, hl10⟩ : ∃ q, q = nxtL l9 1 := ⟨_, rfl⟩
       obtain ⟨b10, hb10⟩ : ∃ q, q = nxtB l9 b9 1 := ⟨_, rfl⟩
       rw [← hk10]
       rw [← hl10, ← hb10] at hS
       have HQ10 := Lib.hid (And.intro hk10 (And.intro hl10 hb10))
       have HGS10 := Lib.hid hS
       clear hS hk10 hl10 hb10 HGS9
       have s12 : wn10.cell? ⟨pb, 12, none⟩ = some (.int .i64 0) := (blk_cell HGS10.out.P 12).trans rfl
       have f12 := blk_frozen HGS10.out.P 12
       have s13 : wn10.cell? ⟨pb, 13, none⟩ = some (.int .i64 0) := (blk_cell HGS10.out.P 13).trans rfl
       have f13 := blk_frozen HGS10.out.P 13
       have s14 : wn10.cell? ⟨pb, 14, none⟩ = some (.int .i64 0) := (blk_cell HGS10.out.P 14).trans rfl
       have f14 := blk_frozen HGS10.out.P 14
       have s15 : wn10.cell? ⟨pb, 15, none⟩ = some (.int .i64 0) := (blk_cell HGS10.out.P 15).trans rfl
       have f15 := blk_frozen HGS10.out.P 15
       have s16 : wn10.cell? ⟨pb, 16, none⟩ = some (.int .i64 0) := (blk_cell HGS10.out.P 16).trans rfl
       have f16 := blk_frozen HGS10.out.P 16))
  have HGSb := Lib.hid (((((HGS10.out.put 12 (.int .i64 k6) (Pk.mk 2 k2 k3 k4 false 0 0 0 0 0 [] k5 k6 0 0 0 0 0 0 0) (.slice none 0 0) rfl).put 13 (.int .i64 k7) (Pk.mk 2 k2 k3 k4 false 0 0 0 0 0 [] k5 k6 k7 0 0 0 0 0 0) (.slice none 0 0) rfl).put 14 (.int .i64 k8) (Pk.mk 2 k2 k3 k4 false 0 0 0 0 0 [] k5 k6 k7 k8 0 0 0 0 0) (.slice none 0 0) rfl).put 15 (.int .i64 k9) (Pk.mk 2 k2 k3 k4 false 0 0 0 0 0 [] k5 k6 k7 k8 k9 0 0 0 0) (.slice none 0 0) rfl).put 16 (.int .i64 k10) (Pk.mk 2 k2 k3 k4 false 0 0 0 0 0 [] k5 k6 k7 k8 k9 k10 0 0 0) (.slice none 0 0) rfl)
  clear s12 f12 s13 f13 s14 f14 s15 f15 s16 f16
  generalize (((((wn10.setCell ⟨pb, 12, none⟩ (.int .i64 k6)).setCell ⟨pb, 13, none⟩ (.int .i64 k7)).setCell ⟨pb, 14, none⟩ (.int .i64 k8)).setCell ⟨pb, 15, none⟩ (.int .i64 k9)).setCell ⟨pb, 16, none⟩ (.int .i64 k10)) = wb at HGSb ⊢
  clear HGS10
  have HGSQ : Hid (∀ {q : Int}, q = nxtV l10 2 → wrap64 (q + 1) = q + 1) := Lib.hid (fun e => by have := HGSb.out.O.nx2; rw [← e] at this; exact esis_eq this)
  go_upto_region 17 with (first
    | (go_at_call 31
       refine (HGSb.out.next 2 (by decide)).mono ?_
       rintro e wn11 ⟨rfl, hS⟩
       obtain ⟨k11, hk11⟩ : ∃ q, q = nxtV l10 2 := ⟨_, rfl⟩
       obtain ⟨l11, hl11⟩ : ∃ q, q = nxtL l10 2 := ⟨_, rfl⟩
       obtain ⟨b11, hb11⟩ : ∃ q, q = nxtB l10 b10 2 := ⟨_, rfl⟩
       rw [← hk11]
       rw [← hl11, ← hb11] at hS
       have HQ11 := Lib.hid (And.intro hk11 (And.intro hl11 hb11))
       have HGS11 := Lib.hid hS
       clear hS hk11 hl11 hb11 HGSb)
    | (go_at_call 31
       refine (HGS11.out.next 2 (by decide)).mono ?_
       rintro e wn12 ⟨rfl, hS⟩
       obtain ⟨k12, hk12⟩ : ∃ q, q = nxtV l11 2 := ⟨_, rfl⟩
       obtain ⟨l12, hl12⟩ : ∃ q, q = nxtL l11 2 := ⟨_, rfl⟩
       obtain ⟨b12, hb12⟩ : ∃ q, q = nxtB l11 b11 2 := ⟨_, rfl⟩
       rw [← hk12]
       rw [← hl12, ← hb12] at hS
       have HQ12 := Lib.hid (And.intro hk12 (And.intro hl12 hb12))
       have HGS12 := Lib.hid hS
       clear hS hk12 hl12 hb12 HGS11)
    | (go_at_call 31
       refine (HGS12.out.next 2 (by decide)).mono ?_
       rintro e wn13 ⟨rfl, hS⟩
       obtain ⟨k13, hk13⟩ : ∃ q, q = nxtV l12 2 := ⟨_, rfl⟩
       obtain ⟨l13, hl13⟩ : ∃ q, q = nxtL l12 2 := ⟨_, rfl⟩
       obtain ⟨b13, hb13⟩ : ∃ q, q = nxtB l12 b12 2 := ⟨_, rfl⟩
       rw [← hk13]
       rw [← hl13, ← hb13] at hS
       have HQ13 := Lib.hid (And.intro hk13 (And.intro hl13 hb13))
       have HGS13 := Lib.hid hS
       clear hS hk13 hl13 hb13 HGS12
       have s17 : wn13.cell? ⟨pb, 17, none⟩ = some (.int .i64 0) := (blk_cell HGS13.out.P 17).trans rfl
       have f17 := blk_frozen HGS13.out.P 17
       have s18 : wn13.cell? ⟨pb, 18, none⟩ = some (.int .i64 0) := (blk_cell HGS13.out.P 18).trans rfl
       have f18 := blk_frozen HGS13.out.P 18
       have s19 : wn13.cell? ⟨pb, 19, none⟩ = some (.int .i64 0) := (blk_cell HGS13.out.P 19).trans rfl
       have f19 := blk_frozen HGS13.out.P 19))
  have hk11 := HGSQ.out HQ11.out.1
  have HGSc := Lib.hid (((HGS13.out.put 17 (.int .i64 (wrap64 (k11 + 1))) (Pk.mk 2 k2 k3 k4 false 0 0 0 0 0 [] k5 k6 k7 k8 k9 k10 (wrap64 (k11 + 1)) 0 0) (.slice none 0 0) rfl).put 18 (.int .i64 k12) (Pk.mk 2 k2 k3 k4 false 0 0 0 0 0 [] k5 k6 k7 k8 k9 k10 (wrap64 (k11 + 1)) k12 0) (.slice none 0 0) rfl).put 19 (.int .i64 k13) (Pk.mk 2 k2 k3 k4 false 0 0 0 0 0 [] k5 k6 k7 k8 k9 k10 (wrap64 (k11 + 1)) k12 k13) (.slice none 0 0) rfl)
  clear s17 f17 s18 f18 s19 f19
  generalize (((wn13.setCell ⟨pb, 17, none⟩ (.int .i64 (wrap64 (k11 + 1)))).setCell ⟨pb, 18, none⟩ (.int .i64 k12)).setCell ⟨pb, 19, none⟩ (.int .i64 k13)) = wc at HGSc ⊢
  clear HGS13
  rw [hk11] at HGSc
  clear hk11
  have HBG : Hid (bodyG B = finG (b13 || decide (0 < l13.length)) (Pk.mk 2 k2 k3 k4 false 0 0 0 0 0 [] k5 k6 k7 k8 k9 k10 (k11 + 1) k12 k13)) := Lib.hid (body_ann HK.out HQ1.out HQ2.out HQ3.out HQ4.out HQ5.out HQ6.out HQ7.out HQ8.out HQ9.out HQ10.out HQ11.out HQ12.out HQ13.out)
  obtain ⟨Ao, co, so0, so1, hob1⟩ := HGSc.out.offc
  have fo1 := blk_frozen hob1 1
  clear hob1
  by_cases hb0 : b13 = true
  · subst hb0
    have HBF : Hid (bodyG B = (pk0, 2)) := Lib.hid HBG.out
    go_upto_region 19 with (fail)
    have HGSF := Lib.hid (HGSc.out.bad true)
    clear so0 so1 fo1 HGSc
    generalize wc.setCell ⟨ob, 1, none⟩ (.bool true) = wF at HGSF ⊢
    have so1 : wF.cell? ⟨ob, 1, none⟩ = some (.bool true) := HGSF.out.offc.choose_spec.choose_spec.2.1
    have HE0 : Hid (PkAt wF w.heap.size pk0 (.slice none 0 0)) := Lib.hid HGSF.out.R
    go_wp2_with (first
      | (go_at_call 19
         refine (fault_New.calls _ 2 (er getN 2) _ rfl).mono ?_
         rintro e w3 ⟨ev, rfl, h1, h2⟩
         have HE3 := Lib.hid (And.intro h1 (HGSF.out.below h2))
         clear h1 h2)
      | ((with_reducible refine gate_store (t := 26) (p := 2) rfl ?_)
         refine wp_stpk (p := pk0) (A := none) (L := 0) (c := 0) rfl rfl rfl rfl HE3.out.2.R rfl ?_
         intro w4 hP hO
         have HE4 := Lib.hid (And.intro hP hO)
         clear hP hO))
    (try simp only [Exit.inBlock, Exit.then])
    refine bodyPost_ret (results_ct rfl _ _ w.heap.size _ _ _ _ rfl HE4.out.1 Tryd.underlying26 rfl (show (Tryd.prog.info? 26).map (·.size) = some 20 by kernel_rfl)) rfl ?_
    rw [HBF.out]
    exact ⟨.slice none 0 0, _, rfl, ErR_only HE4.out.2 HE3.out.2.R HE3.out.1, OB.nil _ _, HE4.out.2.below HE3.out.2.B0 HE3.out.2.h1⟩
  obtain rfl : b13 = false := by cases b13 <;> simp_all
  clear hb0
  by_cases hl0 : l13 = []
  · subst hl0
    go_upto_region 19 with (fail)
    have HGSE := Lib.hid (HGSc.out.bad false)
    clear so0 so1 fo1 HGSc
    generalize wc.setCell ⟨ob, 1, none⟩ (.bool false) = wE at HGSE ⊢
    have HOE : Hid (OB w.heap.size wE (.slice none 0 0) []) := Lib.hid (OB.nil _ _)
    obtain ⟨bF, hbF, HG9⟩ : ∃ q, q = false ∧ Hid (GS w wd w.heap.size ob pb (Pk.mk 2 k2 k3 k4 false 0 0 0 0 0 [] k5 k6 k7 k8 k9 k10 (k11 + 1) k12 k13) (.slice none 0 0) [] q wE) := ⟨false, rfl, HGSE⟩
    clear HGSE
    have HGSE := HG9
    clear HG9
    have HBX : Hid (bodyG B = finG bF (Pk.mk 2 k2 k3 k4 false 0 0 0 0 0 [] k5 k6 k7 k8 k9 k10 (k11 + 1) k12 k13)) := Lib.hid (by rw [hbF]; exact HBG.out)
    clear HBG hbF
    obtain ⟨pF, hpF⟩ : ∃ q, q = Pk.mk 2 k2 k3 k4 false 0 0 0 0 0 [] k5 k6 k7 k8 k9 k10 (k11 + 1) k12 k13 := ⟨_, rfl⟩
    rw [← hpF] at HGSE
    have HL : Hid (0 = pF.data.length) := Lib.hid (by subst hpF; rfl)
    have HD2 : Hid (OB w.heap.size wE (.slice none 0 0) pF.data) := Lib.hid (by rw [hpF]; exact HOE.out)
    have HBG : Hid (bodyG B = finG bF pF) := Lib.hid (by rw [hpF]; exact HBX.out)
    clear HOE hpF
    have HOE := HD2
    clear HD2
    have so1 : wE.cell? ⟨ob, 1, none⟩ = some (.bool bF) := by
      obtain ⟨Ao, co, hoc, _, _⟩ := HGSE.out.O
      exact (blk_cell hoc 1).trans rfl
    obtain ⟨n, hn⟩ : ∃ n, n = whyP pF := ⟨_, rfl⟩
    by_cases hb0 : bF = true
    · subst hb0
      have HF : Hid (finG true pF = (pk0, 2)) := Lib.hid rfl
      clear HOE hn
      go_wp2_with (first
        | (go_at_call 19
           refine (fault_New.calls _ 2 (er getN 2) _ rfl).mono ?_
           rintro e w3 ⟨ev, rfl, h1, h2⟩
           have HE3 := Lib.hid (And.intro h1 (HGSE.out.below h2))
           clear h1 h2)
        | ((with_reducible refine gate_store (t := 26) (p := 2) rfl ?_)
           refine wp_stpk (p := pk0) (A := none) (L := 0) (c := 0) rfl rfl rfl rfl HE3.out.2.R rfl ?_
           intro w4 hP hO
           have HE4 := Lib.hid (And.intro hP hO)
           clear hP hO))
      (try simp only [Exit.inBlock, Exit.then])
      refine bodyPost_ret (results_ct rfl _ _ w.heap.size _ _ _ _ rfl HE4.out.1 Tryd.underlying26 rfl (show (Tryd.prog.info? 26).map (·.size) = some 20 by kernel_rfl)) rfl ?_
      rw [HBG.out, HF.out]
      exact ⟨.slice none 0 0, _, rfl, ErR_only HE4.out.2 HE3.out.2.R HE3.out.1, OB.nil _ _, HE4.out.2.below HE3.out.2.B0 HE3.out.2.h1⟩
    obtain rfl : bF = false := by cases bF <;> simp_all
    clear hb0
    by_cases h0 : n = 0
    · subst h0
      have HN : Hid (whyP pF = 0) := Lib.hid hn.symm
      have HF : Hid (finG false pF = (pF, 0)) := Lib.hid (by unfold finG; rw [if_neg (by decide), if_pos HN.out])
      clear hn
      go_wp2_with (first
        | ((with_reducible refine gate_dst (N := 123) rfl ?_); refine wp_ldpk_want (by rfl) (.tmp 7) rfl rfl HGSE.out.P ?_)
        | (go_at_call 20
           refine (why_calls pF none 0 0 _ HL.out).mono ?_
           rw [HN.out]
           rintro e wy ⟨rfl, hb⟩
           have HB9 := HGSE
           clear HGSE
           have HGSE := Lib.hid (HB9.out.below hb)
           have HOF := Lib.hid (HOE.out.below hb)
           clear hb HB9)
        | ((with_reducible refine gate_dst (N := 129) rfl ?_); refine wp_ldpk rfl (.tmp 7) rfl rfl HGSE.out.P ?_)
        | ((with_reducible refine gate_store (t := 26) (p := 2) rfl ?_)
           refine wp_stpk (p := pF) (A := none) (L := 0) (c := 0) rfl rfl rfl rfl HGSE.out.R rfl ?_
           intro w4 hP hO
           have HE4 := Lib.hid (And.intro hP hO)
           clear hP hO))
      (try simp only [Exit.inBlock, Exit.then])
      refine bodyPost_ret (results_ct rfl _ _ w.heap.size _ _ _ _ rfl HE4.out.1 Tryd.underlying26 rfl (show (Tryd.prog.info? 26).map (·.size) = some 20 by kernel_rfl)) rfl ?_
      rw [HBG.out, HF.out]
      exact ⟨(.slice none 0 0), .nilIface, rfl, rfl, HOF.out.only HE4.out.2 HGSE.out.R, HE4.out.2.below HGSE.out.B0 HGSE.out.h1⟩
    · have HN : Hid (whyP pF = n) := Lib.hid hn.symm
      have hne : (n != 0) = true := bne_iff_ne.2 h0
      have HF : Hid (finG false pF = (pk0, 2)) := Lib.hid (by unfold finG; rw [if_neg (by decide), if_neg (by rw [HN.out]; exact h0)])
      clear hn h0
      go_wp2_with (first
        | ((with_reducible refine gate_dst (N := 123) rfl ?_); refine wp_ldpk_want (by rfl) (.tmp 7) rfl rfl HGSE.out.P ?_)
        | (go_at_call 20
           refine (why_calls pF none 0 0 _ HL.out).mono ?_
           rw [HN.out]
           rintro e wy ⟨rfl, hb⟩
           have HB9 := HGSE
           clear HGSE
           have HGSE := Lib.hid (HB9.out.below hb)
           have HOF := Lib.hid (HOE.out.below hb)
           clear hb HB9)
        | (go_at_call 19
           refine (fault_New.calls _ 2 (er getN 2) _ rfl).mono ?_
           rintro e w3 ⟨ev, rfl, h1, h2⟩
           have HE3 := Lib.hid (And.intro h1 (HGSE.out.below h2))
           clear h1 h2)
        | ((with_reducible refine gate_store (t := 26) (p := 2) rfl ?_)
           refine wp_stpk (p := pk0) (A := none) (L := 0) (c := 0) rfl rfl rfl rfl HE3.out.2.R rfl ?_
           intro w4 hP hO
           have HE4 := Lib.hid (And.intro hP hO)
           clear hP hO))
      (try simp only [Exit.inBlock, Exit.then])
      refine bodyPost_ret (results_ct rfl _ _ w.heap.size _ _ _ _ rfl HE4.out.1 Tryd.underlying26 rfl (show (Tryd.prog.info? 26).map (·.size) = some 20 by kernel_rfl)) rfl ?_
      rw [HBG.out, HF.out]
      exact ⟨.slice none 0 0, _, rfl, ErR_only HE4.out.2 HE3.out.2.R HE3.out.1, OB.nil _ _, HE4.out.2.below HE3.out.2.B0 HE3.out.2.h1⟩
  · have hlp : 0 < l13.length := List.length_pos_iff.2 hl0
    have c1 : decide (0 < l13.length) = true := decide_eq_true hlp
    have c2 : decide ((0 : Int) < (l13.length : Int)) = true := decide_eq_true (by omega)
    have HBF : Hid (bodyG B = (pk0, 2)) := Lib.hid (by rw [HBG.out, c1]; rfl)
    go_upto_region 19 with (fail)
    have HGSF := Lib.hid (HGSc.out.bad true)
    clear so0 so1 fo1 HGSc c1 c2 hlp hl0
    generalize wc.setCell ⟨ob, 1, none⟩ (.bool true) = wF at HGSF ⊢
    have so1 : wF.cell? ⟨ob, 1, none⟩ = some (.bool true) := HGSF.out.offc.choose_spec.choose_spec.2.1
    have HE0 : Hid (PkAt wF w.heap.size pk0 (.slice none 0 0)) := Lib.hid HGSF.out.R
    go_wp2_with (first
      | (go_at_call 19
         refine (fault_New.calls _ 2 (er getN 2) _ rfl).mono ?_
         rintro e w3 ⟨ev, rfl, h1, h2⟩
         have HE3 := Lib.hid (And.intro h1 (HGSF.out.below h2))
         clear h1 h2)
      | ((with_reducible refine gate_store (t := 26) (p := 2) rfl ?_)
         refine wp_stpk (p := pk0) (A := none) (L := 0) (c := 0) rfl rfl rfl rfl HE3.out.2.R rfl ?_
         intro w4 hP hO
         have HE4 := Lib.hid (And.intro hP hO)
         clear hP hO))
    (try simp only [Exit.inBlock, Exit.then])
    refine bodyPost_ret (results_ct rfl _ _ w.heap.size _ _ _ _ rfl HE4.out.1 Tryd.underlying26 rfl (show (Tryd.prog.info? 26).map (·.size) = some 20 by kernel_rfl)) rfl ?_
    rw [HBF.out]
    exact ⟨.slice none 0 0, _, rfl, ErR_only HE4.out.2 HE3.out.2.R HE3.out.1, OB.nil _ _, HE4.out.2.below HE3.out.2.B0 HE3.out.2.h1⟩
end Go.Proofs.YtfcofokbhhnfkaaDoor.Byt
