/- wire.Get of what is no packet of data, by its contract. Conditions: bytes as they may be read. Printed by mkget2.py. -/
import Derived.Test.YtfcofokbhhnfkaaDoorGet
import Derived.Test.YtfcofokbhhnfkaaDoorGsa
namespace Go.Proofs.YtfcofokbhhnfkaaDoor.Byt
set_option linter.unusedSimpArgs false
set_option linter.unusedVariables false
open Go.RowKit Go.Deep Go.Proofs.YtfcofokbhhnfkaaDoor.Er Go.Proofs.YtfcofokbhhnfkaaDoorW.PrintWords Go.Proofs.YtfcofokbhhnfkaaDoorW.PrintLast Go.Proofs.YtfcofokbhhnfkaaDoorW.PrintMore
attribute [local irreducible] nxtV nxtL nxtB
set_option maxHeartbeats 8000000 in
set_option maxRecDepth 100000 in
theorem Get_other {D : Nat → Prop} (w : World) (v : Value) (l B : List Int) (hl : RdB D w v l) (hD : ∀ k, D k → k < w.heap.size) (ht : er takeN (takeE l) = none ∧ takeL l = B) (hk : ¬ nxtV B 1 = 1) (hk2 : ¬ nxtV B 1 = 2) :
    Calls Tryd.prog 14 #[v] w fun e w' => ∃ v' ev, e = .returned (.tuple #[pkV (bodyG B).1 v', ev]) ∧ ErR w' ev (er getN (bodyG B).2) ∧ OB w.heap.size w' v' ((bodyG B).1).data ∧ Below w.heap.size w w' := by
  have HR := Lib.hid hl
  have HD := Lib.hid hD
  have HT := Lib.hid ht
  have HK := Lib.hid (And.intro hk hk2)
  clear hl hD ht hk hk2
  go_enter Tryd.func14, Tryd.ntmps14
  go_upto_region 4 with (first
    | ((with_reducible refine gate_dst (N := 2) rfl ?_); refine wp_allocPk rfl rfl ?_; intro w1 hP hB hs; have HP := Lib.hid hP; have HB := Lib.hid (And.intro hB hs); clear hP hB hs)
    | (go_at_call 30
       refine (Take_calls (D := D) w1 v l (HR.out.keep (fun k hk => HB.out.1.block k (HD.out k hk))) (fun k hk => Nat.lt_of_lt_of_le (HD.out k hk) HB.out.1.size)).mono ?_
       rw [HT.out.1, HT.out.2]
       rintro e wd ⟨bv, ev, rfl, h1, h2, h3⟩
       obtain rfl := ErR_nil h1
       have HE := Lib.hid (And.intro h2 (And.intro (HB.out.1.trans (h3.mono HB.out.1.size)) h3))
       have HP2 := Lib.hid (HP.out.below h3)
       clear h1 h2 h3))
  obtain ⟨Ab, cb, hbv, hcb⟩ := HE.out.1.val
  subst hbv
  have HG0 : Hid (GS0 w wd w.heap.size wd.heap.size B false (wd.alloc (.cells #[.slice Ab B.length cb, .bool false] 63))) := Lib.hid ⟨HE.out.2.1.alloc HE.out.2.1.size _, (Below.refl _ _).alloc (Nat.le_refl _) _, HP2.out.below ((Below.refl _ _).alloc (Nat.le_refl _) _), ⟨Ab, cb, heap_new _ _, HE.out.1.rb.rdlt, hcb⟩, Nat.le_refl _, lt_of HP2.out, Nat.le_refl _, HE.out.2.1.size⟩
  go_upto_region 5 with (fail)
  generalize wd.alloc (.cells #[.slice Ab B.length cb, .bool false] 63) = we at HG0 ⊢
  generalize hob : wd.heap.size = ob at HG0 ⊢
  have HSG0 := HG0
  clear HG0
  go_upto_region 6 with (first
    | ((with_reducible refine gate_dst (N := 7) rfl ?_); refine wp_allocPk rfl rfl ?_; intro wp hP hB hs; have HPP := Lib.hid (And.intro hP (And.intro hB hs)); clear hP hB hs)
    | ((with_reducible refine gate_store (t := 26) (p := 7) rfl ?_)
       refine wp_stpk (p := Pk.mk k1 k2 k3 k4 false 0 0 0 0 0 [] 0 0 0 0 0 0 0 0 0) (A := none) (L := 0) (c := 0) rfl rfl rfl rfl HPP.out.1 rfl ?_
       intro wq hP hO
       have HGS4 := Lib.hid (HSG4.out.box rfl HPP.out.2.1 HPP.out.2.2 hO hP)
       clear hP hO)
    | (go_at_call 31
       refine (HSG0.out.next 1 (by decide)).mono ?_
       rintro e wn1 ⟨rfl, hS⟩
       obtain ⟨k1, hk1⟩ : ∃ q, q = nxtV B 1 := ⟨_, rfl⟩
       obtain ⟨l1, hl1⟩ : ∃ q, q = nxtL B 1 := ⟨_, rfl⟩
       obtain ⟨b1, hb1⟩ : ∃ q, q = nxtB B false 1 := ⟨_, rfl⟩
       rw [← hk1]
       rw [← hl1, ← hb1] at hS
       have HQ1 := Lib.hid (And.intro hk1 (And.intro hl1 hb1))
       have HSG1 := Lib.hid hS
       clear hS hk1 hl1 hb1 HSG0)
    | (go_at_call 31
       refine (HSG1.out.next 2 (by decide)).mono ?_
       rintro e wn2 ⟨rfl, hS⟩
       obtain ⟨k2, hk2⟩ : ∃ q, q = nxtV l1 2 := ⟨_, rfl⟩
       obtain ⟨l2, hl2⟩ : ∃ q, q = nxtL l1 2 := ⟨_, rfl⟩
       obtain ⟨b2, hb2⟩ : ∃ q, q = nxtB l1 b1 2 := ⟨_, rfl⟩
       rw [← hk2]
       rw [← hl2, ← hb2] at hS
       have HQ2 := Lib.hid (And.intro hk2 (And.intro hl2 hb2))
       have HSG2 := Lib.hid hS
       clear hS hk2 hl2 hb2 HSG1)
    | (go_at_call 31
       refine (HSG2.out.next 1 (by decide)).mono ?_
       rintro e wn3 ⟨rfl, hS⟩
       obtain ⟨k3, hk3⟩ : ∃ q, q = nxtV l2 1 := ⟨_, rfl⟩
       obtain ⟨l3, hl3⟩ : ∃ q, q = nxtL l2 1 := ⟨_, rfl⟩
       obtain ⟨b3, hb3⟩ : ∃ q, q = nxtB l2 b2 1 := ⟨_, rfl⟩
       rw [← hk3]
       rw [← hl3, ← hb3] at hS
       have HQ3 := Lib.hid (And.intro hk3 (And.intro hl3 hb3))
       have HSG3 := Lib.hid hS
       clear hS hk3 hl3 hb3 HSG2)
    | (go_at_call 31
       refine (HSG3.out.next 5 (by decide)).mono ?_
       rintro e wn4 ⟨rfl, hS⟩
       obtain ⟨k4, hk4⟩ : ∃ q, q = nxtV l3 5 := ⟨_, rfl⟩
       obtain ⟨l4, hl4⟩ : ∃ q, q = nxtL l3 5 := ⟨_, rfl⟩
       obtain ⟨b4, hb4⟩ : ∃ q, q = nxtB l3 b3 5 := ⟨_, rfl⟩
       rw [← hk4]
       rw [← hl4, ← hb4] at hS
       have HQ4 := Lib.hid (And.intro hk4 (And.intro hl4 hb4))
       have HSG4 := Lib.hid hS
       clear hS hk4 hl4 hb4 HSG3))
  clear HPP HSG4 hob
  generalize wn4.heap.size = pb at HGS4 ⊢
  have hk1 := HQ1.out.1
  have f_1 : (k1 == 1) = false := beq_eq_false_iff_ne.2 (by rw [hk1]; exact HK.out.1)
  have f_2 : (k1 == 2) = false := beq_eq_false_iff_ne.2 (by rw [hk1]; exact HK.out.2)
  have HBF : Hid (bodyG B = (pk0, 2)) := Lib.hid (by unfold bodyG; simp only [HK.out.1, HK.out.2, if_false])
  clear hk1
  have s0 : wq.cell? ⟨pb, 0, none⟩ = some (.int .i64 k1) := (blk_cell HGS4.out.P 0).trans rfl
  obtain ⟨Ao, co, so0, so1, hob1⟩ := HGS4.out.offc
  have fo1 := blk_frozen hob1 1
  clear hob1
  by_cases h0 : k1 = 0
  all_goals
    first | (have f_0 : (k1 == 0) = true := beq_iff_eq.2 h0) | (have f_0 : (k1 == 0) = false := beq_eq_false_iff_ne.2 h0)
    clear h0
    go_upto_region 19 with (fail)
    have HGSF := Lib.hid (HGS4.out.bad true)
    clear so0 so1 fo1 HGS4 s0
    generalize wq.setCell ⟨ob, 1, none⟩ (.bool true) = wF at HGSF ⊢
    have so1 : wF.cell? ⟨ob, 1, none⟩ = some (.bool true) := HGSF.out.offc.choose_spec.choose_spec.2.1
    have HE0 : Hid (PkAt wF w.heap.size pk0 (.slice none 0 0)) := Lib.hid HGSF.out.R
    go_wp2_with (first
      | (go_at_call 19
         refine (fault_New.calls _ 2 (er getN 2) _ rfl).mono ?_
         rintro e w3 ⟨ev, rfl, h1, h2⟩
         have HE3 := Lib.hid (And.intro h1 (HGSF.out.below h2))
         clear h1 h2)
      | ((with_reducible refine gate_store (t := 26) (p := 2) rfl ?_)
         refine wp_stpk (p := pk0) (A := none) (L := 0) (c := 0) rfl rfl rfl rfl HE3.out.2.R rfl ?_
         intro w4 hP hO
         have HE4 := Lib.hid (And.intro hP hO)
         clear hP hO))
    (try simp only [Exit.inBlock, Exit.then])
    refine bodyPost_ret (results_ct rfl _ _ w.heap.size _ _ _ _ rfl HE4.out.1 Tryd.underlying26 rfl (show (Tryd.prog.info? 26).map (·.size) = some 20 by kernel_rfl)) rfl ?_
    rw [HBF.out]
    exact ⟨.slice none 0 0, _, rfl, ErR_only HE4.out.2 HE3.out.2.R HE3.out.1, OB.nil _ _, HE4.out.2.below HE3.out.2.B0 HE3.out.2.h1⟩
end Go.Proofs.YtfcofokbhhnfkaaDoor.Byt
