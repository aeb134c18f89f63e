/- FaultFinds, walked by hand over its printed helpers (awake, cut): it answers true. Premise: Glob. -/
import Derived.Test.YtcopfdomcimhoaaDoorQFaultFindsx1
namespace Go.Proofs.YtcopfdomcimhoaaDoor.Flt
set_option linter.unusedSimpArgs false
set_option linter.unusedVariables false
open Go.RowKit Go.Extern.Stop Go.Stop Go.Extern Go.Proofs.YtcopfdomcimhoaaDoor.Er Go.Proofs.YtcopfdomcimhoaaDoor.As Go.Proofs.YtcopfdomcimhoaaDoorW.PrintWords Go.Proofs.YtcopfdomcimhoaaDoorW.PrintLast Go.Proofs.YtcopfdomcimhoaaDoorW.PrintMore
open Go.Proofs.YtcopfdomcimhoaaDoor.QFaultFinds
theorem cut_eq (l : List ByteArray) : geyserlaw01_cut.f l = some (l.take 60) := by
  unfold geyserlaw01_cut.f
  by_cases h : (l.length : Int) > 60
  · rw [if_pos h, if_pos (by omega)]
  · rw [if_neg h, List.take_of_length_le (by omega)]
theorem cut_calls (A : Option Addr) (c : Nat) (l : List ByteArray) (w : World) (hr : Kd.C Kd.string w A l.length l) (hc : l.length ≤ c) :
    Calls Tryd.prog 13 #[.slice A l.length c] w fun e w' => ∃ (A' : Option Addr) (c' : Nat), e = .returned (.slice A' (l.take 60).length c') ∧ Kd.C Kd.string w' A' (l.take 60).length (l.take 60) ∧ (l.take 60).length ≤ c' ∧ Below w.heap.size w w' :=
  (geyserlaw01_cut.calls (fun k_ => k_ < w.heap.size) A c l (l.take 60) w (Kd.V_mk hc (Kd.C_F Kd.heap_string hr)) (cut_eq l)).mono (by
    rintro e w' ⟨v, rfl, hv, hb⟩
    obtain ⟨A', c', rfl⟩ := Kd.V_slice hv
    exact ⟨A', c', rfl, (Kd.V_reads' hv).2.2, (Kd.V_reads' hv).2.1, hb⟩)
theorem awake_calls (w : World) (hG : Glob w) : Calls Tryd.prog 9 #[] w fun e w' => e = .returned (.bool true) ∧ Below w.heap.size w w' :=
  geyserlaw01_awake.calls true w hG (by decide +kernel)
def findE (n : Int) (l : List ByteArray) : Option Er := if n = 0 then none else some (l.reverse ++ [⟨#[97, 46, 65]⟩], n)
theorem findE_0 (n : Int) : findE n [] = (if n = 0 then none else some ([⟨#[97, 46, 65]⟩], n)) := rfl
theorem findE_wrap (n : Int) (l : List ByteArray) (i : Int) (h0 : 0 ≤ i) (h1 : i < l.length) : wrapE (rdOf ByteArray.empty l i) (findE n (l.take i.toNat)) = findE n (l.take (i + 1).toNat) := by
  unfold findE wrapE
  by_cases h : n = 0
  · rw [if_pos h, if_pos h]; rfl
  · rw [if_neg h, if_neg h, take_snoc l i h0 h1]; rfl
theorem new_calls (c : ByteArray) (n : Int) (w : World) : Calls Tryd.prog 8 #[.string c, .int .i64 n] w fun e w' => ∃ ve : Value, e = .returned ve ∧ ErB w' ve (if n = 0 then none else some ([c], n)) ∧ Below w.heap.size w w' :=
  (Er.fault_New.calls c n _ w rfl).mono fun _ _ ⟨ve, h1, h2, h3⟩ => ⟨ve, h1, ErB_of h2, h3⟩
set_option maxHeartbeats 8000000 in
set_option maxRecDepth 100000 in
theorem finds_calls (n m : Int) (A : Option Addr) (c : Nat) (l : List ByteArray) (w : World) (hr : Kd.C Kd.string w A l.length l) (hc : l.length ≤ c) (hG : Glob w) :
    Calls Tryd.prog 7 #[.int .i64 n, .int .i64 m, .slice A l.length c] w fun e w' => e = .returned (.bool true) ∧ Below w.heap.size w w' := by
  have HG := Lib.hid hG
  have HC1 := Lib.hid hc
  have HR1 := Lib.hid hr
  clear hr hc hG
  go_enter Tryd.func7, Tryd.ntmps7
  go_wp2_with (first | (go_at_call 8; refine (new_calls _ n _).mono ?_; rintro e w1 ⟨ve, rfl, he, hb⟩; have HB1 := Lib.hid hb; have HE1 := Lib.hid he; have HR2 := Lib.hid (Kd.C_below HR1.out hb); clear hb he HR1) | (go_at_call 13; refine (cut_calls A c l _ HR2.out HC1.out).mono ?_; rintro e w2 ⟨A', c', rfl, hr', hc', hb⟩; have HE2 := Lib.hid (ErB_below hb HE1.out); have HB2 := Lib.hid (below_step HB1.out hb); have HR3 := Lib.hid hr'; clear hr' hc' hb HE1 HB1 HR2 HC1; have hl : (l.take 60).length ≤ 60 := (by simp; omega); (generalize l.take 60 = t at hl HR3); have HL := Lib.hid hl; clear hl))
  go_loopg [7, 8] (t.length + 1) (fun kq v7 v8 w' => ∃ i : Int, v8 = .int .i64 i ∧ Hid (0 ≤ i ∧ i ≤ t.length ∧ kq = t.length - i.toNat + 1) ∧ Hid (ErB w' v7 (findE n (t.take i.toNat))) ∧ Hid (Below w2.heap.size w2 w'))
  case atStart => exact ⟨0, rfl, Lib.hid ⟨by omega, by omega, by simp⟩, HE2, Lib.hid (Below.refl _ _)⟩
  case round =>
    obtain ⟨i, rfl, HI, HE, HB⟩ := hrel
    by_cases hi : i < (t.length : Int)
    · have c1 : decide (i < (t.length : Int)) = true := decide_eq_true hi
      have p1 : 0 ≤ i := HI.out.1
      have hw1 : wrap64 (i + 1) = i + 1 := by have := HL.out; unfold wrap64; omega
      have HW := Lib.hid hw1
      have HT := Lib.hid (findE_wrap n t i p1 hi)
      obtain ⟨ad, ea, hx⟩ := Kd.at_string HR3.out i p1 hi
      cases ea
      replace hx := (HB.out.cell (World.block_lt_of_cell? w2 _ hx)).trans hx
      replace p1 := eq_true p1
      have q1 := eq_true hi
      clear hi hw1 HE2
      go_wp2_with (go_at_call 11; refine (wrap_calls _ _ _ _ HE.out).mono ?_; rintro e w3 ⟨ve3, rfl, he, hb⟩; have HB3 := Lib.hid (below_step HB.out hb); have HE3 := Lib.hid (HT.out ▸ he); clear hb he HE HB hx)
      go_roundg (t.length - i.toNat)
      case measure => have := HI.out; have := of_eq_true q1; omega
      case rel =>
        refine ⟨i + 1, congrArg (Value.int .i64) HW.out, Lib.hid ⟨?_, ?_, ?_⟩, HE3, HB3⟩
        · have := HI.out; omega
        · have := of_eq_true q1; omega
        · have := HI.out; have := of_eq_true q1; omega
    · have c1 : decide (i < (t.length : Int)) = false := decide_eq_false hi
      have hi2 : i.toNat = t.length := by have := HI.out; omega
      have HE4 : Hid (ErB wr u7 (findE n t)) := Lib.hid (by have := HE.out; rw [hi2, List.take_length] at this; exact this)
      have HB4 := Lib.hid (below_step HB2.out HB.out)
      have HL2 : Hid (wrap64 ((t.length : Int) + 1) = (t.length : Int) + 1) := Lib.hid (by have := HL.out; unfold wrap64; omega)
      clear hi hi2 HE HB HE2 HB2 HI HR3
      by_cases hn : n = 0
      · have he : findE n t = none := if_pos hn
        rw [he] at HE4
        obtain rfl : u7 = .nilIface := HE4.out
        subst hn
        clear HE4 he
        go_wp2_with fail
        refine (fIs_calls _ none m _ rfl).mono ?_
        rintro e w5 ⟨rfl, hb⟩
        have HB5 := Lib.hid (below_step HB4.out hb)
        clear hb HB4
        go_wp2_with fail
        refine (awake_calls _ (Glob_below HG.out HB5.out)).mono ?_
        rintro e w6 ⟨rfl, hb⟩
        have HB6 := Lib.hid (below_step HB5.out hb)
        clear hb HB5
        go_wp2
        go_ret
        exact ⟨rfl, HB6.out⟩
      · have he : findE n t = some (t.reverse ++ [⟨#[97, 46, 65]⟩], n) := if_neg hn
        have hn1 : (n == 0) = false := beq_eq_false_iff_ne.2 hn
        rw [he] at HE4
        obtain ⟨T, y, rfl⟩ := ErC_form HE4.out
        clear he hn
        have hch : chainOf (some (t.reverse ++ [⟨#[97, 46, 65]⟩], n)) = t.reverse ++ [⟨#[97, 46, 65]⟩] := rfl
        have hcl : (chainOf (some (t.reverse ++ [⟨#[97, 46, 65]⟩], n))).length = t.length + 1 := by rw [hch]; simp
        have HCL := Lib.hid hcl
        clear hch hcl
        go_wp2_with fail
        refine (chain_calls _ _ _ HE4.out (Glob_below HG.out HB4.out) (by have := HCL.out; have := HL.out; omega)).mono ?_
        rintro e w5 ⟨vo, rfl, hvo, hb⟩
        have HB5 := Lib.hid (below_step HB4.out hb)
        have HE5 := Lib.hid (ErB_below hb HE4.out)
        obtain ⟨A5, c5, rfl⟩ := Kd.R_slice hvo
        clear hb HB4 HE4 hvo
        generalize (chainOf (some (t.reverse ++ [⟨#[97, 46, 65]⟩], n))).length = L5 at HCL
        have hne : ((L5 : Int) != wrap64 ((t.length : Int) + 1)) = false := by rw [HL2.out, HCL.out]; simp
        have J1 : ∀ (w : World), ErB w (.iface T y) (some (t.reverse ++ [⟨#[97, 46, 65]⟩], n)) → Calls Tryd.prog 19 #[.iface T y, .int .i64 n] w fun e w' => e = .returned (.bool true) ∧ Below w.heap.size w w' := fun w h => (fIs_calls _ _ n w h).mono (fun e w' h1 => by rwa [show isOf (some (t.reverse ++ [⟨#[97, 46, 65]⟩], n)) n = true from beq_self_eq_true n] at h1)
        have J2 : ∀ (w : World), ErB w (.iface T y) (some (t.reverse ++ [⟨#[97, 46, 65]⟩], n)) → Calls Tryd.prog 21 #[.iface T y, .iface 25 (.int .i64 n)] w fun e w' => e = .returned (.bool true) ∧ Below w.heap.size w w' := fun w h => (Is_calls _ _ n w h).mono (fun e w' h1 => by rwa [show isOf (some (t.reverse ++ [⟨#[97, 46, 65]⟩], n)) n = true from beq_self_eq_true n] at h1)
        have J3 : ∀ (w : World), ErB w (.iface T y) (some (t.reverse ++ [⟨#[97, 46, 65]⟩], n)) → Calls Tryd.prog 19 #[.iface T y, .int .i64 m] w fun e w' => e = .returned (.bool (n == m)) ∧ Below w.heap.size w w' := fun w h => fIs_calls _ _ m w h
        have HJ1 := Lib.hid J1
        have HJ2 := Lib.hid J2
        have HJ3 := Lib.hid J3
        have HN := Lib.hid hne
        clear J1 J2 J3 HL2 HCL
        by_cases hnm : n = m
        · subst hnm
          have hb1 : (n == n) = true := beq_self_eq_true n
          rw [hb1] at HJ3
          clear hb1
          go_wp2_with fail
          refine (HJ1.out _ HE5.out).mono ?_
          rintro e w6 ⟨rfl, hb⟩
          have HB6 := Lib.hid (below_step HB5.out hb)
          have HE6 := Lib.hid (ErB_below hb HE5.out)
          clear hb HB5 HE5
          go_wp2_with fail
          refine (HJ3.out _ HE6.out).mono ?_
          rintro e w7 ⟨rfl, hb⟩
          have HB7 := Lib.hid (below_step HB6.out hb)
          have HE7 := Lib.hid (ErB_below hb HE6.out)
          clear hb HB6 HE6
          go_wp2_with fail
          refine (HJ2.out _ HE7.out).mono ?_
          rintro e w8 ⟨rfl, hb⟩
          have HB8 := Lib.hid (below_step HB7.out hb)
          clear hb HB7 HE7
          go_wp2_with fail
          refine (awake_calls _ (Glob_below HG.out HB8.out)).mono ?_
          rintro e w9 ⟨rfl, hb⟩
          have HB9 := Lib.hid (below_step HB8.out hb)
          clear hb HB8
          go_wp2
          go_ret
          exact ⟨rfl, HB9.out⟩
        · have hb1 : (n == m) = false := beq_eq_false_iff_ne.2 hnm
          rw [hb1] at HJ3
          clear hnm
          go_wp2_with fail
          refine (HJ1.out _ HE5.out).mono ?_
          rintro e w6 ⟨rfl, hb⟩
          have HB6 := Lib.hid (below_step HB5.out hb)
          have HE6 := Lib.hid (ErB_below hb HE5.out)
          clear hb HB5 HE5
          go_wp2_with fail
          refine (HJ3.out _ HE6.out).mono ?_
          rintro e w7 ⟨rfl, hb⟩
          have HB7 := Lib.hid (below_step HB6.out hb)
          have HE7 := Lib.hid (ErB_below hb HE6.out)
          clear hb HB6 HE6
          go_wp2_with fail
          refine (HJ2.out _ HE7.out).mono ?_
          rintro e w8 ⟨rfl, hb⟩
          have HB8 := Lib.hid (below_step HB7.out hb)
          clear hb HB7 HE7
          go_wp2_with fail
          refine (awake_calls _ (Glob_below HG.out HB8.out)).mono ?_
          rintro e w9 ⟨rfl, hb⟩
          have HB9 := Lib.hid (below_step HB8.out hb)
          clear hb HB8
          go_wp2
          go_ret
          exact ⟨rfl, HB9.out⟩
/-- In the row's own form. -/
def geyserlaw01_FaultFinds.f (_ _ : Int) (_ : List ByteArray) : Option Bool := some true
theorem geyserlaw01_FaultFinds.calls (n m : Int) (A : Option Addr) (c : Nat) (l : List ByteArray) (r : Bool) (w : World) (hr : Kd.C Kd.string w A l.length l) (hc : l.length ≤ c) (hG : Glob w) (h : geyserlaw01_FaultFinds.f n m l = some r) :
    Calls Tryd.prog 7 #[.int .i64 n, .int .i64 m, .slice A l.length c] w fun e w' => e = .returned (.bool r) ∧ Below w.heap.size w w' := by
  obtain rfl := Option.some.inj h
  exact finds_calls n m A c l w hr hc hG
end Go.Proofs.YtcopfdomcimhoaaDoor.Flt
