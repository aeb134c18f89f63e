/- fault.Wrap round any error, the laws' own made (a number with calls round it), by their contracts. Conditions: none. -/
import Derived.Test.YtcopfdomcimhoaaDoorFun
import Derived.Test.YtcopfdomcimhoaaDoorWLast
import Derived.Test.YtcopfdomcimhoaaDoorWMore
import Derived.Deep.LoopGhost
import Derived.Deep.Light
namespace Go.Proofs.YtcopfdomcimhoaaDoor.Flt
set_option linter.unusedSimpArgs false
set_option linter.unusedVariables false
open Go.RowKit Go.Extern.Stop Go.Stop Go.Extern Go.Proofs.YtcopfdomcimhoaaDoor.Er Go.Proofs.YtcopfdomcimhoaaDoor.As Go.Proofs.YtcopfdomcimhoaaDoorW.PrintWords Go.Proofs.YtcopfdomcimhoaaDoorW.PrintLast Go.Proofs.YtcopfdomcimhoaaDoorW.PrintMore
def wrapE (c : ByteArray) (t : Option Er) : Option Er := t.map fun x => (c :: x.1, x.2)
set_option maxHeartbeats 4000000 in
theorem wrap_calls (c : ByteArray) (v : Value) (t : Option Er) (w : World) (hE : ErB w v t) : Calls Tryd.prog 11 #[.string c, v] w fun e w' => ∃ ve : Value, e = .returned ve ∧ ErB w' ve (wrapE c t) ∧ Below w.heap.size w w' := by
  cases t with
  | none =>
    obtain rfl : v = .nilIface := hE
    go_enter Tryd.func11, Tryd.ntmps11
    go_wp2
    go_ret
    exact ⟨_, rfl, rfl, Below.refl _ _⟩
  | some x =>
    obtain ⟨cs, n⟩ := x
    obtain ⟨T, y, rfl⟩ := ErC_form hE
    have hp : ErB (w.alloc (.cells #[.string c, .iface T y] 46)) (.iface 44 (.pointer (some ⟨w.heap.size, 0, none⟩))) (wrapE c (some (cs, n))) :=
      ⟨_, _, rfl, heap_new _ _, ErC_step (Below.alloc (Below.refl w.heap.size w) (Nat.le_refl _) _).block cs _ n hE⟩
    have HP := Lib.hid hp
    clear hp hE
    go_enter Tryd.func11, Tryd.ntmps11
    go_wp2
    go_ret
    exact ⟨_, rfl, HP.out, (Below.refl _ _).alloc (Nat.le_refl _) _⟩
/-! ### made: a number with calls round it -/
def madeOf (n : Int) (l : List ByteArray) : Option Er := if n = 0 then none else some (l.reverse, n)
theorem take_snoc (l : List ByteArray) (i : Int) (h0 : 0 ≤ i) (h1 : i < l.length) : (l.take (i + 1).toNat).reverse = rdOf ByteArray.empty l i :: (l.take i.toNat).reverse := by
  obtain ⟨m, rfl⟩ := Int.eq_ofNat_of_zero_le h0
  have hm : m < l.length := by omega
  rw [show ((m : Int) + 1).toNat = m + 1 from by omega, show (m : Int).toNat = m from rfl, List.take_add_one, List.getElem?_eq_getElem hm]
  simp [rdOf, hm]
set_option maxHeartbeats 4000000 in
theorem made_calls (n : Int) (A : Option Addr) (c : Nat) (l : List ByteArray) (w : World) (hr : Kd.C Kd.string w A l.length l) (hc : l.length ≤ c) :
    Calls Tryd.prog 12 #[.int .i64 n, .slice A l.length c] w fun e w' => ∃ ve : Value, e = .returned ve ∧ ErB w' ve (madeOf n l) ∧ Below w.heap.size w w' := by
  by_cases hn : n = 0
  · have HB := Lib.hid (show madeOf n l = none from if_pos hn)
    subst hn
    clear hr
    go_enter Tryd.func12, Tryd.ntmps12
    go_wp2
    go_ret
    exact ⟨_, rfl, by rw [HB.out]; rfl, Below.refl _ _⟩
  · have h1 : (n == 0) = false := beq_eq_false_iff_ne.2 hn
    have HM := Lib.hid (show madeOf n l = some (l.reverse, n) from if_neg hn)
    have hL : l.length ≤ 9223372036854775807 := hr.2.1
    have HL := Lib.hid hL
    have HR1 := Lib.hid hr
    clear hn hr hL hc
    go_enter Tryd.func12, Tryd.ntmps12
    go_wp2
    go_loopg [5, 6] (l.length + 1) (fun kq v5 v6 w' => ∃ i : Int, v6 = .int .i64 i ∧ Hid (0 ≤ i ∧ i ≤ l.length ∧ kq = l.length - i.toNat + 1) ∧ Hid (ErC w' (l.take i.toNat).reverse v5 n) ∧ Hid (Below w.heap.size w w'))
    case atStart => exact ⟨0, rfl, Lib.hid ⟨by omega, by omega, by simp⟩, Lib.hid (by simp; rfl), Lib.hid (Below.refl _ _)⟩
    case round =>
      obtain ⟨i, rfl, HI, HE, HB⟩ := hrel
      by_cases hi : i < (l.length : Int)
      · have c1 : decide (i < (l.length : Int)) = true := decide_eq_true hi
        have p1 : 0 ≤ i := HI.out.1
        have hw1 : wrap64 (i + 1) = i + 1 := by have := HL.out; unfold wrap64; omega
        have HW := Lib.hid hw1
        have HT := Lib.hid (take_snoc l i p1 hi)
        obtain ⟨ad, ea, hx⟩ := Kd.at_string HR1.out i p1 hi
        cases ea
        replace hx := (HB.out.cell (World.block_lt_of_cell? w _ hx)).trans hx
        replace p1 := eq_true p1
        have q1 := eq_true hi
        obtain ⟨T, y, rfl⟩ := ErC_form HE.out
        clear hi hw1
        go_wp2
        go_roundg (l.length - i.toNat)
        case measure => have := HI.out; have := of_eq_true q1; omega
        case rel =>
          refine ⟨i + 1, congrArg (Value.int .i64) HW.out, Lib.hid ⟨?_, ?_, ?_⟩, Lib.hid ?_, Lib.hid (HB.out.alloc HB.out.size _)⟩
          · have := HI.out; omega
          · have := of_eq_true q1; omega
          · have := HI.out; have := of_eq_true q1; omega
          · rw [HT.out]
            exact ⟨_, _, rfl, heap_new _ _, ErC_step (Below.alloc (Below.refl _ _) (Nat.le_refl _) _).block _ _ n HE.out⟩
      · have c1 : decide (i < (l.length : Int)) = false := decide_eq_false hi
        have hi2 : i.toNat = l.length := by have := HI.out; omega
        have HT := Lib.hid hi2
        clear hi hi2
        go_wp2
        go_ret
        refine ⟨_, rfl, ?_, HB.out⟩
        rw [HM.out]
        have := HE.out
        rw [HT.out, List.take_length] at this
        exact this

/-! ### fault.Chain -/
def chainOf (t : Option Er) : List ByteArray := match t with | none => [] | some x => x.1
set_option maxHeartbeats 4000000 in
theorem chain_calls (v0 : Value) (t : Option Er) (w : World) (hE : ErB w v0 t) (hG : Glob w) (hl : (chainOf t).length < 8796093022208) :
    Calls Tryd.prog 15 #[v0] w fun e w' => ∃ vo : Value, e = .returned vo ∧ Kd.R Kd.string 9 w' w.heap.size (fun _ => True) vo (chainOf t) ∧ Below w.heap.size w w' := by
  have HE := Lib.hid hE
  have HG := Lib.hid hG
  have HL := Lib.hid hl
  clear hE hG hl
  go_enter Tryd.func15, Tryd.ntmps15
  go_wp2
  go_loopg [0, 3] ((chainOf t).length + 1) (fun kq v0 v3 w' => ∃ (t' : Option Er) (done : List ByteArray), Hid (ErB w v0 t') ∧ Hid (done ++ chainOf t' = chainOf t) ∧ Hid (kq = (chainOf t').length + 1) ∧ Hid (Kd.R Kd.string 9 w' w.heap.size (fun _ => True) v3 done) ∧ Hid (Below w.heap.size w w') ∧ Hid (w.heap.size + 1 ≤ w'.heap.size) ∧ Hid (∃ old, w'.heap[w.heap.size]? = some (.cells #[old] 44 (0, 0))))
  case atStart => exact ⟨t, [], HE, Lib.hid rfl, Lib.hid rfl, Lib.hid (Kd.R_nil _ _ _ _ _), Lib.hid ((Below.refl _ _).alloc (Nat.le_refl _) _), Lib.hid (by simp), Lib.hid ⟨_, heap_new _ _⟩⟩
  case round =>
    clear HE
    obtain ⟨t', done, HE, HD, HK, HO, HB, HS, HF⟩ := hrel
    have HL1 : Hid (done.length < 8796093022208) := Lib.hid (by have := congrArg List.length HD.out; have := HL.out; simp at *; omega)
    clear HL
    cases t' with
    | none =>
      obtain rfl : u0 = .nilIface := HE.out
      clear HE HG HF
      go_wp2_with (go_at_call 22; refine (As_nil _ _ _).mono ?_; rintro e w1 ⟨rfl, hb⟩; have HO1 := Lib.hid (Kd.R_below HO.out hb); have HB1 := Lib.hid (HB.out.trans (hb.mono HB.out.size)); clear hb HO HB)
      go_ret
      refine ⟨_, rfl, ?_, HB1.out⟩
      have := HD.out
      rw [← this]
      simpa [chainOf] using HO1.out
    | some x =>
      obtain ⟨cs, n⟩ := x
      cases cs with
      | nil =>
        obtain rfl : u0 = .iface 25 (.int .i64 n) := HE.out
        have HG1 := Lib.hid (Glob_below HG.out HB.out)
        clear HE HG HF
        go_wp2_with (go_at_call 22; refine (As_no n _ _ HG1.out).mono ?_; rintro e w1 ⟨rfl, hb⟩; have HO1 := Lib.hid (Kd.R_below HO.out hb); have HB1 := Lib.hid (HB.out.trans (hb.mono HB.out.size)); clear hb HO HB)
        go_ret
        refine ⟨_, rfl, ?_, HB1.out⟩
        have := HD.out
        rw [← this]
        simpa [chainOf] using HO1.out
      | cons c cs =>
        obtain ⟨b, inner, rfl, hb, hin⟩ := HE.out
        obtain ⟨old, hF⟩ := HF.out
        have hlb := lt_of hb
        have hin1 : ErB w inner (some (cs, n)) := hin
        have HI := Lib.hid hin1
        have A1 : Calls Tryd.prog 22 #[.iface 44 (.pointer (some ⟨b, 0, none⟩)), .iface 49 (.pointer (some ⟨w.heap.size, 0, none⟩))] wr fun e w' => e = .returned (.bool true) ∧
            (w'.cell? ⟨w.heap.size, 0, none⟩ = some (.pointer (some ⟨b, 0, none⟩)) ∧ w'.cell? ⟨b, 0, none⟩ = some (.string c) ∧ Hid (w'.heap[w.heap.size]? = some (.cells #[.pointer (some ⟨b, 0, none⟩)] 44 (0, 0)))
              ∧ Hid (Kd.R Kd.string 9 w' w.heap.size (fun _ => True) u3 done) ∧ Hid (Below w.heap.size w w') ∧ Hid (w.heap.size + 1 ≤ w'.heap.size)) :=
          (As_fault ⟨b, 0, none⟩ w.heap.size old wr (Glob_below HG.out HB.out) hF).mono (by
            rintro e w' ⟨rfl, h4⟩
            have hB1 : Below w.heap.size w w' := HB.out.trans (h4.below HB.out.size (Nat.le_refl _))
            refine ⟨rfl, by rw [cell_of h4.here]; rfl, ?_, Lib.hid h4.here, Lib.hid ?_, Lib.hid hB1, Lib.hid (Nat.le_trans HS.out h4.size)⟩
            · rw [cell_of ((hB1.block b hlb).trans hb)]; rfl
            · exact Kd.R_mono (Kd.R_step (Kd.R_types HO.out hF (by decide)) (fun k hk hlt => h4.block k hlt hk.2)) (fun _ hk => hk.1))
        have HA := Lib.hid A1
        have HN : Hid (∀ w', Below w.heap.size w w' → w'.cell? ⟨b, 1, none⟩ = some inner) := Lib.hid (fun w' hw' => by rw [cell_of ((hw'.block b hlb).trans hb)]; rfl)
        obtain ⟨T, y, rfl⟩ := ErC_form hin
        clear A1 HE HF HO HB HS hb hF hlb hin hin1 HG
        go_wp2_with fail
        refine HA.out.mono ?_
        rintro e w1 ⟨rfl, k1, k2, HF1, HO1, HB1, HS1⟩
        clear HA
        go_wp2_with (first | ((with_reducible refine gate_builtin (b := .append) (xs := #[.tmp 8, .tmp 13]) rfl ?_); at_builtin; refine Kd.R_append Kd.string (w0 := w) w.heap.size rfl (.tmp 8) (.tmp 13) 29 9 (.string ⟨#[]⟩) 16 rfl Tryd.underlying29 (by kernel_rfl) rfl (by decide) (by omega) u3 done c [.string c] (fun _ => True) (fun _ => False) rfl rfl ?aP (fun _ hk => hk.elim) ?aF ?aO ?aB ?aS ?aL ?_; (case aP => exact rfl); (case aB => exact HB1.out); (case aF => exact (fun _ _ => trivial)); (case aO => exact HO1.out); (case aS => exact HB1.out.size); (case aL => have := HL1.out; omega); intro v1 w2 ho hb hg hat; have HF2 := Lib.hid ((hg.block w.heap.size (by have := HS1.out; omega) (Kd.R_ne HO1.out HF1.out (by decide))).trans HF1.out); have HO2 := Lib.hid ho; have HS2 := Lib.hid (Nat.le_trans HS1.out hg.size); have HB2 := Lib.hid hb; have k3 := (cell_of HF2.out 0); have k4 := HN.out w2 hb; clear hat hg hb ho HO1 HB1 HF1 HS1 k1 k2))
        go_roundg (cs.length + 1)
        case measure => have := HK.out; simp [chainOf] at this; omega
        case rel => exact ⟨some (cs, n), done ++ [c], HI, Lib.hid (by have := HD.out; simpa [chainOf] using this), Lib.hid rfl, HO2, HB2, HS2, Lib.hid ⟨_, HF2.out⟩⟩
end Go.Proofs.YtcopfdomcimhoaaDoor.Flt
