/- fault.Num, fault.Call, and the laws' own is, by their contracts. Premise: Glob. -/
import Derived.Test.YtcopfdomcimhoaaDoorFlt
import Derived.Test.YtcopfdomcimhoaaDoorWWords
namespace Go.Proofs.YtcopfdomcimhoaaDoor.Flt
set_option linter.unusedSimpArgs false
set_option linter.unusedVariables false
open Go.RowKit Go.Extern.Stop Go.Stop Go.Extern Go.Proofs.YtcopfdomcimhoaaDoor.Er Go.Proofs.YtcopfdomcimhoaaDoor.As Go.Proofs.YtcopfdomcimhoaaDoorW.PrintWords
def numOf (t : Option Er) : Int := match t with | none => 0 | some x => x.2
def callOf (t : Option Er) : ByteArray := match t with | none => ⟨#[]⟩ | some x => x.1.headD ⟨#[]⟩
set_option maxHeartbeats 4000000 in
theorem num_calls (v : Value) (t : Option Er) (w : World) (hE : ErB w v t) (hG : Glob w) : Calls Tryd.prog 17 #[v] w fun e w' => e = .returned (.int .i64 (numOf t)) ∧ Below w.heap.size w w' := by
  cases t with
  | none =>
    obtain rfl : v = .nilIface := hE
    have HG := Lib.hid hG
    clear hG
    go_enter Tryd.func17, Tryd.ntmps17
    go_wp2_with (go_at_call 22; refine (As_nil _ _ _).mono ?_; rintro e w' ⟨rfl, hb⟩; have HB := Lib.hid (below_step (w := w) (by repeat (first | exact Below.refl _ _ | apply below_alloc)) hb); clear hb)
    go_ret
    exact ⟨rfl, HB.out⟩
  | some x =>
    obtain ⟨cs, n⟩ := x
    have hW : ∃ W2, W2 = w.alloc (.cells #[.int .i64 0] 25) := ⟨_, rfl⟩
    obtain ⟨W2, hW2⟩ := hW
    have b2 : Below w.heap.size w W2 := by rw [hW2]; exact (Below.refl _ _).alloc (Nat.le_refl _) _
    have s2 : W2.heap.size = w.heap.size + 1 := by rw [hW2]; simp
    have o1 : W2.heap[w.heap.size]? = some (Obj.cells #[.int .i64 0] 25 (0, 0)) := by rw [hW2, heap_new]
    have A1 : Calls Tryd.prog 22 #[v, .iface 48 (.pointer (some ⟨w.heap.size, 0, none⟩))] W2 fun e w' => e = .returned (.bool true) ∧ (w'.cell? ⟨w.heap.size, 0, none⟩ = some (.int .i64 n) ∧ Below w.heap.size w w') :=
      (As_num cs v n w.heap.size (.int .i64 0) W2 (Glob_below hG b2) (ErC_step b2.block _ _ _ hE) o1).mono (by
        rintro e w' ⟨rfl, h4⟩
        exact ⟨rfl, by rw [cell_of h4.here]; rfl, b2.trans (h4.below (by omega) (Nat.le_refl _))⟩)
    have HA := Lib.hid A1
    rw [hW2] at HA
    obtain ⟨T, x', rfl⟩ := ErC_form hE
    clear hW2 A1 b2 s2 o1 hG hE
    clear W2
    go_enter Tryd.func17, Tryd.ntmps17
    go_wp2_with fail
    refine HA.out.mono ?_
    rintro e w3 ⟨rfl, k1, hb⟩
    have HB := Lib.hid hb
    clear hb HA
    go_wp2
    go_ret
    exact ⟨rfl, HB.out⟩
set_option maxHeartbeats 4000000 in
theorem call_calls (v : Value) (t : Option Er) (w : World) (hE : ErB w v t) (hG : Glob w) : Calls Tryd.prog 18 #[v] w fun e w' => e = .returned (.string (callOf t)) ∧ Below w.heap.size w w' := by
  cases t with
  | none =>
    obtain rfl : v = .nilIface := hE
    clear hG
    go_enter Tryd.func18, Tryd.ntmps18
    go_wp2_with (go_at_call 22; refine (As_nil _ _ _).mono ?_; rintro e w' ⟨rfl, hb⟩; have HB := Lib.hid (below_step (w := w) (by repeat (first | exact Below.refl _ _ | apply below_alloc)) hb); clear hb)
    go_ret
    exact ⟨rfl, HB.out⟩
  | some x =>
    obtain ⟨cs, n⟩ := x
    cases cs with
    | nil =>
      obtain rfl : v = .iface 25 (.int .i64 n) := hE
      have HG := Lib.hid (fun o => Glob_below hG ((Below.refl w.heap.size w).alloc (Nat.le_refl _) o))
      clear hG
      go_enter Tryd.func18, Tryd.ntmps18
      go_wp2_with (go_at_call 22; refine (As_no n _ _ (HG.out _)).mono ?_; rintro e w' ⟨rfl, hb⟩; have HB := Lib.hid (below_step (w := w) (by repeat (first | exact Below.refl _ _ | apply below_alloc)) hb); clear hb)
      go_ret
      exact ⟨rfl, HB.out⟩
    | cons c cs =>
      obtain ⟨b, inner, rfl, hb, hin⟩ := hE
      clear hin
      have hlb := lt_of hb
      have hW : ∃ W2, W2 = w.alloc (.cells #[.pointer none] 44) := ⟨_, rfl⟩
      obtain ⟨W2, hW2⟩ := hW
      have b2 : Below w.heap.size w W2 := by rw [hW2]; exact (Below.refl _ _).alloc (Nat.le_refl _) _
      have s2 : W2.heap.size = w.heap.size + 1 := by rw [hW2]; simp
      have o1 : W2.heap[w.heap.size]? = some (Obj.cells #[.pointer none] 44 (0, 0)) := by rw [hW2, heap_new]
      have A1 : Calls Tryd.prog 22 #[.iface 44 (.pointer (some ⟨b, 0, none⟩)), .iface 49 (.pointer (some ⟨w.heap.size, 0, none⟩))] W2 fun e w' => e = .returned (.bool true) ∧ (w'.cell? ⟨w.heap.size, 0, none⟩ = some (.pointer (some ⟨b, 0, none⟩)) ∧ w'.cell? ⟨b, 0, none⟩ = some (.string c) ∧ Below w.heap.size w w') :=
        (As_fault ⟨b, 0, none⟩ w.heap.size (.pointer none) W2 (Glob_below hG b2) o1).mono (by
          rintro e w' ⟨rfl, h4⟩
          refine ⟨rfl, by rw [cell_of h4.here]; rfl, ?_, b2.trans (h4.below (by omega) (Nat.le_refl _))⟩
          rw [cell_of ((h4.block _ (by omega) (by omega)).trans ((b2.block b hlb).trans hb))]; rfl)
      have HA := Lib.hid A1
      rw [hW2] at HA
      clear hW2 A1 b2 s2 o1 hG hb hlb
      clear W2
      go_enter Tryd.func18, Tryd.ntmps18
      go_wp2_with fail
      refine HA.out.mono ?_
      rintro e w3 ⟨rfl, k1, k2, hb⟩
      have HB := Lib.hid hb
      clear hb HA
      go_wp2
      go_ret
      exact ⟨rfl, HB.out⟩
set_option maxHeartbeats 4000000 in
theorem is_calls (v : Value) (c0 : ByteArray) (cs : List ByteArray) (m n : Int) (c : ByteArray) (w : World) (hC : ErC w (c0 :: cs) v m) (hG : Glob w) :
    Calls Tryd.prog 10 #[v, .int .i64 n, .string c] w fun e w' => e = .returned (.bool ((m == n) && (c0.toList == c.toList))) ∧ Below w.heap.size w w' := by
  have hC' := hC
  obtain ⟨b, inner, rfl, hb, hin⟩ := hC'
  clear hin
  obtain ⟨r, hr⟩ : ∃ r, r = ((m == n) && (c0.toList == c.toList)) := ⟨_, rfl⟩
  rw [← hr]
  have hlb := lt_of hb
  have HR := Lib.hid hr.symm
  clear hr
  have hW : ∃ W2, W2 = (w.alloc (.cells #[.int .i64 0] 25)).alloc (.cells #[.pointer none] 44) := ⟨_, rfl⟩
  obtain ⟨W2, hW2⟩ := hW
  have b2 : Below w.heap.size w W2 := by rw [hW2]; exact ((Below.refl _ _).alloc (Nat.le_refl _) _).alloc (by simp) _
  have s2 : W2.heap.size = w.heap.size + 2 := by rw [hW2]; simp
  have o1 : W2.heap[w.heap.size]? = some (Obj.cells #[.int .i64 0] 25 (0, 0)) := by rw [hW2, alloc_old _ _ (by simp), heap_new]
  have o2 : W2.heap[w.heap.size + 1]? = some (Obj.cells #[.pointer none] 44 (0, 0)) := by rw [hW2]; have := heap_new (w.alloc (.cells #[.int .i64 0] 25)) (.cells #[.pointer none] 44); simpa using this
  have A1 := Lib.hid (As_num (c0 :: cs) (.iface 44 (.pointer (some ⟨b, 0, none⟩))) m w.heap.size (.int .i64 0) W2 (Glob_below hG b2) (ErC_step b2.block _ _ _ hC) o1)
  have A2 : ∀ w3, SetAt W2 w3 w.heap.size (.cells #[.int .i64 m] 25 (0, 0)) → Calls Tryd.prog 22 #[.iface 44 (.pointer (some ⟨b, 0, none⟩)), .iface 49 (.pointer (some ⟨w.heap.size + 1, 0, none⟩))] w3
      fun e w' => e = .returned (.bool true) ∧ (w'.cell? ⟨w.heap.size, 0, none⟩ = some (.int .i64 m) ∧ w'.cell? ⟨w.heap.size + 1, 0, none⟩ = some (.pointer (some ⟨b, 0, none⟩)) ∧ w'.cell? ⟨b, 0, none⟩ = some (.string c0) ∧ Below w.heap.size w w') := by
    intro w3 h3
    have b3 : Below w.heap.size w w3 := b2.trans (h3.below (by omega) (Nat.le_refl _))
    have z3 := h3.size
    refine (As_fault ⟨b, 0, none⟩ (w.heap.size + 1) (.pointer none) w3 (Glob_below hG b3) ((h3.block _ (by omega) (by omega)).trans o2)).mono ?_
    rintro e w' ⟨rfl, h4⟩
    refine ⟨rfl, ?_, ?_, ?_, b3.trans (h4.below (by omega) (by omega))⟩
    · rw [cell_of ((h4.block _ (by omega) (by omega)).trans h3.here)]; rfl
    · rw [cell_of h4.here]; rfl
    · rw [cell_of ((h4.block _ (by omega) (by omega)).trans ((b3.block b hlb).trans hb))]; rfl
  have HA2 := Lib.hid A2
  rw [hW2] at A1 HA2
  clear hW2 A2 b2 s2 o1 o2 hC hb hG hlb
  clear W2
  go_enter Tryd.func10, Tryd.ntmps10
  go_wp2_with fail
  refine A1.out.mono ?_
  rintro e w3 ⟨rfl, h3⟩
  have H4 := Lib.hid (HA2.out w3 h3)
  clear h3 A1 HA2
  go_wp2_with fail
  refine H4.out.mono ?_
  rintro e w4 ⟨rfl, k1, k2, k3, hb4⟩
  clear H4
  by_cases e1 : m = n
  · subst e1
    have f1 : (m == m) = true := beq_self_eq_true m
    have HB := Lib.hid hb4
    clear hb4
    go_wp2
    go_ret
    exact ⟨congrArg Ending.returned (show Value.bool (c0.toList == c.toList) = Value.bool r from by rw [← HR.out, f1, Bool.true_and]), HB.out⟩
  · have f1 : (m == n) = false := beq_eq_false_iff_ne.2 e1
    have HB := Lib.hid hb4
    clear hb4 e1
    go_wp2
    go_ret
    exact ⟨congrArg Ending.returned (show Value.bool false = Value.bool r from by rw [← HR.out, f1, Bool.false_and]), HB.out⟩
end Go.Proofs.YtcopfdomcimhoaaDoor.Flt
