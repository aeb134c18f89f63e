/- tells, the laws' own question (is an error none, or one of that number, the outermost call of which is that one?), by its contract. Premise: Glob. -/
import Derived.Test.YtpfpdbbgiimnmaaDoorAs2
namespace Go.Proofs.YtpfpdbbgiimnmaaDoor.Tells
open Go.RowKit Go.Extern.Stop Go.Stop Go.Extern Go.Proofs.YtpfpdbbgiimnmaaDoor.Er Go.Proofs.YtpfpdbbgiimnmaaDoor.As

def tells.f (t : Option Er) (n : Int) (c : ByteArray) : Option Bool :=
  some (if n = 0 then t.isNone else match t with | none => false | some x => (x.2 == n) && ((x.1.headD ⟨#[]⟩).toList == c.toList))
set_option maxHeartbeats 4000000 in
theorem tells.calls (v : Value) (t : Option Er) (n : Int) (c : ByteArray) (r : Bool) (w : World) (he : ErR w v t) (hG : Glob w) (h : tells.f t n c = some r) :
    Calls Tryd.prog 11 #[v, .int .i64 n, .string c] w fun e w' => e = .returned (.bool r) ∧ Below w.heap.size w w' := by
  have hr := Option.some.inj h
  clear h
  by_cases hn : n = 0
  · rw [if_pos hn] at hr
    cases t with
    | none =>
      obtain rfl := ErR_nil he
      subst hn
      subst hr
      clear he
      go_enter Tryd.func11, Tryd.ntmps11
      go_wp2
      go_ret
      exact ⟨rfl, Below.refl _ _⟩
    | some x =>
      obtain ⟨a, rfl⟩ := ErR_ptr he
      subst hn
      subst hr
      clear he
      go_enter Tryd.func11, Tryd.ntmps11
      go_wp2
      go_ret
      exact ⟨rfl, Below.refl _ _⟩
  · rw [if_neg hn] at hr
    have n0 : (n == 0) = false := beq_eq_false_iff_ne.2 hn
    clear hn
    cases t with
    | none =>
      obtain rfl := ErR_nil he
      subst hr
      clear he
      go_enter Tryd.func11, Tryd.ntmps11
      go_wp2
      go_ret
      exact ⟨rfl, Below.refl _ _⟩
    | some x =>
      obtain ⟨cs, m⟩ := x
      obtain ⟨hne, hC⟩ := he
      cases cs with
      | nil => exact absurd rfl hne
      | cons c0 cs =>
        clear hne
        have hC' := hC
        obtain ⟨b, inner, rfl, hb, hin⟩ := hC'
        clear hin
        have hr' : ((m == n) && (c0.toList == c.toList)) = r := hr
        clear hr
        have hlb := lt_of hb
        have HR := Lib.hid hr'
        have hW : ∃ W2, W2 = (w.alloc (.cells #[.int .i64 0] 63)).alloc (.cells #[.pointer none] 80) := ⟨_, rfl⟩
        obtain ⟨W2, hW2⟩ := hW
        have b2 : Below w.heap.size w W2 := by rw [hW2]; exact ((Below.refl _ _).alloc (Nat.le_refl _) _).alloc (by simp) _
        have s2 : W2.heap.size = w.heap.size + 2 := by rw [hW2]; simp
        have o1 : W2.heap[w.heap.size]? = some (Obj.cells #[.int .i64 0] 63 (0, 0)) := by rw [hW2, alloc_old _ _ (by simp), heap_new]
        have o2 : W2.heap[w.heap.size + 1]? = some (Obj.cells #[.pointer none] 80 (0, 0)) := by rw [hW2]; have := heap_new (w.alloc (.cells #[.int .i64 0] 63)) (.cells #[.pointer none] 80); simpa using this
        have A1 := Lib.hid (As_num (c0 :: cs) (.iface 80 (.pointer (some ⟨b, 0, none⟩))) m w.heap.size (.int .i64 0) W2 (Glob_below hG b2) (ErC_step b2.block _ _ _ hC) o1)
        have A2 : ∀ w3, SetAt W2 w3 w.heap.size (.cells #[.int .i64 m] 63 (0, 0)) → Calls Tryd.prog 35 #[.iface 80 (.pointer (some ⟨b, 0, none⟩)), .iface 83 (.pointer (some ⟨w.heap.size + 1, 0, none⟩))] w3
            fun e w' => e = .returned (.bool true) ∧ (w'.cell? ⟨w.heap.size, 0, none⟩ = some (.int .i64 m) ∧ w'.cell? ⟨w.heap.size + 1, 0, none⟩ = some (.pointer (some ⟨b, 0, none⟩)) ∧ w'.cell? ⟨b, 0, none⟩ = some (.string c0) ∧ Below w.heap.size w w') := by
          intro w3 h3
          have b3 : Below w.heap.size w w3 := b2.trans (h3.below (by omega) (Nat.le_refl _))
          have z3 := h3.size
          refine (As_fault ⟨b, 0, none⟩ (w.heap.size + 1) (.pointer none) w3 (Glob_below hG b3) ((h3.block _ (by omega) (by omega)).trans o2)).mono ?_
          rintro e w' ⟨rfl, h4⟩
          refine ⟨rfl, ?_, ?_, ?_, b3.trans (h4.below (by omega) (by omega))⟩
          · rw [cell_of ((h4.block _ (by omega) (by omega)).trans h3.here)]; rfl
          · rw [cell_of h4.here]; rfl
          · rw [cell_of ((h4.block _ (by omega) (by omega)).trans ((b3.block b hlb).trans hb))]; rfl
        have HA2 := Lib.hid A2
        rw [hW2] at A1 HA2
        clear hW2 A2 b2 s2 o1 o2 hC hb hG hlb hr'
        clear W2
        go_enter Tryd.func11, Tryd.ntmps11
        go_wp2_with fail
        refine A1.out.mono ?_
        rintro e w3 ⟨rfl, h3⟩
        have H4 := Lib.hid (HA2.out w3 h3)
        clear h3 A1 HA2
        go_wp2_with fail
        refine H4.out.mono ?_
        rintro e w4 ⟨rfl, k1, k2, k3, hb4⟩
        clear H4
        by_cases e1 : m = n
        · subst e1
          have f1 : (m == m) = true := beq_self_eq_true m
          have HB := Lib.hid hb4
          clear hb4
          go_wp2
          go_ret
          exact ⟨congrArg Ending.returned (show Value.bool (c0.toList == c.toList) = Value.bool r from by rw [← HR.out, f1, Bool.true_and]), HB.out⟩
        · have f1 : (m == n) = false := beq_eq_false_iff_ne.2 e1
          have HB := Lib.hid hb4
          clear hb4 e1
          go_wp2
          go_ret
          exact ⟨congrArg Ending.returned (show Value.bool false = Value.bool r from by rw [← HR.out, f1, Bool.false_and]), HB.out⟩
end Go.Proofs.YtpfpdbbgiimnmaaDoor.Tells
