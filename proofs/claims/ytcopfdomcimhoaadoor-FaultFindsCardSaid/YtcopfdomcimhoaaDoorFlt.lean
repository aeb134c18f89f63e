/- errors.As at an error's call where the error is a bare number, or none; errors with no call round them; what stays of them. Premise: Glob where it is said. -/
import Derived.Test.YtcopfdomcimhoaaDoorAs2
namespace Go.Proofs.YtcopfdomcimhoaaDoor.Flt
open Go.RowKit Go.Extern.Stop Go.Stop Go.Extern Go.Proofs.YtcopfdomcimhoaaDoor.Er Go.Proofs.YtcopfdomcimhoaaDoor.As

/-- An error, whether or not a call stands round its number. -/
def ErB (w : World) (v : Value) : Option Er → Prop
  | none => v = .nilIface
  | some x => ErC w x.1 v x.2
theorem ErB_of {w : World} {v : Value} {t : Option Er} (h : ErR w v t) : ErB w v t := by
  cases t with
  | none => exact h
  | some x => exact h.2
theorem ErB_below {w w' : World} {v : Value} {t : Option Er} (hb : Below w.heap.size w w') (h : ErB w v t) : ErB w' v t := by
  cases t with
  | none => exact h
  | some x => exact ErC_step hb.block x.1 v x.2 h
theorem ErC_form {w : World} {cs : List ByteArray} {v : Value} {n : Int} (h : ErC w cs v n) : ∃ T x, v = .iface T x := by
  cases cs with
  | nil => exact ⟨_, _, h⟩
  | cons c cs => obtain ⟨b, i, e, _⟩ := h; exact ⟨_, _, e⟩
theorem assignableENPF (w : World) : (ReflectliteType.relation "AssignableTo" ReflectliteType.assignableTo #[.agg #[.pointer (some ⟨1, 25, none⟩)], .iface 65 (.agg #[.pointer (some ⟨1, 44, none⟩)])]).run Tryd.prog w = .ok (.bool false) w := by kernel_rfl
theorem noAsEN (v : Value) (w : World) : (Instr.typeAssert (.iface 25 v) 23 77 true).run Tryd.prog w = .ok (.tuple #[.nilIface, .bool false]) w := run_typeAssert_lacksB Tryd.underlying77 (by kernel_rfl) (by kernel_rfl) v _ w
theorem noUnwrapEN (v : Value) (w : World) : (Instr.typeAssert (.iface 25 v) 23 70 true).run Tryd.prog w = .ok (.tuple #[.nilIface, .bool false]) w := run_typeAssert_lacksB Tryd.underlying70 (by kernel_rfl) (by kernel_rfl) v _ w
theorem noUnwrapsEN (v : Value) (w : World) : (Instr.typeAssert (.iface 25 v) 23 72 true).run Tryd.prog w = .ok (.tuple #[.nilIface, .bool false]) w := run_typeAssert_lacksB Tryd.underlying72 (by kernel_rfl) (by kernel_rfl) v _ w
set_option maxHeartbeats 4000000 in
theorem as_no (n : Int) (tb a : Nat) (w : World) :
    Calls Tryd.prog 28 #[.iface 25 (.int .i64 n), .iface 49 (.pointer (some ⟨tb, 0, none⟩)), .agg #[.pointer (some ⟨1, 49, none⟩), .pointer (some ⟨a, 0, none⟩), .int .u64 150], .iface 65 (.agg #[.pointer (some ⟨1, 44, none⟩)])] w
      fun e w' => e = .returned (.bool false) ∧ Below w.heap.size w w' := by
  have h24 := @run_callFunc_extern Tryd.prog 23 _ ReflectliteType.typeOf Tryd.func23 (by kernel_rfl) (by kernel_rfl) (by kernel_rfl) (by kernel_rfl)
  have h51 := @run_callFunc_extern Tryd.prog 55 _ (ReflectliteType.relation "AssignableTo" ReflectliteType.assignableTo) Tryd.func55 (by kernel_rfl) (by kernel_rfl) (by kernel_rfl) (by kernel_rfl)
  have tEN := typeOfEN
  have mA := methodAssignableTo
  have aNP := assignableENPF
  have nA := noAsEN
  have nU := noUnwrapEN
  have nUs := noUnwrapsEN
  go_enter Tryd.func28, Tryd.ntmps28
  go_wp2
  refine wp_loop_rounds 1 ?_
  rw [rounds_succ]
  go_wp2
  go_ret
  exact ⟨rfl, by repeat (first | exact Below.refl _ _ | refine Below.alloc ?_ (Nat.le_refl _) _)⟩
set_option maxHeartbeats 4000000 in
theorem As_no (n : Int) (tb : Nat) (w : World) (hG : Glob w) :
    Calls Tryd.prog 22 #[.iface 25 (.int .i64 n), .iface 49 (.pointer (some ⟨tb, 0, none⟩))] w fun e w' => e = .returned (.bool false) ∧ Below w.heap.size w w' := by
  have h17 := @run_callFunc_extern Tryd.prog 25 _ (fun args => ReflectliteValue.unpack (args.getD 0 (.tuple #[]))) Tryd.func25 (by kernel_rfl) (by kernel_rfl) (by kernel_rfl) (by kernel_rfl)
  have h18 := @run_callFunc_extern Tryd.prog 26 _ (ReflectliteValue.methodAny (ReflectliteValue.valueError "reflectlite.Value.Type" 0) (fun t _ _ _ => ReflectliteType.toType t)) Tryd.func26 (by kernel_rfl) (by kernel_rfl) (by kernel_rfl) (by kernel_rfl)
  have h19 := @run_callFunc_extern Tryd.prog 27 _ (ReflectliteValue.method (ReflectliteValue.valueError "reflectlite.Value.IsNil" 0) ReflectliteValue.isNil) Tryd.func27 (by kernel_rfl) (by kernel_rfl) (by kernel_rfl) (by kernel_rfl)
  have h41 := @run_callFunc_extern Tryd.prog 45 _ (ReflectliteType.abiMethod fun t => do pure (.int .u8 (← Rtype.kind t))) Tryd.func45 (by kernel_rfl) (by kernel_rfl) (by kernel_rfl) (by kernel_rfl)
  have h53 := @run_callFunc_extern Tryd.prog 57 _ (ReflectliteType.method ReflectliteType.elem) Tryd.func57 (by kernel_rfl) (by kernel_rfl) (by kernel_rfl) (by kernel_rfl)
  have h54 := @run_callFunc_extern Tryd.prog 58 _ (ReflectliteType.relation "Implements" ReflectliteType.implements_) Tryd.func58 (by kernel_rfl) (by kernel_rfl) (by kernel_rfl) (by kernel_rfl)
  have vO := valueOfF
  have tO := typeF
  have mK := methodKind
  have mE := methodElem
  have mI := methodImplements
  have kO := kindF
  have kE := kindPF
  have eO := elemF
  have iE := implementsPF
  have hb2 : Below w.heap.size w ((w.alloc (.cells #[.pointer (some ⟨tb, 0, none⟩)] 49)).alloc (.cells #[.pointer (some ⟨1, 49, none⟩), .pointer (some ⟨w.heap.size, 0, none⟩), .int .u64 150] 57)) := ((Below.refl _ _).alloc (Nat.le_refl _) _).alloc (by simp) _
  have hca : (((w.alloc (.cells #[.pointer (some ⟨tb, 0, none⟩)] 49)).alloc (.cells #[.pointer (some ⟨1, 49, none⟩), .pointer (some ⟨w.heap.size, 0, none⟩), .int .u64 150] 57))).cell? ⟨w.heap.size, 0, none⟩ = some (.pointer (some ⟨tb, 0, none⟩)) := by
    rw [World.cell?_alloc_lt _ _ ⟨w.heap.size, 0, none⟩ (by simp)]; simp
  have hg2 : (((w.alloc (.cells #[.pointer (some ⟨tb, 0, none⟩)] 49)).alloc (.cells #[.pointer (some ⟨1, 49, none⟩), .pointer (some ⟨w.heap.size, 0, none⟩), .int .u64 150] 57))).cell? ⟨0, 0, none⟩ = some (.iface 65 (.agg #[.pointer (some ⟨1, 23, none⟩)])) := Glob_below hG hb2
  have n8 := isNilF ⟨w.heap.size, 0, none⟩ ⟨tb, 0, none⟩ ((w.alloc (.cells #[.pointer (some ⟨tb, 0, none⟩)] 49)).alloc (.cells #[.pointer (some ⟨1, 49, none⟩), .pointer (some ⟨w.heap.size, 0, none⟩), .int .u64 150] 57)) hca
  have HA := Lib.hid (as_no n tb w.heap.size ((w.alloc (.cells #[.pointer (some ⟨tb, 0, none⟩)] 49)).alloc (.cells #[.pointer (some ⟨1, 49, none⟩), .pointer (some ⟨w.heap.size, 0, none⟩), .int .u64 150] 57)))
  have HB := Lib.hid hb2
  clear hb2 hca hG
  go_enter Tryd.func22, Tryd.ntmps22
  go_wp2_with (go_at_call 28; refine HA.out.mono ?_; rintro e w' ⟨rfl, hs⟩)
  go_ret
  exact ⟨rfl, HB.out.trans (hs.mono HB.out.size)⟩
set_option maxHeartbeats 4000000 in
theorem As_nil (T : TypeId) (p : Value) (w : World) : Calls Tryd.prog 22 #[.nilIface, .iface T p] w fun e w' => e = .returned (.bool false) ∧ Below w.heap.size w w' := by
  go_enter Tryd.func22, Tryd.ntmps22
  go_wp2
  go_ret
  exact ⟨rfl, Below.refl _ _⟩
end Go.Proofs.YtcopfdomcimhoaaDoor.Flt
