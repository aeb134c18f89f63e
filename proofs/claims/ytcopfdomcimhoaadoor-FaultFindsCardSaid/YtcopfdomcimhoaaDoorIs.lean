/- errors.Is and fault.Is at a number (api.Errno), over any chain of calls round a number, and over none. Conditions: none. -/
import Derived.Test.YtcopfdomcimhoaaDoorFlt
namespace Go.Proofs.YtcopfdomcimhoaaDoor.Flt
open Go.RowKit Go.Extern.Stop Go.Stop Go.Extern Go.Proofs.YtcopfdomcimhoaaDoor.Er Go.Proofs.YtcopfdomcimhoaaDoor.As

theorem run_eql_iface_int {P : Program} {ti tp : TypeId} {ms : Array (String × TypeId)} {i : TypeInfo} (a b : Int) (w : World)
    (hi : P.underlying ti = some (.interface ms)) (hp : P.underlying tp = some (.int .i64)) (hinfo : P.info? tp = some i) (hcomp : i.comparable = true) :
    (binOp .eql ti (.iface tp (.int .i64 a)) (.iface tp (.int .i64 b))).run P w = .ok (.bool (a == b)) w := by
  have h : ∀ d : Nat, (Op.equalIn (d + 2) ti (.iface tp (.int .i64 a)) (.iface tp (.int .i64 b))).run P w = .ok (a == b) w := fun d => by
    simp [Op.equalIn, run_underlying hi, run_underlying hp, typeInfo, hinfo, hcomp]
  simp only [binOp]
  simp [Op.equal, Op.maxDepth, h 9998]
theorem compEN (w : World) : (callFunc 56 #[.agg #[.pointer (some ⟨1, 25, none⟩)]]).run Tryd.prog w = .ok (.value (.bool true)) w := by
  have h := @run_callFunc_extern Tryd.prog 56 _ (ReflectliteType.method fun t => do Rtype.noPackHeld "Comparable" t; pure (.bool (← typeInfo t).comparable)) Tryd.func56 (by kernel_rfl) (by kernel_rfl) (by kernel_rfl) (by kernel_rfl)
  exact (h _ w).trans (by kernel_rfl)
theorem methodComparable (h : Value) (w : World) : (Go.method 210 65 (.agg #[h]) "Comparable").run Tryd.prog w = .ok (56, .agg #[h]) w := by kernel_rfl
theorem isComp : (Tryd.prog.info? 25).map (·.comparable) = some true := by kernel_rfl
theorem noIs (v : Value) (w : World) : (Instr.typeAssert (.iface 44 v) 23 67 true).run Tryd.prog w = .ok (.tuple #[.nilIface, .bool false]) w := run_typeAssert_lacksB Tryd.underlying67 (by kernel_rfl) (by kernel_rfl) v _ w
theorem noIsEN (v : Value) (w : World) : (Instr.typeAssert (.iface 25 v) 23 67 true).run Tryd.prog w = .ok (.tuple #[.nilIface, .bool false]) w := run_typeAssert_lacksB Tryd.underlying67 (by kernel_rfl) (by kernel_rfl) v _ w
def isOf (t : Option Er) (n : Int) : Bool := match t with | none => false | some x => x.2 == n
set_option maxHeartbeats 4000000 in
theorem is_calls0 (cs0 : List ByteArray) (v0 : Value) (m n : Int) (w : World) (hc : ErC w cs0 v0 m) :
    Calls Tryd.prog 24 #[v0, .iface 25 (.int .i64 n), .bool true] w fun e w' => e = .returned (.bool (m == n)) ∧ w' = w := by
  obtain ⟨i, hi, hcmp⟩ := Option.map_eq_some_iff.1 isComp
  have nA := noIs
  have nE := noIsEN
  have hU := hasUnwrap
  have nU := nilAheadU
  have mU := methodU
  have uE := noUnwrapEN
  have vE := noUnwrapsEN
  have hty := fun v (w : World) => run_eql_iface_types (P := Tryd.prog) 44 25 v (.int .i64 n) Tryd.underlying23 (by decide) w
  have heq := fun (w : World) => run_eql_iface_int (P := Tryd.prog) m n w Tryd.underlying23 Tryd.underlying25 hi hcmp
  have HC := Lib.hid hc
  clear hc
  go_enter Tryd.func24, Tryd.ntmps24
  go_wp2
  go_loopg [0] (cs0.length + 1) (fun kq v w' => ∃ cs, Hid (ErC w cs v m) ∧ Hid (kq = cs.length + 1) ∧ w' = w)
  case atStart => exact ⟨cs0, HC, Lib.hid rfl, rfl⟩
  case round =>
    clear HC
    obtain ⟨cs, HC, HK, rfl⟩ := hrel
    cases cs with
    | nil =>
      obtain rfl := HC.out
      clear HC
      by_cases hmn : m = n
      · subst hmn
        have f1 : (m == m) = true := beq_self_eq_true m
        have F1 := Lib.hid f1
        rw [f1] at heq
        go_wp2
        go_ret
        exact ⟨by rw [F1.out]; rfl, rfl⟩
      · have f1 : (m == n) = false := beq_eq_false_iff_ne.2 hmn
        have F1 := Lib.hid f1
        rw [f1] at heq
        clear hmn
        go_wp2
        go_ret
        exact ⟨by rw [F1.out]; rfl, rfl⟩
    | cons c cs =>
      obtain ⟨b, inner, rfl, hb, hr⟩ := HC.out
      clear HC
      have hlb := lt_of hb
      have HU := Lib.hid (unwrap_calls b inner wr (by rw [cell_of hb]; rfl))
      clear hb hlb
      obtain ⟨T, x, rfl⟩ := ErC_form hr
      have HR := Lib.hid hr
      clear hr
      go_wp2_with (go_at_call 50; refine HU.out.mono ?_; rintro e w' ⟨rfl, rfl⟩)
      go_roundg (cs.length + 1)
      case measure => have := HK.out; simp at this; omega
      case rel => exact ⟨cs, HR, Lib.hid rfl, rfl⟩
set_option maxHeartbeats 4000000 in
theorem Is_calls (v : Value) (t : Option Er) (n : Int) (w : World) (hE : ErB w v t) : Calls Tryd.prog 21 #[v, .iface 25 (.int .i64 n)] w fun e w' => e = .returned (.bool (isOf t n)) ∧ Below w.heap.size w w' := by
  cases t with
  | none =>
    obtain rfl : v = .nilIface := hE
    have hn := run_eql_iface_nil_left (P := Tryd.prog) w 25 (.int .i64 n) Tryd.underlying23
    go_enter Tryd.func21, Tryd.ntmps21
    go_wp2
    go_ret
    exact ⟨rfl, Below.refl _ _⟩
  | some x =>
    obtain ⟨cs, m⟩ := x
    have h24 := @run_callFunc_extern Tryd.prog 23 _ ReflectliteType.typeOf Tryd.func23 (by kernel_rfl) (by kernel_rfl) (by kernel_rfl) (by kernel_rfl)
    have tT := typeOfEN
    have cT := compEN
    have mC := methodComparable
    have HI := Lib.hid (is_calls0 cs v m n w hE)
    obtain ⟨T, y, rfl⟩ := ErC_form hE
    clear hE
    go_enter Tryd.func21, Tryd.ntmps21
    go_wp2_with (go_at_call 24; refine HI.out.mono ?_; rintro e w' ⟨rfl, rfl⟩)
    go_ret
    exact ⟨rfl, Below.refl _ _⟩
set_option maxHeartbeats 4000000 in
theorem fIs_calls (v : Value) (t : Option Er) (n : Int) (w : World) (hE : ErB w v t) : Calls Tryd.prog 19 #[v, .int .i64 n] w fun e w' => e = .returned (.bool (isOf t n)) ∧ Below w.heap.size w w' := by
  have HI := Lib.hid (Is_calls v t n w hE)
  clear hE
  go_enter Tryd.func19, Tryd.ntmps19
  go_wp2_with (go_at_call 21; refine HI.out.mono ?_; rintro e w' ⟨rfl, hb⟩; have HB := Lib.hid hb; clear hb HI)
  go_ret
  exact ⟨rfl, HB.out⟩
end Go.Proofs.YtcopfdomcimhoaaDoor.Flt
