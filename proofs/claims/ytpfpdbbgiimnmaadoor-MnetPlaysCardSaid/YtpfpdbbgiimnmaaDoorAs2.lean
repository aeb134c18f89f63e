/- errors.As at the two targets, by its contracts: errors.as over a chain; errors.As. -/
import Derived.Test.YtpfpdbbgiimnmaaDoorAs
import Derived.WalkSpells
namespace Go.Proofs.YtpfpdbbgiimnmaaDoor.As
open Go.RowKit Go.Extern.Stop Go.Stop Go.Extern Go.Proofs.YtpfpdbbgiimnmaaDoor.Er

/-- A call that writes one block of its own giver's, and makes new ones. -/
structure SetAt (w w' : World) (tb : Nat) (o : Obj) : Prop where
  os : w'.os = w.os
  tape : w'.tape = w.tape
  output : w'.output = w.output
  size : w.heap.size ≤ w'.heap.size
  block : ∀ k, k < w.heap.size → k ≠ tb → w'.heap[k]? = w.heap[k]?
  here : w'.heap[tb]? = some o
theorem SetAt.below {w w' : World} {tb : Nat} {o : Obj} (h : SetAt w w' tb o) {B : Nat} (hB : B ≤ w.heap.size) (ht : B ≤ tb) : Below B w w' :=
  ⟨h.os, h.tape, h.output, h.size, fun k hk => h.block k (by omega) (by omega)⟩
theorem cell_of {w : World} {b : Nat} {cs : Array Value} {t : TypeId} {fr : Nat × Nat} (h : w.heap[b]? = some (.cells cs t fr)) (j : Nat) : w.cell? ⟨b, j, none⟩ = cs[j]? := by simp [World.cell?, h]
theorem lt_of {w : World} {b : Nat} {o : Obj} (h : w.heap[b]? = some o) : b < w.heap.size := by
  rcases Nat.lt_or_ge b w.heap.size with h1 | h1
  · exact h1
  · rw [Array.getElem?_eq_none h1] at h; cases h
theorem alloc_old (w : World) (o : Obj) {k : Nat} (h : k < w.heap.size) : (w.alloc o).heap[k]? = w.heap[k]? := Below.heap_alloc w o k h
theorem blk_set1 {w : World} {b : Nat} {old : Value} {T : TypeId} (h : w.heap[b]? = some (.cells #[old] T (0, 0))) (x : Value) : (w.setCell ⟨b, 0, none⟩ x).heap[b]? = some (.cells #[x] T (0, 0)) := by
  have hlt := lt_of h
  unfold World.setCell
  simp [Array.getElem?_modify, h]
/-- The store into a one-cell block, behind new blocks. -/
theorem setAt_mk (w : World) (o1 o2 : Obj) (tb : Nat) (old x : Value) (T : TypeId) (h : w.heap[tb]? = some (.cells #[old] T (0, 0))) :
    SetAt w (((w.alloc o1).alloc o2).setCell ⟨tb, 0, none⟩ x) tb (.cells #[x] T (0, 0)) := by
  have hlt := lt_of h
  have h2 : ((w.alloc o1).alloc o2).heap[tb]? = some (.cells #[old] T (0, 0)) := by rw [alloc_old _ _ (by simp; omega), alloc_old _ _ hlt]; exact h
  refine ⟨rfl, rfl, rfl, by rw [show (((w.alloc o1).alloc o2).setCell ⟨tb, 0, none⟩ x).heap.size = w.heap.size + 1 + 1 from by simp]; omega, fun k hk hne => ?_, ?_⟩
  · rw [Below.heap_setCell _ _ _ _ hne, alloc_old _ _ (by simp; omega), alloc_old _ _ hk]
  · have := blk_set1 h2 x; exact this

set_option maxHeartbeats 4000000 in
theorem as_num (cs0 : List ByteArray) (v0 : Value) (n : Int) (tb a : Nat) (old : Value) (w : World) (hc : ErC w cs0 v0 n) (ha : w.cell? ⟨a, 0, none⟩ = some (.pointer (some ⟨tb, 0, none⟩))) (ht : w.heap[tb]? = some (.cells #[old] 63 (0, 0))) :
    Calls Tryd.prog 53 #[v0, .iface 82 (.pointer (some ⟨tb, 0, none⟩)), .agg #[.pointer (some ⟨1, 82, none⟩), .pointer (some ⟨a, 0, none⟩), .int .u64 150], .iface 121 (.agg #[.pointer (some ⟨1, 63, none⟩)])] w
      fun e w' => e = .returned (.bool true) ∧ SetAt w w' tb (.cells #[.int .i64 n] 63 (0, 0)) := by
  have h17 := @run_callFunc_extern Tryd.prog 50 _ (fun args => ReflectliteValue.unpack (args.getD 0 (.tuple #[]))) Tryd.func50 (by kernel_rfl) (by kernel_rfl) (by kernel_rfl) (by kernel_rfl)
  have h24 := @run_callFunc_extern Tryd.prog 61 _ ReflectliteType.typeOf Tryd.func61 (by kernel_rfl) (by kernel_rfl) (by kernel_rfl) (by kernel_rfl)
  have h51 := @run_callFunc_extern Tryd.prog 94 _ (ReflectliteType.relation "AssignableTo" ReflectliteType.assignableTo) Tryd.func94 (by kernel_rfl) (by kernel_rfl) (by kernel_rfl) (by kernel_rfl)
  have h25 := @run_callFunc_extern Tryd.prog 62 _ (ReflectliteValue.method (ReflectliteValue.valueError "reflectlite.Value.Elem" 0) ReflectliteValue.elem) Tryd.func62 (by kernel_rfl) (by kernel_rfl) (by kernel_rfl) (by kernel_rfl)
  have h26 := @run_callFunc_extern Tryd.prog 63 _ ReflectliteValue.set Tryd.func63 (by kernel_rfl) (by kernel_rfl) (by kernel_rfl) (by kernel_rfl)
  have tEN := typeOfEN
  have tPF := typeOfPF
  have mA := methodAssignableTo
  have aNN := assignableENEN
  have aPN := assignablePFEN
  have vEN := valueOfEN
  have nA := noAs
  have hU := hasUnwrap
  have nU := nilAheadU
  have mU := methodU
  have hlt := lt_of ht
  have hal : a < w.heap.size := by
    rcases Nat.lt_or_ge a w.heap.size with h1 | h1
    · exact h1
    · simp [World.cell?, Array.getElem?_eq_none h1] at ha
  have el := elemVN ⟨a, 0, none⟩ ⟨tb, 0, none⟩ (w.alloc (.cells #[.pointer (some ⟨1, 82, none⟩), .pointer (some ⟨a, 0, none⟩), .int .u64 150] 104)) (by rw [World.cell?_alloc_lt _ _ ⟨a, 0, none⟩ hal]; exact ha)
  have st := setEN ⟨tb, 0, none⟩ ⟨w.heap.size + 1, 0, none⟩ n old ((w.alloc (.cells #[.pointer (some ⟨1, 82, none⟩), .pointer (some ⟨a, 0, none⟩), .int .u64 150] 104)).alloc (.cells #[.int .i64 n] 63))
    (by rw [World.cell?_alloc_at _ _ _ _ (by simp)]; rfl)
    (by rw [cell_of (show _ = some (Obj.cells #[old] 63 (0, 0)) from by rw [alloc_old _ _ (by simp; omega), alloc_old _ _ hlt]; exact ht)]; rfl)
    (by rw [World.frozen?_of_block (w := w) (by rw [alloc_old _ _ (by simp; omega), alloc_old _ _ hlt])]; simp [World.frozen?, ht])
  have HC := Lib.hid hc
  have HS := Lib.hid (setAt_mk w (.cells #[.pointer (some ⟨1, 82, none⟩), .pointer (some ⟨a, 0, none⟩), .int .u64 150] 104) (.cells #[.int .i64 n] 63) tb old (.int .i64 n) 63 ht)
  clear hc ha ht hlt hal
  go_enter Tryd.func53, Tryd.ntmps53
  go_wp2
  go_loopg [0] (cs0.length + 1) (fun kq v w' => ∃ cs, Hid (ErC w cs v n) ∧ Hid (kq = cs.length + 1) ∧ w' = w.alloc (.cells #[.pointer (some ⟨1, 82, none⟩), .pointer (some ⟨a, 0, none⟩), .int .u64 150] 104))
  case atStart => exact ⟨cs0, HC, Lib.hid rfl, rfl⟩
  case round =>
    clear HC
    obtain ⟨cs, HC, HK, rfl⟩ := hrel
    cases cs with
    | nil =>
      obtain rfl := HC.out
      clear HC
      go_wp2
      go_ret
      exact ⟨rfl, HS.out⟩
    | cons c cs =>
      obtain ⟨b, inner, rfl, hb, hr⟩ := HC.out
      clear HC
      have hlb := lt_of hb
      have HU := Lib.hid (unwrap_calls b inner (w.alloc (.cells #[.pointer (some ⟨1, 82, none⟩), .pointer (some ⟨a, 0, none⟩), .int .u64 150] 104)) (by rw [cell_of (show _ = some (Obj.cells #[.string c, inner] 85 (0, 0)) from by rw [alloc_old _ _ hlb]; exact hb)]; rfl))
      clear hb hlb
      obtain ⟨T, x, rfl⟩ : ∃ T x, inner = .iface T x := by
        cases cs with
        | nil => exact ⟨_, _, hr⟩
        | cons c2 cs2 => obtain ⟨b2, i2, e2, _⟩ := hr; exact ⟨_, _, e2⟩
      have HR := Lib.hid hr
      clear hr
      go_wp2_with (go_at_call 89; refine HU.out.mono ?_; rintro e w' ⟨rfl, rfl⟩)
      go_roundg (cs.length + 1)
      case measure => have := HK.out; simp at this; omega
      case rel => exact ⟨cs, HR, Lib.hid rfl, rfl⟩

set_option maxHeartbeats 4000000 in
theorem as_fault (p : Addr) (tb a : Nat) (old : Value) (w : World) (ha : w.cell? ⟨a, 0, none⟩ = some (.pointer (some ⟨tb, 0, none⟩))) (ht : w.heap[tb]? = some (.cells #[old] 80 (0, 0))) :
    Calls Tryd.prog 53 #[.iface 80 (.pointer (some p)), .iface 83 (.pointer (some ⟨tb, 0, none⟩)), .agg #[.pointer (some ⟨1, 83, none⟩), .pointer (some ⟨a, 0, none⟩), .int .u64 150], .iface 121 (.agg #[.pointer (some ⟨1, 80, none⟩)])] w
      fun e w' => e = .returned (.bool true) ∧ SetAt w w' tb (.cells #[.pointer (some p)] 80 (0, 0)) := by
  have h17 := @run_callFunc_extern Tryd.prog 50 _ (fun args => ReflectliteValue.unpack (args.getD 0 (.tuple #[]))) Tryd.func50 (by kernel_rfl) (by kernel_rfl) (by kernel_rfl) (by kernel_rfl)
  have h24 := @run_callFunc_extern Tryd.prog 61 _ ReflectliteType.typeOf Tryd.func61 (by kernel_rfl) (by kernel_rfl) (by kernel_rfl) (by kernel_rfl)
  have h51 := @run_callFunc_extern Tryd.prog 94 _ (ReflectliteType.relation "AssignableTo" ReflectliteType.assignableTo) Tryd.func94 (by kernel_rfl) (by kernel_rfl) (by kernel_rfl) (by kernel_rfl)
  have h25 := @run_callFunc_extern Tryd.prog 62 _ (ReflectliteValue.method (ReflectliteValue.valueError "reflectlite.Value.Elem" 0) ReflectliteValue.elem) Tryd.func62 (by kernel_rfl) (by kernel_rfl) (by kernel_rfl) (by kernel_rfl)
  have h26 := @run_callFunc_extern Tryd.prog 63 _ ReflectliteValue.set Tryd.func63 (by kernel_rfl) (by kernel_rfl) (by kernel_rfl) (by kernel_rfl)
  have tPF := typeOfPF
  have mA := methodAssignableTo
  have aPP := assignablePFPF
  have vPF := valueOfPF
  have hlt := lt_of ht
  have hal : a < w.heap.size := by
    rcases Nat.lt_or_ge a w.heap.size with h1 | h1
    · exact h1
    · simp [World.cell?, Array.getElem?_eq_none h1] at ha
  have el := elemVF ⟨a, 0, none⟩ ⟨tb, 0, none⟩ (w.alloc (.cells #[.pointer (some ⟨1, 83, none⟩), .pointer (some ⟨a, 0, none⟩), .int .u64 150] 104)) (by rw [World.cell?_alloc_lt _ _ ⟨a, 0, none⟩ hal]; exact ha)
  have st := setPF ⟨tb, 0, none⟩ ⟨w.heap.size + 1, 0, none⟩ p old ((w.alloc (.cells #[.pointer (some ⟨1, 83, none⟩), .pointer (some ⟨a, 0, none⟩), .int .u64 150] 104)).alloc (.cells #[.pointer (some p)] 80))
    (by rw [World.cell?_alloc_at _ _ _ _ (by simp)]; rfl)
    (by rw [cell_of (show _ = some (Obj.cells #[old] 80 (0, 0)) from by rw [alloc_old _ _ (by simp; omega), alloc_old _ _ hlt]; exact ht)]; rfl)
    (by rw [World.frozen?_of_block (w := w) (by rw [alloc_old _ _ (by simp; omega), alloc_old _ _ hlt])]; simp [World.frozen?, ht])
  have HS := Lib.hid (setAt_mk w (.cells #[.pointer (some ⟨1, 83, none⟩), .pointer (some ⟨a, 0, none⟩), .int .u64 150] 104) (.cells #[.pointer (some p)] 80) tb old (.pointer (some p)) 80 ht)
  clear ha ht hlt hal
  go_enter Tryd.func53, Tryd.ntmps53
  go_wp2
  refine wp_loop_rounds 1 ?_
  rw [rounds_succ]
  go_wp2
  go_ret
  exact ⟨rfl, HS.out⟩
theorem SetAt.old {w w1 w' : World} {tb : Nat} {o : Obj} (h : SetAt w1 w' tb o) (hb : Below w.heap.size w w1) : SetAt w w' tb o :=
  ⟨h.os.trans hb.os, h.tape.trans hb.tape, h.output.trans hb.output, Nat.le_trans hb.size h.size, fun k hk hne => (h.block k (Nat.lt_of_lt_of_le hk hb.size) hne).trans (hb.block k hk), h.here⟩
set_option maxHeartbeats 4000000 in
theorem As_num (cs0 : List ByteArray) (v0 : Value) (n : Int) (tb : Nat) (old : Value) (w : World) (hG : Glob w) (hc : ErC w cs0 v0 n) (ht : w.heap[tb]? = some (.cells #[old] 63 (0, 0))) :
    Calls Tryd.prog 35 #[v0, .iface 82 (.pointer (some ⟨tb, 0, none⟩))] w fun e w' => e = .returned (.bool true) ∧ SetAt w w' tb (.cells #[.int .i64 n] 63 (0, 0)) := by
  obtain ⟨T, x, rfl⟩ : ∃ T x, v0 = .iface T x := by
    cases cs0 with
    | nil => exact ⟨_, _, hc⟩
    | cons c2 cs2 => obtain ⟨b2, i2, e2, _⟩ := hc; exact ⟨_, _, e2⟩
  have h17 := @run_callFunc_extern Tryd.prog 50 _ (fun args => ReflectliteValue.unpack (args.getD 0 (.tuple #[]))) Tryd.func50 (by kernel_rfl) (by kernel_rfl) (by kernel_rfl) (by kernel_rfl)
  have h18 := @run_callFunc_extern Tryd.prog 51 _ (ReflectliteValue.methodAny (ReflectliteValue.valueError "reflectlite.Value.Type" 0) (fun t _ _ _ => ReflectliteType.toType t)) Tryd.func51 (by kernel_rfl) (by kernel_rfl) (by kernel_rfl) (by kernel_rfl)
  have h19 := @run_callFunc_extern Tryd.prog 52 _ (ReflectliteValue.method (ReflectliteValue.valueError "reflectlite.Value.IsNil" 0) ReflectliteValue.isNil) Tryd.func52 (by kernel_rfl) (by kernel_rfl) (by kernel_rfl) (by kernel_rfl)
  have h41 := @run_callFunc_extern Tryd.prog 84 _ (ReflectliteType.abiMethod fun t => do pure (.int .u8 (← Rtype.kind t))) Tryd.func84 (by kernel_rfl) (by kernel_rfl) (by kernel_rfl) (by kernel_rfl)
  have h53 := @run_callFunc_extern Tryd.prog 96 _ (ReflectliteType.method ReflectliteType.elem) Tryd.func96 (by kernel_rfl) (by kernel_rfl) (by kernel_rfl) (by kernel_rfl)
  have h54 := @run_callFunc_extern Tryd.prog 97 _ (ReflectliteType.relation "Implements" ReflectliteType.implements_) Tryd.func97 (by kernel_rfl) (by kernel_rfl) (by kernel_rfl) (by kernel_rfl)
  have vO := valueOfN
  have tO := typeN
  have mK := methodKind
  have mE := methodElem
  have mI := methodImplements
  have kO := kindN
  have kE := kindEN
  have eO := elemN
  have iE := implementsEN
  have hb2 : Below w.heap.size w ((w.alloc (.cells #[.pointer (some ⟨tb, 0, none⟩)] 82)).alloc (.cells #[.pointer (some ⟨1, 82, none⟩), .pointer (some ⟨w.heap.size, 0, none⟩), .int .u64 150] 104)) := ((Below.refl _ _).alloc (Nat.le_refl _) _).alloc (by simp) _
  have hca : (((w.alloc (.cells #[.pointer (some ⟨tb, 0, none⟩)] 82)).alloc (.cells #[.pointer (some ⟨1, 82, none⟩), .pointer (some ⟨w.heap.size, 0, none⟩), .int .u64 150] 104))).cell? ⟨w.heap.size, 0, none⟩ = some (.pointer (some ⟨tb, 0, none⟩)) := by
    rw [World.cell?_alloc_lt _ _ ⟨w.heap.size, 0, none⟩ (by simp)]; simp
  have hg2 : (((w.alloc (.cells #[.pointer (some ⟨tb, 0, none⟩)] 82)).alloc (.cells #[.pointer (some ⟨1, 82, none⟩), .pointer (some ⟨w.heap.size, 0, none⟩), .int .u64 150] 104))).cell? ⟨0, 0, none⟩ = some (.iface 121 (.agg #[.pointer (some ⟨1, 29, none⟩)])) := Glob_below hG hb2
  have n8 := isNilN ⟨w.heap.size, 0, none⟩ ⟨tb, 0, none⟩ ((w.alloc (.cells #[.pointer (some ⟨tb, 0, none⟩)] 82)).alloc (.cells #[.pointer (some ⟨1, 82, none⟩), .pointer (some ⟨w.heap.size, 0, none⟩), .int .u64 150] 104)) hca
  have HA := Lib.hid (as_num cs0 (.iface T x) n tb w.heap.size old ((w.alloc (.cells #[.pointer (some ⟨tb, 0, none⟩)] 82)).alloc (.cells #[.pointer (some ⟨1, 82, none⟩), .pointer (some ⟨w.heap.size, 0, none⟩), .int .u64 150] 104)) (ErC_step hb2.block cs0 _ n hc) hca (by rw [hb2.block tb (lt_of ht)]; exact ht))
  have HB := Lib.hid hb2
  clear hb2 hca ht hG hc
  go_enter Tryd.func35, Tryd.ntmps35
  go_wp2_with (go_at_call 53; refine HA.out.mono ?_; rintro e w' ⟨rfl, hs⟩)
  go_ret
  exact ⟨rfl, hs.old HB.out⟩
set_option maxHeartbeats 4000000 in
theorem As_fault (p : Addr) (tb : Nat) (old : Value) (w : World) (hG : Glob w) (ht : w.heap[tb]? = some (.cells #[old] 80 (0, 0))) :
    Calls Tryd.prog 35 #[.iface 80 (.pointer (some p)), .iface 83 (.pointer (some ⟨tb, 0, none⟩))] w fun e w' => e = .returned (.bool true) ∧ SetAt w w' tb (.cells #[.pointer (some p)] 80 (0, 0)) := by
  have h17 := @run_callFunc_extern Tryd.prog 50 _ (fun args => ReflectliteValue.unpack (args.getD 0 (.tuple #[]))) Tryd.func50 (by kernel_rfl) (by kernel_rfl) (by kernel_rfl) (by kernel_rfl)
  have h18 := @run_callFunc_extern Tryd.prog 51 _ (ReflectliteValue.methodAny (ReflectliteValue.valueError "reflectlite.Value.Type" 0) (fun t _ _ _ => ReflectliteType.toType t)) Tryd.func51 (by kernel_rfl) (by kernel_rfl) (by kernel_rfl) (by kernel_rfl)
  have h19 := @run_callFunc_extern Tryd.prog 52 _ (ReflectliteValue.method (ReflectliteValue.valueError "reflectlite.Value.IsNil" 0) ReflectliteValue.isNil) Tryd.func52 (by kernel_rfl) (by kernel_rfl) (by kernel_rfl) (by kernel_rfl)
  have h41 := @run_callFunc_extern Tryd.prog 84 _ (ReflectliteType.abiMethod fun t => do pure (.int .u8 (← Rtype.kind t))) Tryd.func84 (by kernel_rfl) (by kernel_rfl) (by kernel_rfl) (by kernel_rfl)
  have h53 := @run_callFunc_extern Tryd.prog 96 _ (ReflectliteType.method ReflectliteType.elem) Tryd.func96 (by kernel_rfl) (by kernel_rfl) (by kernel_rfl) (by kernel_rfl)
  have h54 := @run_callFunc_extern Tryd.prog 97 _ (ReflectliteType.relation "Implements" ReflectliteType.implements_) Tryd.func97 (by kernel_rfl) (by kernel_rfl) (by kernel_rfl) (by kernel_rfl)
  have vO := valueOfF
  have tO := typeF
  have mK := methodKind
  have mE := methodElem
  have mI := methodImplements
  have kO := kindF
  have kE := kindPF
  have eO := elemF
  have iE := implementsPF
  have hb2 : Below w.heap.size w ((w.alloc (.cells #[.pointer (some ⟨tb, 0, none⟩)] 83)).alloc (.cells #[.pointer (some ⟨1, 83, none⟩), .pointer (some ⟨w.heap.size, 0, none⟩), .int .u64 150] 104)) := ((Below.refl _ _).alloc (Nat.le_refl _) _).alloc (by simp) _
  have hca : (((w.alloc (.cells #[.pointer (some ⟨tb, 0, none⟩)] 83)).alloc (.cells #[.pointer (some ⟨1, 83, none⟩), .pointer (some ⟨w.heap.size, 0, none⟩), .int .u64 150] 104))).cell? ⟨w.heap.size, 0, none⟩ = some (.pointer (some ⟨tb, 0, none⟩)) := by
    rw [World.cell?_alloc_lt _ _ ⟨w.heap.size, 0, none⟩ (by simp)]; simp
  have hg2 : (((w.alloc (.cells #[.pointer (some ⟨tb, 0, none⟩)] 83)).alloc (.cells #[.pointer (some ⟨1, 83, none⟩), .pointer (some ⟨w.heap.size, 0, none⟩), .int .u64 150] 104))).cell? ⟨0, 0, none⟩ = some (.iface 121 (.agg #[.pointer (some ⟨1, 29, none⟩)])) := Glob_below hG hb2
  have n8 := isNilF ⟨w.heap.size, 0, none⟩ ⟨tb, 0, none⟩ ((w.alloc (.cells #[.pointer (some ⟨tb, 0, none⟩)] 83)).alloc (.cells #[.pointer (some ⟨1, 83, none⟩), .pointer (some ⟨w.heap.size, 0, none⟩), .int .u64 150] 104)) hca
  have HA := Lib.hid (as_fault p tb w.heap.size old ((w.alloc (.cells #[.pointer (some ⟨tb, 0, none⟩)] 83)).alloc (.cells #[.pointer (some ⟨1, 83, none⟩), .pointer (some ⟨w.heap.size, 0, none⟩), .int .u64 150] 104)) hca (by rw [hb2.block tb (lt_of ht)]; exact ht))
  have HB := Lib.hid hb2
  clear hb2 hca ht hG
  go_enter Tryd.func35, Tryd.ntmps35
  go_wp2_with (go_at_call 53; refine HA.out.mono ?_; rintro e w' ⟨rfl, hs⟩)
  go_ret
  exact ⟨rfl, hs.old HB.out⟩
end Go.Proofs.YtpfpdbbgiimnmaaDoor.As
