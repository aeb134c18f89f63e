/- AccountNil: a nil account. Conditions: errors.errorType holds the handle of the type error. -/
import Derived.Test.YtbjojkocmmcpgaaDoorLawsA
import Derived.Test.YtbjojkocmmcpgaaDoorTells20
import Derived.ProofKit
namespace Go.Proofs.YtbjojkocmmcpgaaDoor.Acc
set_option linter.unusedSimpArgs false
set_option linter.unusedVariables false
open Go.RowKit Go.Maps Go.WideShapes Go.Proofs.YtbjojkocmmcpgaaDoor.Er Go.Proofs.YtbjojkocmmcpgaaDoor.As Go.Proofs.YtbjojkocmmcpgaaDoor.Mod Go.Proofs.YtbjojkocmmcpgaaDoorW.PrintWords
def dataN : ByteArray := ⟨#[97, 99, 99, 111, 117, 110, 116, 46, 68, 97, 116, 97]⟩
def setN : ByteArray := ⟨#[97, 99, 99, 111, 117, 110, 116, 46, 83, 101, 116, 76, 101, 118, 101, 108]⟩
set_option maxHeartbeats 4000000 in
set_option maxRecDepth 100000 in
theorem dataNil_calls (w : World) (cs : Array Value) (hcs : cs.size = 20) : Calls Tryd.prog 4 #[.pointer none, .agg cs] w fun e w' => ∃ ev, e = .returned (.tuple #[.slice none 0 0, .bool false, ev]) ∧ ErR w' ev (some ([dataN], 7)) ∧ Below w.heap.size w w' := by
  go_enter Tryd.func4, Tryd.ntmps4
  go_wp2_with (first | (go_at_call 11; refine (fault_New.calls _ 7 (some ([dataN], 7)) _ rfl).mono ?_; rintro e w2 ⟨ev, rfl, h1, h2⟩; have HE := Lib.hid (And.intro h1 h2); clear h1 h2))
  go_ret3
  exact ⟨_, rfl, HE.out.1, ((Below.refl _ _).alloc (Nat.le_refl _) _).trans (HE.out.2.mono (by simp))⟩
set_option maxHeartbeats 4000000 in
theorem setNil_calls (w : World) (l : Int) : Calls Tryd.prog 7 #[.pointer none, .int .i64 l] w fun e w' => ∃ ev, e = .returned ev ∧ ErR w' ev (some ([setN], 7)) ∧ Below w.heap.size w w' := by
  go_enter Tryd.func7, Tryd.ntmps7
  go_wp2_with (first | (go_at_call 11; refine (fault_New.calls _ 7 (some ([setN], 7)) _ rfl).mono ?_; rintro e w2 ⟨ev, rfl, h1, h2⟩; have HE := Lib.hid (And.intro h1 h2); clear h1 h2))
  go_ret
  exact ⟨_, rfl, HE.out.1, HE.out.2⟩
theorem tickNil_calls (w : World) : Calls Tryd.prog 5 #[.pointer none] w fun e w' => e = .returned (.tuple #[.int .i64 0, .bool false]) ∧ w' = w := by
  go_enter Tryd.func5, Tryd.ntmps5
  go_wp2
  go_ret2
  exact ⟨rfl, rfl⟩
theorem levelNil_calls (w : World) : Calls Tryd.prog 8 #[.pointer none] w fun e w' => e = .returned (.int .i64 0) ∧ w' = w := by
  go_enter Tryd.func8, Tryd.ntmps8
  go_wp2
  go_ret
  exact ⟨rfl, rfl⟩
theorem heardNil_calls (w : World) (l : Int) : Calls Tryd.prog 9 #[.pointer none, .int .i64 l] w fun e w' => e = .returned (.bool false) ∧ w' = w := by
  go_enter Tryd.func9, Tryd.ntmps9
  go_wp2
  go_ret
  exact ⟨rfl, rfl⟩
theorem gate_load {P : Program} {ops : Array Oper} {rest : List Oper} {o : Oper} {a : Act} {Q : Exit → Act → World → Prop} {W : World} {t : TypeId} {p : Tmp} (_ho : o.op = .load t (.tmp p)) (h : wpList P ops Q (o :: rest) a W) : wpList P ops Q (o :: rest) a W := h
theorem tells_ok (c : ByteArray) (n : Int) (h : n ≠ 0) : Tells.tells.f (some ([c], n)) n c = some true := by
  unfold Tells.tells.f
  rw [if_neg h]
  simp
set_option maxHeartbeats 1000000 in
set_option maxRecDepth 100000 in
theorem nil_calls (cs : Array Value) (n : Int) (W : World) (hcs : cs.size = 20) (hG : Glob W) : Calls Tryd.prog 3 #[.agg cs, .int .i64 n] W fun e w' => e = .returned (.bool true) ∧ Below W.heap.size W w' := by
  have HB0 : Hid (Below W.heap.size W (W.alloc (.cells cs 26)) ∧ (W.alloc (.cells cs 26)).heap[W.heap.size]? = some (.cells cs 26 (0, 0))) := Lib.hid ⟨(Below.refl _ _).alloc (Nat.le_refl _) _, heap_new _ _⟩
  have HG := Lib.hid hG
  have HS := Lib.hid hcs
  clear hG hcs
  have h70 : (7 : Int) ≠ 0 := by decide
  go_enter Tryd.func3, Tryd.ntmps3
  go_upto_region 4 with (first
    | ((with_reducible refine gate_load (t := 26) (p := 2) rfl ?_); refine wpList_load_row rfl 26 _ rfl W.heap.size rfl 26 _ (0, 0) _ HB0.out.2 Tryd.underlying26 rfl (by rw [HS.out]; exact pk_size) ?_)
    | (go_at_call 4; refine (dataNil_calls _ cs HS.out).mono ?_; rintro e w2 ⟨ev, rfl, h1, h2⟩; unfold dataN at h1; have HE := Lib.hid h1; have HB2 : Hid (Below W.heap.size W w2) := Lib.hid (HB0.out.1.trans (h2.mono (by simp))); clear h1 h2)
    | (go_at_call 5; refine (tickNil_calls _).mono ?_; rintro e w3 ⟨rfl, rfl⟩))
  go_wp2_with (first
    | (go_at_call 6; ((with_reducible refine (Tells.tells.calls ev _ 7 _ true _ HE.out (Glob_below HG.out HB2.out) (tells_ok _ _ h70)).mono ?_); rintro e w4 ⟨rfl, h4⟩; have HB4 : Hid (Below W.heap.size W w4) := Lib.hid (HB2.out.trans (h4.mono HB2.out.size)); clear h4))
    | (go_at_call 7; refine (setNil_calls _ n).mono ?_; rintro e w5 ⟨ev5, rfl, h1, h2⟩; unfold setN at h1; have HE5 := Lib.hid h1; have HB5 : Hid (Below W.heap.size W w5) := Lib.hid (HB4.out.trans (h2.mono HB4.out.size)); clear h1 h2)
    | (go_at_call 6; ((with_reducible refine (Tells.tells.calls ev5 _ 7 _ true _ HE5.out (Glob_below HG.out HB5.out) (tells_ok _ _ h70)).mono ?_); rintro e w6 ⟨rfl, h6⟩; have HB6 : Hid (Below W.heap.size W w6) := Lib.hid (HB5.out.trans (h6.mono HB5.out.size)); clear h6))
    | (go_at_call 8; refine (levelNil_calls _).mono ?_; rintro e w7 ⟨rfl, rfl⟩)
    | (go_at_call 9; refine (heardNil_calls _ n).mono ?_; rintro e w8 ⟨rfl, rfl⟩)
    | (go_at_call 10; refine (awake_calls _).mono ?_; rintro e w9 ⟨rfl, h9⟩; have H9 := Lib.hid h9; clear h9))
  go_ret
  exact ⟨rfl, HB6.out.trans (H9.out.mono HB6.out.size)⟩
theorem pk_open {H : Type} {enc : TypeId × Value → H} {W : World} {base : Nat} {v : Value} {d : DataW H} {ps : List MemPlace} (hv : Value.okWide Tryd.prog W .any base 26 v)
    (h : DataW.Trod enc Tryd.prog W 0 (fun _ => true) true 26 v d ps) : ∃ cs : Array Value, v = .agg cs ∧ cs.size = 20 := by
  obtain ⟨cs, rfl, hsz⟩ := okWide_struct Tryd.underlying26 hv
  exact ⟨cs, rfl, hsz.trans (show Tryd.prog.cellsOf 26 = 20 by kernel_rfl)⟩
end Go.Proofs.YtbjojkocmmcpgaaDoor.Acc
