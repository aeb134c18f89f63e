/- The calls of a nil net, by their contracts. Conditions: none. -/
import Derived.Test.YtpfpdbbgiimnmaaDoorAwake
namespace Go.Proofs.YtpfpdbbgiimnmaaDoor.Net
set_option linter.unusedSimpArgs false
set_option linter.unusedVariables false
open Go.RowKit Go.Deep Go.Proofs.YtpfpdbbgiimnmaaDoor.Er Go.Proofs.YtpfpdbbgiimnmaaDoor.Mod Go.Proofs.YtpfpdbbgiimnmaaDoorW.PrintWords
theorem place_nil (w : World) (i j : Int) : Calls Tryd.prog 32 #[.pointer none, .int .i64 i, .int .i64 j] w fun e w' => e = .returned (.tuple #[.pointer none, .int .i64 7]) ∧ w' = w := by
  go_enter Tryd.func32, Tryd.ntmps32
  go_wp2_with (first | (go_at_call 30; refine (at_nil _ _).mono ?_; rintro e w1 ⟨rfl, rfl⟩))
  go_ret2
  exact ⟨rfl, rfl⟩
theorem join_nil (w : World) (i : Int) : Calls Tryd.prog 16 #[.pointer none, .int .i64 i] w fun e w' => ∃ ev, e = .returned ev ∧ ErR w' ev (some ([joinN], 7)) ∧ Below w.heap.size w w' := by
  go_enter Tryd.func16, Tryd.ntmps16
  go_wp2_with (first | (go_at_call 30; refine (at_nil _ _).mono ?_; rintro e w1 ⟨rfl, rfl⟩) | (go_at_call 31; refine (fault_New.calls _ 7 _ _ rfl).mono ?_; rintro e w2 ⟨ev, rfl, h1, h2⟩; have HE := Lib.hid (And.intro h1 h2); clear h1 h2))
  go_ret
  exact ⟨_, rfl, HE.out.1, HE.out.2⟩
theorem leave_nil (w : World) (i : Int) : Calls Tryd.prog 17 #[.pointer none, .int .i64 i] w fun e w' => ∃ ev, e = .returned ev ∧ ErR w' ev (some ([leaveN], 7)) ∧ Below w.heap.size w w' := by
  go_enter Tryd.func17, Tryd.ntmps17
  go_wp2_with (first | (go_at_call 30; refine (at_nil _ _).mono ?_; rintro e w1 ⟨rfl, rfl⟩) | (go_at_call 31; refine (fault_New.calls _ 7 _ _ rfl).mono ?_; rintro e w2 ⟨ev, rfl, h1, h2⟩; have HE := Lib.hid (And.intro h1 h2); clear h1 h2))
  go_ret
  exact ⟨_, rfl, HE.out.1, HE.out.2⟩
theorem want_nil (w : World) (i l : Int) : Calls Tryd.prog 18 #[.pointer none, .int .i64 i, .int .i64 l] w fun e w' => ∃ ev, e = .returned ev ∧ ErR w' ev (some ([wantN], 7)) ∧ Below w.heap.size w w' := by
  go_enter Tryd.func18, Tryd.ntmps18
  go_wp2_with (first | (go_at_call 30; refine (at_nil _ _).mono ?_; rintro e w1 ⟨rfl, rfl⟩) | (go_at_call 31; refine (fault_New.calls _ 7 _ _ rfl).mono ?_; rintro e w2 ⟨ev, rfl, h1, h2⟩; have HE := Lib.hid (And.intro h1 h2); clear h1 h2))
  go_ret
  exact ⟨_, rfl, HE.out.1, HE.out.2⟩
theorem graft_nil (w : World) (i l : Int) : Calls Tryd.prog 19 #[.pointer none, .int .i64 i, .int .i64 l] w fun e w' => ∃ ev, e = .returned ev ∧ ErR w' ev (some ([graftN], 7)) ∧ Below w.heap.size w w' := by
  go_enter Tryd.func19, Tryd.ntmps19
  go_wp2_with (first | (go_at_call 30; refine (at_nil _ _).mono ?_; rintro e w1 ⟨rfl, rfl⟩) | (go_at_call 31; refine (fault_New.calls _ 7 _ _ rfl).mono ?_; rintro e w2 ⟨ev, rfl, h1, h2⟩; have HE := Lib.hid (And.intro h1 h2); clear h1 h2))
  go_ret
  exact ⟨_, rfl, HE.out.1, HE.out.2⟩
theorem capacity_nil (w : World) (i l : Int) : Calls Tryd.prog 20 #[.pointer none, .int .i64 i, .int .i64 l] w fun e w' => ∃ ev, e = .returned ev ∧ ErR w' ev (some ([capacityN], 7)) ∧ Below w.heap.size w w' := by
  go_enter Tryd.func20, Tryd.ntmps20
  go_wp2_with (first | (go_at_call 30; refine (at_nil _ _).mono ?_; rintro e w1 ⟨rfl, rfl⟩) | (go_at_call 31; refine (fault_New.calls _ 7 _ _ rfl).mono ?_; rintro e w2 ⟨ev, rfl, h1, h2⟩; have HE := Lib.hid (And.intro h1 h2); clear h1 h2))
  go_ret
  exact ⟨_, rfl, HE.out.1, HE.out.2⟩
theorem send_nil (w : World) (v : Value) : Calls Tryd.prog 21 #[.pointer none, v] w fun e w' => ∃ ev, e = .returned ev ∧ ErR w' ev (some ([sendN], 7)) ∧ Below w.heap.size w w' := by
  go_enter Tryd.func21, Tryd.ntmps21
  go_wp2_with (first | (go_at_call 31; refine (fault_New.calls _ 7 _ _ rfl).mono ?_; rintro e w2 ⟨ev, rfl, h1, h2⟩; have HE := Lib.hid (And.intro h1 h2); clear h1 h2))
  go_ret
  exact ⟨_, rfl, HE.out.1, HE.out.2⟩
theorem tick_nil (w : World)  : Calls Tryd.prog 22 #[.pointer none] w fun e w' => ∃ ev, e = .returned ev ∧ ErR w' ev (some ([tickN], 7)) ∧ Below w.heap.size w w' := by
  go_enter Tryd.func22, Tryd.ntmps22
  go_wp2_with (first | (go_at_call 31; refine (fault_New.calls _ 7 _ _ rfl).mono ?_; rintro e w2 ⟨ev, rfl, h1, h2⟩; have HE := Lib.hid (And.intro h1 h2); clear h1 h2))
  go_ret
  exact ⟨_, rfl, HE.out.1, HE.out.2⟩
theorem drop_nil (w : World) (i l : Int) : Calls Tryd.prog 24 #[.pointer none, .int .i64 i, .int .i64 l] w fun e w' => ∃ ev, e = .returned ev ∧ ErR w' ev (some ([dropN], 7)) ∧ Below w.heap.size w w' := by
  go_enter Tryd.func24, Tryd.ntmps24
  go_wp2_with (first | (go_at_call 32; refine (place_nil _ _ _).mono ?_; rintro e w1 ⟨rfl, rfl⟩) | (go_at_call 31; refine (fault_New.calls _ 7 _ _ rfl).mono ?_; rintro e w2 ⟨ev, rfl, h1, h2⟩; have HE := Lib.hid (And.intro h1 h2); clear h1 h2))
  go_ret
  exact ⟨_, rfl, HE.out.1, HE.out.2⟩
theorem double_nil (w : World) (i l : Int) : Calls Tryd.prog 9 #[.pointer none, .int .i64 i, .int .i64 l] w fun e w' => ∃ ev, e = .returned ev ∧ ErR w' ev (some ([doubleN], 7)) ∧ Below w.heap.size w w' := by
  go_enter Tryd.func9, Tryd.ntmps9
  go_wp2_with (first | (go_at_call 32; refine (place_nil _ _ _).mono ?_; rintro e w1 ⟨rfl, rfl⟩) | (go_at_call 31; refine (fault_New.calls _ 7 _ _ rfl).mono ?_; rintro e w2 ⟨ev, rfl, h1, h2⟩; have HE := Lib.hid (And.intro h1 h2); clear h1 h2))
  go_ret
  exact ⟨_, rfl, HE.out.1, HE.out.2⟩
theorem delay_nil (w : World) (i l m : Int) : Calls Tryd.prog 25 #[.pointer none, .int .i64 i, .int .i64 l, .int .i64 m] w fun e w' => ∃ ev, e = .returned ev ∧ ErR w' ev (some ([delayN], 7)) ∧ Below w.heap.size w w' := by
  go_enter Tryd.func25, Tryd.ntmps25
  go_wp2_with (first | (go_at_call 32; refine (place_nil _ _ _).mono ?_; rintro e w1 ⟨rfl, rfl⟩) | (go_at_call 31; refine (fault_New.calls _ 7 _ _ rfl).mono ?_; rintro e w2 ⟨ev, rfl, h1, h2⟩; have HE := Lib.hid (And.intro h1 h2); clear h1 h2))
  go_ret
  exact ⟨_, rfl, HE.out.1, HE.out.2⟩
theorem spoil_nil (w : World) (i l m k : Int) : Calls Tryd.prog 10 #[.pointer none, .int .i64 i, .int .i64 l, .int .i64 m, .int .u32 k] w fun e w' => ∃ ev, e = .returned ev ∧ ErR w' ev (some ([spoilN], 7)) ∧ Below w.heap.size w w' := by
  go_enter Tryd.func10, Tryd.ntmps10
  go_wp2_with (first | (go_at_call 32; refine (place_nil _ _ _).mono ?_; rintro e w1 ⟨rfl, rfl⟩) | (go_at_call 31; refine (fault_New.calls _ 7 _ _ rfl).mono ?_; rintro e w2 ⟨ev, rfl, h1, h2⟩; have HE := Lib.hid (And.intro h1 h2); clear h1 h2))
  go_ret
  exact ⟨_, rfl, HE.out.1, HE.out.2⟩
theorem inject_nil (w : World) (i : Int) (v : Value) : Calls Tryd.prog 8 #[.pointer none, .int .i64 i, v] w fun e w' => ∃ ev, e = .returned ev ∧ ErR w' ev (some ([injectN], 7)) ∧ Below w.heap.size w w' := by
  go_enter Tryd.func8, Tryd.ntmps8
  go_wp2_with (first | (go_at_call 30; refine (at_nil _ _).mono ?_; rintro e w1 ⟨rfl, rfl⟩) | (go_at_call 31; refine (fault_New.calls _ 7 _ _ rfl).mono ?_; rintro e w2 ⟨ev, rfl, h1, h2⟩; have HE := Lib.hid (And.intro h1 h2); clear h1 h2))
  go_ret
  exact ⟨_, rfl, HE.out.1, HE.out.2⟩
theorem take_nil (w : World) (i : Int) : Calls Tryd.prog 23 #[.pointer none, .int .i64 i] w fun e w' => e = .returned (.slice none 0 0) ∧ w' = w := by
  go_enter Tryd.func23, Tryd.ntmps23
  go_wp2_with (first | (go_at_call 30; refine (at_nil _ _).mono ?_; rintro e w1 ⟨rfl, rfl⟩))
  go_ret
  exact ⟨rfl, rfl⟩
theorem queue_nil (w : World) (i : Int) : Calls Tryd.prog 26 #[.pointer none, .int .i64 i] w fun e w' => e = .returned (.slice none 0 0) ∧ w' = w := by
  go_enter Tryd.func26, Tryd.ntmps26
  go_wp2_with (first | (go_at_call 30; refine (at_nil _ _).mono ?_; rintro e w1 ⟨rfl, rfl⟩))
  go_ret
  exact ⟨rfl, rfl⟩
theorem level_nil (w : World) (i : Int) : Calls Tryd.prog 27 #[.pointer none, .int .i64 i] w fun e w' => e = .returned (.int .i64 (-1)) ∧ w' = w := by
  go_enter Tryd.func27, Tryd.ntmps27
  go_wp2_with (first | (go_at_call 30; refine (at_nil _ _).mono ?_; rintro e w1 ⟨rfl, rfl⟩))
  go_ret
  exact ⟨rfl, rfl⟩
theorem now_nil (w : World) : Calls Tryd.prog 28 #[.pointer none] w fun e w' => e = .returned (.int .i64 0) ∧ w' = w := by
  go_enter Tryd.func28, Tryd.ntmps28
  go_wp2
  go_ret
  exact ⟨rfl, rfl⟩
end Go.Proofs.YtpfpdbbgiimnmaaDoor.Net
