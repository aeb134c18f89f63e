/- geyserlaw22.MnetNil: it answers true. Conditions: errors.errorType holds the handle of the type error. -/
import Derived.Test.YtpfpdbbgiimnmaaDoorNilN
import Derived.Test.YtpfpdbbgiimnmaaDoorTells22
import Derived.ProofKit
namespace Go.Proofs.YtpfpdbbgiimnmaaDoor.Net
set_option linter.unusedSimpArgs false
set_option linter.unusedVariables false
open Go.RowKit Go.Deep Go.WideShapes Go.Proofs.YtpfpdbbgiimnmaaDoor.Er Go.Proofs.YtpfpdbbgiimnmaaDoor.As Go.Proofs.YtpfpdbbgiimnmaaDoor.Mod Go.Proofs.YtpfpdbbgiimnmaaDoorW.PrintWords
theorem tells_ok (c : ByteArray) (n : Int) (h : n ≠ 0) : Tells.tells.f (some ([c], n)) n c = some true := by
  unfold Tells.tells.f
  rw [if_neg h]
  simp
def actCs (a h n m k : Int) (bv lv : Value) : Array Value := #[.int .i64 a, .int .i64 h, .int .i64 n, .int .i64 m, .int .u32 k, bv, lv]
def AB (W w : World) (cs : Array Value) : Prop := Below W.heap.size W w ∧ w.heap[W.heap.size]? = some (.cells cs 49 (0, 0))
theorem AB.start (W : World) (cs : Array Value) : AB W (W.alloc (.cells cs 49)) cs := ⟨(Below.refl _ _).alloc (Nat.le_refl _) _, heap_new _ _⟩
theorem AB.bel {W w : World} {cs : Array Value} (h : AB W w cs) : Below W.heap.size W w := h.1
theorem AB.step {W w w' : World} {cs : Array Value} (h : AB W w cs) (hb : Below w.heap.size w w') : AB W w' cs := ⟨h.1.trans (hb.mono h.1.size), (hb.block _ (lt_of h.2)).trans h.2⟩
theorem AB.cells {W w : World} {a x n m k : Int} {bv lv : Value} (h : AB W w (actCs a x n m k bv lv)) : w.cell? ⟨W.heap.size, 1, none⟩ = some (.int .i64 x) ∧ w.cell? ⟨W.heap.size, 2, none⟩ = some (.int .i64 n) ∧ w.cell? ⟨W.heap.size, 3, none⟩ = some (.int .i64 m) ∧ w.cell? ⟨W.heap.size, 4, none⟩ = some (.int .u32 k) ∧ w.cell? ⟨W.heap.size, 5, none⟩ = some bv ∧ w.cell? ⟨W.heap.size, 6, none⟩ = some lv := by
  simp [World.cell?, h.2, actCs]
set_option maxHeartbeats 8000000 in
set_option maxRecDepth 100000 in
theorem nil_calls (a h n m k : Int) (b1 : Option Addr) (b2 b3 : Nat) (l1 : Option Addr) (l2 l3 : Nat) (W : World) (hG : Glob W) : Calls Tryd.prog 5 #[.agg (actCs a h n m k (.slice b1 b2 b3) (.slice l1 l2 l3))] W fun e w' => e = .returned (.bool true) ∧ Below W.heap.size W w' := by
  have HG := Lib.hid hG
  have HB0 := Lib.hid (AB.start W (actCs a h n m k (.slice b1 b2 b3) (.slice l1 l2 l3)))
  have h70 : (7 : Int) ≠ 0 := by decide
  obtain ⟨c1, c2, c3, c4, c5, c6⟩ := HB0.out.cells
  clear hG
  unfold actCs at c1 c2 c3 c4 c5 c6 ⊢
  go_enter Tryd.func5, Tryd.ntmps5
  go_upto_region 3 with (fail)
  generalize hw0 : W.alloc (.cells #[.int .i64 a, .int .i64 h, .int .i64 n, .int .i64 m, .int .u32 k, .slice b1 b2 b3, .slice l1 l2 l3] 49) = v0
  have HA0 : Hid (AB W v0 (actCs a h n m k (.slice b1 b2 b3) (.slice l1 l2 l3))) := Lib.hid (by rw [← hw0]; exact HB0.out)
  clear hw0 HB0 c1 c2 c3 c4 c5 c6
  obtain ⟨c1, c2, c3, c4, c5, c6⟩ := HA0.out.cells
  go_wp2_with (first
    | (go_at_call 16; refine (join_nil _ h).mono ?_; rintro e v1 ⟨ev1, rfl, h1, h2⟩; unfold joinN at h1; have HE1 := Lib.hid h1; have HA1 := Lib.hid (HA0.out.step h2); clear h1 h2; clear c1 c2 c3 c4 c5 c6; obtain ⟨c1, c2, c3, c4, c5, c6⟩ := HA1.out.cells)
    | (go_at_call 11; ((with_reducible refine (Tells.tells.calls ev1 _ 7 _ true _ HE1.out (Glob_below HG.out HA1.out.bel) (tells_ok _ _ h70)).mono ?_); rintro e v2 ⟨rfl, h4⟩; have HA2 := Lib.hid (HA1.out.step h4); clear h4; clear c1 c2 c3 c4 c5 c6; obtain ⟨c1, c2, c3, c4, c5, c6⟩ := HA2.out.cells))
    | (go_at_call 17; refine (leave_nil _ h).mono ?_; rintro e v3 ⟨ev3, rfl, h1, h2⟩; unfold leaveN at h1; have HE3 := Lib.hid h1; have HA3 := Lib.hid (HA2.out.step h2); clear h1 h2; clear c1 c2 c3 c4 c5 c6; obtain ⟨c1, c2, c3, c4, c5, c6⟩ := HA3.out.cells)
    | (go_at_call 11; ((with_reducible refine (Tells.tells.calls ev3 _ 7 _ true _ HE3.out (Glob_below HG.out HA3.out.bel) (tells_ok _ _ h70)).mono ?_); rintro e v4 ⟨rfl, h4⟩; have HA4 := Lib.hid (HA3.out.step h4); clear h4; clear c1 c2 c3 c4 c5 c6; obtain ⟨c1, c2, c3, c4, c5, c6⟩ := HA4.out.cells))
    | (go_at_call 18; refine (want_nil _ h n).mono ?_; rintro e v5 ⟨ev5, rfl, h1, h2⟩; unfold wantN at h1; have HE5 := Lib.hid h1; have HA5 := Lib.hid (HA4.out.step h2); clear h1 h2; clear c1 c2 c3 c4 c5 c6; obtain ⟨c1, c2, c3, c4, c5, c6⟩ := HA5.out.cells)
    | (go_at_call 11; ((with_reducible refine (Tells.tells.calls ev5 _ 7 _ true _ HE5.out (Glob_below HG.out HA5.out.bel) (tells_ok _ _ h70)).mono ?_); rintro e v6 ⟨rfl, h4⟩; have HA6 := Lib.hid (HA5.out.step h4); clear h4; clear c1 c2 c3 c4 c5 c6; obtain ⟨c1, c2, c3, c4, c5, c6⟩ := HA6.out.cells))
    | (go_at_call 19; refine (graft_nil _ h n).mono ?_; rintro e v7 ⟨ev7, rfl, h1, h2⟩; unfold graftN at h1; have HE7 := Lib.hid h1; have HA7 := Lib.hid (HA6.out.step h2); clear h1 h2; clear c1 c2 c3 c4 c5 c6; obtain ⟨c1, c2, c3, c4, c5, c6⟩ := HA7.out.cells)
    | (go_at_call 11; ((with_reducible refine (Tells.tells.calls ev7 _ 7 _ true _ HE7.out (Glob_below HG.out HA7.out.bel) (tells_ok _ _ h70)).mono ?_); rintro e v8 ⟨rfl, h4⟩; have HA8 := Lib.hid (HA7.out.step h4); clear h4; clear c1 c2 c3 c4 c5 c6; obtain ⟨c1, c2, c3, c4, c5, c6⟩ := HA8.out.cells))
    | (go_at_call 20; refine (capacity_nil _ h n).mono ?_; rintro e v9 ⟨ev9, rfl, h1, h2⟩; unfold capacityN at h1; have HE9 := Lib.hid h1; have HA9 := Lib.hid (HA8.out.step h2); clear h1 h2; clear c1 c2 c3 c4 c5 c6; obtain ⟨c1, c2, c3, c4, c5, c6⟩ := HA9.out.cells)
    | (go_at_call 11; ((with_reducible refine (Tells.tells.calls ev9 _ 7 _ true _ HE9.out (Glob_below HG.out HA9.out.bel) (tells_ok _ _ h70)).mono ?_); rintro e v10 ⟨rfl, h4⟩; have HA10 := Lib.hid (HA9.out.step h4); clear h4; clear c1 c2 c3 c4 c5 c6; obtain ⟨c1, c2, c3, c4, c5, c6⟩ := HA10.out.cells))
    | (go_at_call 21; refine (send_nil _ _).mono ?_; rintro e v11 ⟨ev11, rfl, h1, h2⟩; unfold sendN at h1; have HE11 := Lib.hid h1; have HA11 := Lib.hid (HA10.out.step h2); clear h1 h2; clear c1 c2 c3 c4 c5 c6; obtain ⟨c1, c2, c3, c4, c5, c6⟩ := HA11.out.cells)
    | (go_at_call 11; ((with_reducible refine (Tells.tells.calls ev11 _ 7 _ true _ HE11.out (Glob_below HG.out HA11.out.bel) (tells_ok _ _ h70)).mono ?_); rintro e v12 ⟨rfl, h4⟩; have HA12 := Lib.hid (HA11.out.step h4); clear h4; clear c1 c2 c3 c4 c5 c6; obtain ⟨c1, c2, c3, c4, c5, c6⟩ := HA12.out.cells))
    | (go_at_call 22; refine (tick_nil _).mono ?_; rintro e v13 ⟨ev13, rfl, h1, h2⟩; unfold tickN at h1; have HE13 := Lib.hid h1; have HA13 := Lib.hid (HA12.out.step h2); clear h1 h2; clear c1 c2 c3 c4 c5 c6; obtain ⟨c1, c2, c3, c4, c5, c6⟩ := HA13.out.cells)
    | (go_at_call 11; ((with_reducible refine (Tells.tells.calls ev13 _ 7 _ true _ HE13.out (Glob_below HG.out HA13.out.bel) (tells_ok _ _ h70)).mono ?_); rintro e v14 ⟨rfl, h4⟩; have HA14 := Lib.hid (HA13.out.step h4); clear h4; clear c1 c2 c3 c4 c5 c6; obtain ⟨c1, c2, c3, c4, c5, c6⟩ := HA14.out.cells))
    | (go_at_call 24; refine (drop_nil _ h n).mono ?_; rintro e v15 ⟨ev15, rfl, h1, h2⟩; unfold dropN at h1; have HE15 := Lib.hid h1; have HA15 := Lib.hid (HA14.out.step h2); clear h1 h2; clear c1 c2 c3 c4 c5 c6; obtain ⟨c1, c2, c3, c4, c5, c6⟩ := HA15.out.cells)
    | (go_at_call 11; ((with_reducible refine (Tells.tells.calls ev15 _ 7 _ true _ HE15.out (Glob_below HG.out HA15.out.bel) (tells_ok _ _ h70)).mono ?_); rintro e v16 ⟨rfl, h4⟩; have HA16 := Lib.hid (HA15.out.step h4); clear h4; clear c1 c2 c3 c4 c5 c6; obtain ⟨c1, c2, c3, c4, c5, c6⟩ := HA16.out.cells))
    | (go_at_call 9; refine (double_nil _ h n).mono ?_; rintro e v17 ⟨ev17, rfl, h1, h2⟩; unfold doubleN at h1; have HE17 := Lib.hid h1; have HA17 := Lib.hid (HA16.out.step h2); clear h1 h2; clear c1 c2 c3 c4 c5 c6; obtain ⟨c1, c2, c3, c4, c5, c6⟩ := HA17.out.cells)
    | (go_at_call 11; ((with_reducible refine (Tells.tells.calls ev17 _ 7 _ true _ HE17.out (Glob_below HG.out HA17.out.bel) (tells_ok _ _ h70)).mono ?_); rintro e v18 ⟨rfl, h4⟩; have HA18 := Lib.hid (HA17.out.step h4); clear h4; clear c1 c2 c3 c4 c5 c6; obtain ⟨c1, c2, c3, c4, c5, c6⟩ := HA18.out.cells))
    | (go_at_call 25; refine (delay_nil _ h n m).mono ?_; rintro e v19 ⟨ev19, rfl, h1, h2⟩; unfold delayN at h1; have HE19 := Lib.hid h1; have HA19 := Lib.hid (HA18.out.step h2); clear h1 h2; clear c1 c2 c3 c4 c5 c6; obtain ⟨c1, c2, c3, c4, c5, c6⟩ := HA19.out.cells)
    | (go_at_call 11; ((with_reducible refine (Tells.tells.calls ev19 _ 7 _ true _ HE19.out (Glob_below HG.out HA19.out.bel) (tells_ok _ _ h70)).mono ?_); rintro e v20 ⟨rfl, h4⟩; have HA20 := Lib.hid (HA19.out.step h4); clear h4; clear c1 c2 c3 c4 c5 c6; obtain ⟨c1, c2, c3, c4, c5, c6⟩ := HA20.out.cells))
    | (go_at_call 10; refine (spoil_nil _ h n m k).mono ?_; rintro e v21 ⟨ev21, rfl, h1, h2⟩; unfold spoilN at h1; have HE21 := Lib.hid h1; have HA21 := Lib.hid (HA20.out.step h2); clear h1 h2; clear c1 c2 c3 c4 c5 c6; obtain ⟨c1, c2, c3, c4, c5, c6⟩ := HA21.out.cells)
    | (go_at_call 11; ((with_reducible refine (Tells.tells.calls ev21 _ 7 _ true _ HE21.out (Glob_below HG.out HA21.out.bel) (tells_ok _ _ h70)).mono ?_); rintro e v22 ⟨rfl, h4⟩; have HA22 := Lib.hid (HA21.out.step h4); clear h4; clear c1 c2 c3 c4 c5 c6; obtain ⟨c1, c2, c3, c4, c5, c6⟩ := HA22.out.cells))
    | (go_at_call 8; refine (inject_nil _ h _).mono ?_; rintro e v23 ⟨ev23, rfl, h1, h2⟩; unfold injectN at h1; have HE23 := Lib.hid h1; have HA23 := Lib.hid (HA22.out.step h2); clear h1 h2; clear c1 c2 c3 c4 c5 c6; obtain ⟨c1, c2, c3, c4, c5, c6⟩ := HA23.out.cells)
    | (go_at_call 11; ((with_reducible refine (Tells.tells.calls ev23 _ 7 _ true _ HE23.out (Glob_below HG.out HA23.out.bel) (tells_ok _ _ h70)).mono ?_); rintro e v24 ⟨rfl, h4⟩; have HA24 := Lib.hid (HA23.out.step h4); clear h4; clear c1 c2 c3 c4 c5 c6; obtain ⟨c1, c2, c3, c4, c5, c6⟩ := HA24.out.cells))
    | (go_at_call 23; refine (take_nil _ h).mono ?_; rintro e w7 ⟨rfl, rfl⟩)
    | (go_at_call 26; refine (queue_nil _ h).mono ?_; rintro e w7 ⟨rfl, rfl⟩)
    | (go_at_call 27; refine (level_nil _ h).mono ?_; rintro e w7 ⟨rfl, rfl⟩)
    | (go_at_call 28; refine (now_nil _).mono ?_; rintro e w7 ⟨rfl, rfl⟩)
    | (go_at_call 7; refine (awake_calls _).mono ?_; rintro e w9 ⟨rfl, h9⟩; have H9 := Lib.hid h9; clear h9))
  go_ret
  exact ⟨rfl, HA24.out.1.trans (H9.out.mono HA24.out.1.size)⟩
end Go.Proofs.YtpfpdbbgiimnmaaDoor.Net
