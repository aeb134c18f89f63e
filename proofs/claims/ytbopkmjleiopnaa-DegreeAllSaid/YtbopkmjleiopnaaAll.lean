/- degree's functions BY HAND: their tables are arrays. Conditions: none. -/
import Derived.Test.YtbopkmjleiopnaaFor
import Derived.Test.YtbopkmjleiopnaaKit
import Derived.Test.YtbopkmjleiopnaaWWords
import Derived.Test.YtbopkmjleiopnaaWLast
import Derived.Test.YtbopkmjleiopnaaWMore
import Derived.Test.YtbopkmjleiopnaaWRepsOne
import Derived.RowKit3
import Derived.Tactics
import Derived.OwnWalk
import Derived.Laws.MakeOwn
import Derived.Laws.OwnMore
import Derived.Deep.OwnRows
import Derived.Deep.LoopGhost
import Derived.Deep.Light
import Derived.Deep.QuietTactic
import Derived.BigQuiet
import Derived.KernelRfl
import Derived.Lib.Hide
namespace Go.Proofs.Ytbopkmjleiopnaa.Er
set_option linter.unusedSimpArgs false
set_option linter.unusedVariables false
open Go.RowKit Go.Proofs.Ytbopkmjleiopnaa.Kit Go.Proofs.YtbopkmjleiopnaaW.PrintWords Go.Proofs.YtbopkmjleiopnaaW.PrintLast Go.Proofs.YtbopkmjleiopnaaW.PrintMore


theorem All.left (w w1 : World) (hb : Below w.heap.size w w1) (cap : Nat) (h7 : 7 ≤ cap) (hm : cap ≤ maxLen) (x y : Obj) :
    (Kd.int .i64).R 3 ((((w1.alloc x).alloc y).alloc (.cells (#[.int .i64 1, .int .i64 2, .int .i64 3, .int .i64 4, .int .i64 10, .int .i64 11, .int .i64 40] ++ Builtin.zeroCells #[Value.int .i64 0] (cap - 7)) 3)).drew) w.heap.size (fun _ => True) (.slice (some ⟨w1.heap.size + 1 + 1, 0, none⟩) 7 cap) [1, 2, 3, 4, 10, 11, 40] ∧
      Below w.heap.size w ((((w1.alloc x).alloc y).alloc (.cells (#[.int .i64 1, .int .i64 2, .int .i64 3, .int .i64 4, .int .i64 10, .int .i64 11, .int .i64 40] ++ Builtin.zeroCells #[Value.int .i64 0] (cap - 7)) 3)).drew) := by
  have hs := hb.size
  have e1 : (w1.alloc x).heap.size = w1.heap.size + 1 := by simp
  have e2 : ((w1.alloc x).alloc y).heap.size = w1.heap.size + 1 + 1 := by simp
  refine ⟨⟨fun _ _ => trivial, [.int .i64 1, .int .i64 2, .int .i64 3, .int .i64 4, .int .i64 10, .int .i64 11, .int .i64 40], ⟨rfl, .inr ⟨w1.heap.size + 1 + 1, cap, #[.int .i64 1, .int .i64 2, .int .i64 3, .int .i64 4, .int .i64 10, .int .i64 11, .int .i64 40] ++ Builtin.zeroCells #[Value.int .i64 0] (cap - 7), rfl, by omega, ?_, h7, hm, ?_, ?_⟩⟩, Reps.one (show Kd.M (Kd.int .i64) _ _ _ 1 [.int .i64 1] from rfl) (Reps.one (show Kd.M (Kd.int .i64) _ _ _ 2 [.int .i64 2] from rfl) (Reps.one (show Kd.M (Kd.int .i64) _ _ _ 3 [.int .i64 3] from rfl) (Reps.one (show Kd.M (Kd.int .i64) _ _ _ 4 [.int .i64 4] from rfl) (Reps.one (show Kd.M (Kd.int .i64) _ _ _ 10 [.int .i64 10] from rfl) (Reps.one (show Kd.M (Kd.int .i64) _ _ _ 11 [.int .i64 11] from rfl) (Reps.one (show Kd.M (Kd.int .i64) _ _ _ 40 [.int .i64 40] from rfl) (Reps.none _ _)))))))⟩, ?_⟩
  · rw [← e2]
    exact heap_new _ _
  · rw [Array.size_append, size_zeroCells]
    show 7 + (cap - 7) * 1 = cap * 1
    omega
  · rw [Array.toList_append]
    rfl
  · exact (((hb.alloc (by omega) x).alloc (by omega) y).alloc (by omega) _).drew
theorem degrees.calls' (w : World) : Calls Try.prog 14 #[] w fun e w' => e = .returned (.agg #[.int .i64 1, .int .i64 2, .int .i64 3, .int .i64 4, .int .i64 10, .int .i64 11, .int .i64 40]) ∧ Below w.heap.size w w' := degrees.calls w
def All.f : Option (List Int) := some [1, 2, 3, 4, 10, 11, 40]
set_option maxHeartbeats 8000000 in
set_option maxRecDepth 100000 in
theorem All.calls (r : List Int) (w : World) (h : All.f = some r) :
    Calls Try.prog 9 #[] w fun e w' => ∃ v0_ : Value, e = .returned v0_ ∧ Kd.R (Kd.int .i64) 3 w' w.heap.size (fun _ => True) v0_ r ∧ Below w.heap.size w w' := by
  obtain rfl := Option.some.inj h
  clear h
  have HB := Aside0.mk (Below.refl w.heap.size w)
  go_enter Try.func9, Try.ntmps9
  go_wp2_with (first | ((with_reducible refine gate_callee (f := 14) rfl ?_); refine goesL_ (some 2) rfl rfl Try.func14 (by kernel_rfl) rfl #[] rfl (by (try simp only [List.map_toArray, List.map_cons, List.map_nil]); first | done | rfl) ?_; (with_reducible refine (degrees.calls' _).mono ?_); rintro e w1 ⟨rfl, hb⟩; refine ⟨_, rfl, ?_⟩; have n_ := Aside0.mk (below_step (by repeat (first | (with_reducible first | exact HB.out | apply below_drew1 | apply pw_below_drewN) | exact HB.out)) hb); clear HB hb; have HB := n_; clear n_))
  have h1 := grownCap_ge w1 7 0 3
  have h2 := grownCap_le_maxLen w1 7 0 3 (by decide)
  obtain ⟨h3, h4⟩ := All.left w w1 HB.out _ h1 h2 (.cells #[.int .i64 1, .int .i64 2, .int .i64 3, .int .i64 4, .int .i64 10, .int .i64 11, .int .i64 40] 35) (.cells #[] 3)
  have H3 := Lib.hid h3
  have H4 := Lib.hid h4
  clear h1 h2 h3 h4
  go_ret
  exact ⟨_, rfl, H3.out, H4.out⟩
end Go.Proofs.Ytbopkmjleiopnaa.Er
