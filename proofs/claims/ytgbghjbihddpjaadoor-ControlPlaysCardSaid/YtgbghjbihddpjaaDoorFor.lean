/- control.New where it makes a controller, and the law's own begin, BY HAND: a state beside other results. Conditions: none. -/
import Derived.Test.YtgbghjbihddpjaaDoorEr
import Derived.Test.YtgbghjbihddpjaaDoorSt
import Derived.Test.YtgbghjbihddpjaaDoorKit
import Derived.RowKit3
import Derived.Tactics
import Derived.OwnWalk
import Derived.WalkKit
import Derived.Deep.OwnRows
import Derived.Deep.Light
import Derived.KernelRfl
namespace Go.Proofs.YtgbghjbihddpjaaDoor.Er
set_option linter.unusedSimpArgs false
set_option linter.unusedVariables false
open Go.RowKit Go.Proofs.YtgbghjbihddpjaaDoor.Kit Go.Proofs.YtgbghjbihddpjaaDoor.St Go.Proofs.YtgbghjbihddpjaaDoorW.PrintWords Go.Proofs.YtgbghjbihddpjaaDoorW.PrintLast Go.Proofs.YtgbghjbihddpjaaDoorW.PrintMore

def control_New.f (t l : Int) : Option (Int × Int × Int × Int × Bool × Option Er) := if 0 ≤ t ∧ t < 8 ∧ 1 ≤ l ∧ l ≤ 4095 then some (0, t, l, 0, false, none) else none
set_option maxHeartbeats 4000000 in
set_option maxRecDepth 100000 in
theorem control_New.calls (t l : Int) (r1 r2 r3 r4 : Int) (r5 : Bool) (r6 : Option Er) (w0 w : World) (hB : Below w0.heap.size w0 w) (h : control_New.f t l = some (r1, r2, r3, r4, r5, r6)) :
    Calls Tryd.prog 5 #[.int .i64 t, .int .i64 l] w fun e w' => ∃ g_ : Nat, ∃ e1_ : Value, e = .returned (.tuple #[.pointer (some ⟨g_, 0, none⟩), e1_]) ∧ ErR w' e1_ r6 ∧ IsS45 w0 w' g_ r1 r2 r3 r4 r5 ∧ Below w0.heap.size w0 w' ∧ Below w.heap.size w w' := by
  unfold control_New.f at h
  split at h
  · rename_i c
    obtain ⟨c1, c2, c3, c4⟩ := c
    obtain ⟨rfl, rfl, rfl, rfl, rfl, rfl⟩ : 0 = r1 ∧ t = r2 ∧ l = r3 ∧ 0 = r4 ∧ false = r5 ∧ none = r6 := by simpa using h
    have hI := IsS45.new w0 w 0 t l 0 false hB
    have HI := Aside0.mk (And.intro hI (And.intro (below_alloc hB (.cells #[.int .i64 0, .int .i64 t, .int .i64 l, .int .i64 0, .bool false] 45)) ((Below.refl w.heap.size w).alloc (Nat.le_refl _) (.cells #[.int .i64 0, .int .i64 t, .int .i64 l, .int .i64 0, .bool false] 45))))
    have d1 : decide (t < 0) = false := decide_eq_false (by omega)
    have d2 : decide (8 ≤ t) = false := decide_eq_false (by omega)
    have d3 : decide (l < 1) = false := decide_eq_false (by omega)
    have d4 : decide (4095 < l) = false := decide_eq_false (by omega)
    clear h c1 c2 c3 c4 hI
    go_enter Tryd.func5, Tryd.ntmps5
    go_wp2
    go_ret2
    exact ⟨_, _, rfl, rfl, HI.out.1, HI.out.2.1, HI.out.2.2⟩
  · cases h
theorem results_tmp4 {fn : Func} {t u v z : Tmp} (h : fn.results = #[.tmp t, .tmp u, .tmp v, .tmp z]) (tmps : Array Value) (P : Program) (w : World) :
    (results fn tmps).run P w = .ok (.tuple #[tmps.getD t undef, tmps.getD u undef, tmps.getD v undef, tmps.getD z undef]) w := by
  simp [results, h]
end Go.Proofs.YtgbghjbihddpjaaDoor.Er
