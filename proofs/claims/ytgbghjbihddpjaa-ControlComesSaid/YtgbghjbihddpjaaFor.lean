/- control.New where it makes a controller, and the law's own begin, BY HAND: a state beside other results. Conditions: none. -/
import Derived.Test.YtgbghjbihddpjaaEr
import Derived.Test.YtgbghjbihddpjaaSt
import Derived.Test.YtgbghjbihddpjaaKit
import Derived.RowKit3
import Derived.Tactics
import Derived.OwnWalk
import Derived.WalkKit
import Derived.Deep.OwnRows
import Derived.Deep.Light
import Derived.KernelRfl
namespace Go.Proofs.Ytgbghjbihddpjaa.Er
set_option linter.unusedSimpArgs false
set_option linter.unusedVariables false
open Go.RowKit Go.Proofs.Ytgbghjbihddpjaa.Kit Go.Proofs.Ytgbghjbihddpjaa.St Go.Proofs.YtgbghjbihddpjaaW.PrintWords Go.Proofs.YtgbghjbihddpjaaW.PrintLast Go.Proofs.YtgbghjbihddpjaaW.PrintMore

def control_New.f (t l : Int) : Option (Int × Int × Int × Int × Bool × Option Er) := if 0 ≤ t ∧ t < 8 ∧ 1 ≤ l ∧ l ≤ 4095 then some (0, t, l, 0, false, none) else none
set_option maxHeartbeats 4000000 in
set_option maxRecDepth 100000 in
theorem control_New.calls (t l : Int) (r1 r2 r3 r4 : Int) (r5 : Bool) (r6 : Option Er) (w0 w : World) (hB : Below w0.heap.size w0 w) (h : control_New.f t l = some (r1, r2, r3, r4, r5, r6)) :
    Calls Try.prog 13 #[.int .i64 t, .int .i64 l] w fun e w' => ∃ g_ : Nat, ∃ e1_ : Value, e = .returned (.tuple #[.pointer (some ⟨g_, 0, none⟩), e1_]) ∧ ErR w' e1_ r6 ∧ IsS45 w0 w' g_ r1 r2 r3 r4 r5 ∧ Below w0.heap.size w0 w' ∧ Below w.heap.size w w' := by
  unfold control_New.f at h
  split at h
  · rename_i c
    obtain ⟨c1, c2, c3, c4⟩ := c
    obtain ⟨rfl, rfl, rfl, rfl, rfl, rfl⟩ : 0 = r1 ∧ t = r2 ∧ l = r3 ∧ 0 = r4 ∧ false = r5 ∧ none = r6 := by simpa using h
    have hI := IsS45.new w0 w 0 t l 0 false hB
    have HI := Aside0.mk (And.intro hI (And.intro (below_alloc hB (.cells #[.int .i64 0, .int .i64 t, .int .i64 l, .int .i64 0, .bool false] 45)) ((Below.refl w.heap.size w).alloc (Nat.le_refl _) (.cells #[.int .i64 0, .int .i64 t, .int .i64 l, .int .i64 0, .bool false] 45))))
    have d1 : decide (t < 0) = false := decide_eq_false (by omega)
    have d2 : decide (8 ≤ t) = false := decide_eq_false (by omega)
    have d3 : decide (l < 1) = false := decide_eq_false (by omega)
    have d4 : decide (4095 < l) = false := decide_eq_false (by omega)
    clear h c1 c2 c3 c4 hI
    go_enter Try.func13, Try.ntmps13
    go_wp2
    go_ret2
    exact ⟨_, _, rfl, rfl, HI.out.1, HI.out.2.1, HI.out.2.2⟩
  · cases h
theorem results_tmp4 {fn : Func} {t u v z : Tmp} (h : fn.results = #[.tmp t, .tmp u, .tmp v, .tmp z]) (tmps : Array Value) (P : Program) (w : World) :
    (results fn tmps).run P w = .ok (.tuple #[tmps.getD t undef, tmps.getD u undef, tmps.getD v undef, tmps.getD z undef]) w := by
  simp [results, h]
def geyserlaw21_begin.f (a b : Int) : Option (Int × Int × Int × Int × Bool × Int × Int × Bool) :=
  some (0, wrap64 (Int.tmod (IntKind.u64.wrap a) 8), wrap64 (1 + wrap64 (Int.tmod (IntKind.u64.wrap b) 5)), 0, false, wrap64 (Int.tmod (IntKind.u64.wrap a) 8), wrap64 (1 + wrap64 (Int.tmod (IntKind.u64.wrap b) 5)), true)
set_option maxHeartbeats 4000000 in
set_option maxRecDepth 100000 in
theorem geyserlaw21_begin.calls (a b : Int) (r1 r2 r3 r4 : Int) (r5 : Bool) (r6 r7 : Int) (r8 : Bool) (w0 w : World) (hB : Below w0.heap.size w0 w) (h : geyserlaw21_begin.f a b = some (r1, r2, r3, r4, r5, r6, r7, r8)) :
    Calls Try.prog 7 #[.int .i64 a, .int .i64 b] w fun e w' => ∃ g_ : Nat, e = .returned (.tuple #[.pointer (some ⟨g_, 0, none⟩), .int .i64 r6, .int .i64 r7, .bool r8]) ∧ IsS45 w0 w' g_ r1 r2 r3 r4 r5 ∧ Below w0.heap.size w0 w' ∧ Below w.heap.size w w' := by
  unfold geyserlaw21_begin.f at h
  have hN : control_New.f (wrap64 (Int.tmod (IntKind.u64.wrap a) 8)) (wrap64 (1 + wrap64 (Int.tmod (IntKind.u64.wrap b) 5))) = some (0, wrap64 (Int.tmod (IntKind.u64.wrap a) 8), wrap64 (1 + wrap64 (Int.tmod (IntKind.u64.wrap b) 5)), 0, false, none) := by
    obtain ⟨q, hq, q1, q2⟩ := utm a 8 (by omega) (by omega)
    obtain ⟨p, hp, p1, p2⟩ := utm b 5 (by omega) (by omega)
    have hp1 : wrap64 (1 + p) = 1 + p := w64 ⟨by omega, by omega⟩
    rw [hq, hp, hp1]
    unfold control_New.f
    rw [if_pos ⟨by omega, by omega, by omega, by omega⟩]
  obtain ⟨rfl, rfl, rfl, rfl, rfl, rfl, rfl, rfl⟩ : 0 = r1 ∧ wrap64 (Int.tmod (IntKind.u64.wrap a) 8) = r2 ∧ wrap64 (1 + wrap64 (Int.tmod (IntKind.u64.wrap b) 5)) = r3 ∧ 0 = r4 ∧ false = r5 ∧ wrap64 (Int.tmod (IntKind.u64.wrap a) 8) = r6 ∧ wrap64 (1 + wrap64 (Int.tmod (IntKind.u64.wrap b) 5)) = r7 ∧ true = r8 := by simpa using h
  have HN := Aside0.mk hN
  have HB := Aside0.mk hB
  have hu := Try.underlying28
  clear h hN hB
  go_enter Try.func7, Try.ntmps7
  go_wp2_with (first | ((with_reducible refine gate_callee (f := 13) rfl ?_); refine goesL_ (some 22) rfl rfl Try.func13 (by kernel_rfl) rfl #[.int .i64 (wrap64 (Int.tmod (IntKind.u64.wrap a) 8)), .int .i64 (wrap64 (1 + wrap64 (Int.tmod (IntKind.u64.wrap b) 5)))] rfl (by (try simp only [List.map_toArray, List.map_cons, List.map_nil]); first | done | rfl) ?_; (with_reducible refine (control_New.calls (wrap64 (Int.tmod (IntKind.u64.wrap a) 8)) (wrap64 (1 + wrap64 (Int.tmod (IntKind.u64.wrap b) 5))) 0 (wrap64 (Int.tmod (IntKind.u64.wrap a) 8)) (wrap64 (1 + wrap64 (Int.tmod (IntKind.u64.wrap b) 5))) 0 false none w0 _ HB.out HN.out).mono ?_); rintro e w1 ⟨g, ez0, rfl, he0, hi, hb, hb2⟩; refine ⟨_, rfl, ?_⟩; obtain rfl := ErR_nil he0; have HI := Aside0.mk (And.intro hi (And.intro hb hb2)); clear he0 hi hb hb2))
  (try simp only [Exit.inBlock, Exit.then])
  refine bodyPost_ret (results_tmp4 rfl _ _ _) rfl ?_
  exact ⟨_, rfl, HI.out.1, HI.out.2.1, HI.out.2.2⟩
end Go.Proofs.Ytgbghjbihddpjaa.Er
