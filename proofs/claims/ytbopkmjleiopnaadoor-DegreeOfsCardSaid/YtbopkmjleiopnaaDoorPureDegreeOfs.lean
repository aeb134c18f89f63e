/- DegreeOfs (P7.1): any number's degree, as the reference tells it, or ErrRange just where it has none. Conditions: none. -/
import Derived.Test.YtbopkmjleiopnaaDoorDegDegreeOfs
import Derived.Test.YtbopkmjleiopnaaDoorTells07
namespace Go.Proofs.YtbopkmjleiopnaaDoor.Pure
open Go.RowKit Go.Proofs.YtbopkmjleiopnaaDoor.QDegreeOfs Go.Proofs.YtbopkmjleiopnaaDoorW.PrintWords Go.Proofs.YtbopkmjleiopnaaDoorW.PrintLast Go.Proofs.YtbopkmjleiopnaaDoorW.PrintMore Go.Proofs.YtbopkmjleiopnaaDoor.Kit Go.Proofs.YtbopkmjleiopnaaDoor.Er Go.Proofs.YtbopkmjleiopnaaDoor.DegDegreeOfs Go.Proofs.YtbopkmjleiopnaaDoor.Tells

theorem tells_one (w : ByteArray) : tells.f (some ([w], 1)) 1 w = some true := by
  unfold tells.f
  rw [if_neg (by decide)]
  simp
theorem ref_ok (v : Int) : geyserref07_Of.f v = some (dOf v) := by
  unfold geyserref07_Of.f dOf
  by_cases c1 : v < 10241
  · rw [if_pos c1, if_pos c1]
  rw [if_neg c1, if_neg c1]
  by_cases c2 : v < 491582
  · rw [if_pos c2, if_pos c2]
  rw [if_neg c2, if_neg c2]
  by_cases c3 : v < 712794
  · rw [if_pos c3, if_pos c3]
  rw [if_neg c3, if_neg c3]
  by_cases c4 : v < 831695
  · rw [if_pos c4, if_pos c4]
  rw [if_neg c4, if_neg c4]
  by_cases c5 : v < 948446
  · rw [if_pos c5, if_pos c5]
  rw [if_neg c5, if_neg c5]
  by_cases c6 : v < 1032189
  · rw [if_pos c6, if_pos c6]
  rw [if_neg c6, if_neg c6]
theorem DegreeOfs : geyserlaw07_DegreeOfs.Pure := by
  intro v _
  refine Ev.rounds ?_
  unfold geyserlaw07_DegreeOfs.f
  by_cases h : v < 0 ∨ v ≥ 1048576
  · have hj : Ev (fun k => geyserlaw07_DegreeOfs.j0 k v 0 (some ([ofW], 1)) true) true :=
      Ev.step (fun k => geyserlaw07_DegreeOfs.j0.eq_2 v 0 (some ([ofW], 1)) true k) (EvT rfl (EvC (tells_one _) (EvT rfl (EvT rfl (EvC awake_ok (EvK rfl))))))
    refine EvC (of_bad h) ?_
    by_cases h1 : v < 0
    · exact EvT h1 hj
    · refine EvF h1 ?_
      rw [decide_eq_true (by omega)]
      exact hj
  · refine EvC (of_ok (by omega) (by omega)) (EvF (by omega) ?_)
    rw [decide_eq_false (by omega)]
    exact Ev.step (fun k => geyserlaw07_DegreeOfs.j0.eq_2 v (dOf v) none false k) (EvF (by decide) (EvT rfl (EvC (ref_ok v) (EvT rfl (EvC awake_ok (EvK rfl))))))
end Go.Proofs.YtbopkmjleiopnaaDoor.Pure
