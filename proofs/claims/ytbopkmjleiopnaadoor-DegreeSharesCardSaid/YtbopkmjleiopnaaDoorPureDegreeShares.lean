/- DegreeShares (P7.1): how many numbers have any degree, or at most that, as the reference tells it, or ErrNone just where there is no such degree. Conditions: none. -/
import Derived.Test.YtbopkmjleiopnaaDoorDegDegreeShares
import Derived.Test.YtbopkmjleiopnaaDoorTells07
namespace Go.Proofs.YtbopkmjleiopnaaDoor.Pure
open Go.RowKit Go.Proofs.YtbopkmjleiopnaaDoor.QDegreeShares Go.Proofs.YtbopkmjleiopnaaDoorW.PrintWords Go.Proofs.YtbopkmjleiopnaaDoorW.PrintLast Go.Proofs.YtbopkmjleiopnaaDoorW.PrintMore Go.Proofs.YtbopkmjleiopnaaDoor.Kit Go.Proofs.YtbopkmjleiopnaaDoor.Er Go.Proofs.YtbopkmjleiopnaaDoor.DegDegreeShares Go.Proofs.YtbopkmjleiopnaaDoor.Tells

theorem tells_four (w : ByteArray) : tells.f (some ([w], 4)) 4 w = some true := by
  unfold tells.f
  rw [if_neg (by decide)]
  simp
theorem share_spec (d : Int) : (∃ s, s ≠ 0 ∧ Share.f d = some (s, none) ∧ geyserref07_Share.f d = some s) ∨ (Share.f d = some (0, some ([shareW], 4)) ∧ geyserref07_Share.f d = some 0) := by
  by_cases c1 : d = 1
  · subst c1; exact .inl ⟨10241, by decide, by decide +kernel, by decide +kernel⟩
  by_cases c2 : d = 2
  · subst c2; exact .inl ⟨481341, by decide, by decide +kernel, by decide +kernel⟩
  by_cases c3 : d = 3
  · subst c3; exact .inl ⟨221212, by decide, by decide +kernel, by decide +kernel⟩
  by_cases c4 : d = 4
  · subst c4; exact .inl ⟨118901, by decide, by decide +kernel, by decide +kernel⟩
  by_cases c5 : d = 10
  · subst c5; exact .inl ⟨116751, by decide, by decide +kernel, by decide +kernel⟩
  by_cases c6 : d = 11
  · subst c6; exact .inl ⟨83743, by decide, by decide +kernel, by decide +kernel⟩
  by_cases c7 : d = 40
  · subst c7; exact .inl ⟨16387, by decide, by decide +kernel, by decide +kernel⟩
  refine .inr ⟨?_, ?_⟩
  · show (if 1 = d then _ else if 2 = d then _ else if 3 = d then _ else if 4 = d then _ else if 10 = d then _ else if 11 = d then _ else if 40 = d then _ else _) = _
    rw [if_neg (by omega), if_neg (by omega), if_neg (by omega), if_neg (by omega), if_neg (by omega), if_neg (by omega), if_neg (by omega)]
    rfl
  · unfold geyserref07_Share.f
    rw [if_neg c1, if_neg c2, if_neg c3, if_neg c4, if_neg c5, if_neg c6, if_neg c7]
theorem refU_big (d : Int) (h : 40 ≤ d) : ∀ (k : Nat) (n i : Int), geyserref07_Upto.l0 k d n i = geyserref07_Upto.l0 k 40 n i
  | 0, _, _ => rfl
  | k + 1, n, i => by
    unfold geyserref07_Upto.l0
    by_cases h1 : i ≤ 40
    · rw [if_pos h1, if_pos h1, if_pos (show i ≤ d by omega), if_pos h1]
      exact congrArg _ (funext fun t => refU_big d h k _ _)
    · rw [if_neg h1, if_neg h1]
theorem refU_small : (List.range 41).all (fun d => geyserref07_Upto.f 50 (d : Int) == some (U (d : Int))) = true := by decide +kernel
theorem refU_at (d : Nat) (h : d < 41) : geyserref07_Upto.f 50 (d : Int) = some (U (d : Int)) := beq_iff_eq.1 (List.all_eq_true.1 refU_small d (List.mem_range.2 h))
theorem refU (d : Int) : Ev (fun k => geyserref07_Upto.f k d) (U d) := by
  by_cases h0 : d < 1
  · have e : U d = 0 := by unfold U; rw [if_neg (by omega), if_neg (by omega), if_neg (by omega), if_neg (by omega), if_neg (by omega), if_neg (by omega), if_neg (by omega)]
    rw [e]
    unfold geyserref07_Upto.f
    exact Ev.step (fun k => geyserref07_Upto.l0.eq_2 d 0 1 k) (EvT (by decide) (EvF (by omega) (EvK rfl)))
  · by_cases h1 : d ≤ 40
    · have := refU_at d.toNat (by omega)
      rw [Int.toNat_of_nonneg (by omega)] at this
      exact Ev.of (geyserref07_Upto.mono d) this
    · have e : U d = U 40 := by unfold U; rw [if_pos (by omega), if_pos (by omega)]
      have h2 : geyserref07_Upto.f 50 d = some (U d) := by
        rw [e]
        exact (refU_big d (by omega) 50 0 1).trans (refU_at 40 (by omega))
      exact Ev.of (geyserref07_Upto.mono d) h2
theorem DegreeShares : geyserlaw07_DegreeShares.Pure := by
  intro d _
  refine Ev.rounds ?_
  unfold geyserlaw07_DegreeShares.f
  rcases share_spec d with ⟨s, h0, h1, h2⟩ | ⟨h1, h2⟩
  · refine EvC h1 (EvC h2 (EvC (upto_ok d) (Ev.bind (refU d) (EvT rfl ?_))))
    rw [show (s != s) = false from bne_self_eq_false s]
    exact Ev.step (fun k => geyserlaw07_DegreeShares.j0.eq_2 none s false k) (EvF (by decide) (EvF h0 (EvT rfl (EvC awake_ok (EvK rfl)))))
  · refine EvC h1 (EvC h2 (EvC (upto_ok d) (Ev.bind (refU d) (EvT rfl ?_))))
    exact Ev.step (fun k => geyserlaw07_DegreeShares.j0.eq_2 (some ([shareW], 4)) 0 false k) (EvF (by decide) (EvT rfl (EvC (tells_four _) (EvT rfl (EvC awake_ok (EvK rfl))))))
end Go.Proofs.YtbopkmjleiopnaaDoor.Pure
