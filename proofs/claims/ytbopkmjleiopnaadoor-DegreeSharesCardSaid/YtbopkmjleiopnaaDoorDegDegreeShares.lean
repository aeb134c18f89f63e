/- What degree's functions answer, for DegreeShares: plainly, by ranges. No memory in sight. -/
import Derived.Test.YtbopkmjleiopnaaDoorQDegreeSharesx
import Derived.Test.YtbopkmjleiopnaaDoorKit
namespace Go.Proofs.YtbopkmjleiopnaaDoor.DegDegreeShares
open Go.RowKit Go.Proofs.YtbopkmjleiopnaaDoor.QDegreeShares Go.Proofs.YtbopkmjleiopnaaDoorW.PrintWords Go.Proofs.YtbopkmjleiopnaaDoorW.PrintLast Go.Proofs.YtbopkmjleiopnaaDoorW.PrintMore Go.Proofs.YtbopkmjleiopnaaDoor.Kit Go.Proofs.YtbopkmjleiopnaaDoor.Er

theorem awake_ok : geyserlaw07_awake.f = some true := by decide +kernel
def dOf (v : Int) : Int := if v < 10241 then 1 else if v < 491582 then 2 else if v < 712794 then 3 else if v < 831695 then 4 else if v < 948446 then 10 else if v < 1032189 then 11 else 40
def U (d : Int) : Int := if 40 ≤ d then 1048576 else if 11 ≤ d then 1032189 else if 10 ≤ d then 948446 else if 4 ≤ d then 831695 else if 3 ≤ d then 712794 else if 2 ≤ d then 491582 else if 1 ≤ d then 10241 else 0
def ofW : ByteArray := ⟨#[100, 101, 103, 114, 101, 101, 46, 79, 102]⟩
def shareW : ByteArray := ⟨#[100, 101, 103, 114, 101, 101, 46, 83, 104, 97, 114, 101]⟩
theorem of_ok {v : Int} (h0 : 0 ≤ v) (h1 : v < 1048576) : Of.f v = some (dOf v, none) := by
  unfold Of.f
  rw [if_neg (by omega), if_neg (by omega)]
  show (if v < 10241 then some (1, none) else if v < 491582 then some (2, none) else if v < 712794 then some (3, none) else if v < 831695 then some (4, none) else if v < 948446 then some (10, none) else if v < 1032189 then some (11, none)
    else if v < 1048576 then some (40, none) else _) = _
  unfold dOf
  by_cases c1 : v < 10241
  · rw [if_pos c1, if_pos c1]
  rw [if_neg c1, if_neg c1]
  by_cases c2 : v < 491582
  · rw [if_pos c2, if_pos c2]
  rw [if_neg c2, if_neg c2]
  by_cases c3 : v < 712794
  · rw [if_pos c3, if_pos c3]
  rw [if_neg c3, if_neg c3]
  by_cases c4 : v < 831695
  · rw [if_pos c4, if_pos c4]
  rw [if_neg c4, if_neg c4]
  by_cases c5 : v < 948446
  · rw [if_pos c5, if_pos c5]
  rw [if_neg c5, if_neg c5]
  by_cases c6 : v < 1032189
  · rw [if_pos c6, if_pos c6]
  rw [if_neg c6, if_neg c6, if_pos h1]
theorem of_bad {v : Int} (h : v < 0 ∨ v ≥ 1048576) : Of.f v = some (0, some ([ofW], 1)) := by
  unfold Of.f
  by_cases h1 : v < 0
  · rw [if_pos h1]; rfl
  · rw [if_neg h1, if_pos (by omega)]; rfl
theorem upto_ok (d : Int) : Upto.f d = some (U d) := rfl
theorem rises {a b : Int} (h : a ≤ b) : dOf a ≤ dOf b := by
  unfold dOf
  (repeat' split) <;> omega
theorem upto_iff (v d : Int) (h0 : 0 ≤ v) (h1 : v < 1048576) : v < U d ↔ dOf v ≤ d := by
  unfold U dOf
  (repeat' split) <;> omega
end Go.Proofs.YtbopkmjleiopnaaDoor.DegDegreeShares
