/- ControlComes (P21.5): where as much goes through as a level c has, a controller comes to c within the sum of one interval between sync points of each level below, and the first one, never goes above, and stays. Each of the 315 worlds is computed. Conditions: none. -/
import Derived.Test.YtgbghjbihddpjaaQControlComesx
import Derived.Test.YtgbghjbihddpjaaKit
import Derived.Test.YtgbghjbihddpjaaFor
namespace Go.Proofs.Ytgbghjbihddpjaa.Pure
open Go.RowKit Go.Proofs.Ytgbghjbihddpjaa.QControlComes Go.Proofs.YtgbghjbihddpjaaW.PrintWords Go.Proofs.YtgbghjbihddpjaaW.PrintLast Go.Proofs.YtgbghjbihddpjaaW.PrintMore Go.Proofs.Ytgbghjbihddpjaa.Kit Go.Proofs.Ytgbghjbihddpjaa.Er

def all (q0 : Nat) : Bool := (List.range (q0 + 1)).all fun q1 : Nat => (List.range 5).all fun q2 : Nat => (List.range (q2 + 1)).all fun q3 : Nat => geyserlaw21_ControlComes.f 1400 (q0 : Int) (q1 : Int) (q2 : Int) (q3 : Int) == some true
set_option maxRecDepth 100000 in
theorem all0 : all 0 = true := by decide +kernel
set_option maxRecDepth 100000 in
theorem all1 : all 1 = true := by decide +kernel
set_option maxRecDepth 100000 in
theorem all2 : all 2 = true := by decide +kernel
set_option maxRecDepth 100000 in
theorem all3 : all 3 = true := by decide +kernel
set_option maxRecDepth 100000 in
theorem all4 : all 4 = true := by decide +kernel
set_option maxRecDepth 100000 in
theorem all5 : all 5 = true := by decide +kernel
theorem all_ok (q0 : Nat) (h : q0 < 6) : all q0 = true := by
  rcases (show q0 = 0 ∨ q0 = 1 ∨ q0 = 2 ∨ q0 = 3 ∨ q0 = 4 ∨ q0 = 5 by omega) with rfl | rfl | rfl | rfl | rfl | rfl
  · exact all0
  · exact all1
  · exact all2
  · exact all3
  · exact all4
  · exact all5
theorem tm_small {q m : Int} (h0 : 0 ≤ q) (h1 : q < m) (hm : m ≤ 9223372036854775807) : wrap64 (Int.tmod (IntKind.u64.wrap q) m) = q := by
  rw [IntKind.wrap_u64, Int.emod_eq_of_lt h0 (by omega), tmod_pos h0, Int.emod_eq_of_lt h0 h1]
  exact w64 ⟨by omega, by omega⟩
theorem fits_same (a b c d : Int) : ∃ q0 q1 q2 q3 : Nat, q0 < 6 ∧ q1 < q0 + 1 ∧ q2 < 5 ∧ q3 < q2 + 1 ∧ geyserlaw21_fits.f a b c d = geyserlaw21_fits.f (q0 : Int) (q1 : Int) (q2 : Int) (q3 : Int) := by
  obtain ⟨q0, h0, l0, u0⟩ := utm a 6 (by omega) (by omega)
  obtain ⟨q2, h2, l2, u2⟩ := utm c 5 (by omega) (by omega)
  obtain ⟨q1, h1, l1, u1⟩ := utm b (1 + q0) (by omega) (by omega)
  obtain ⟨q3, h3, l3, u3⟩ := utm d (1 + q2) (by omega) (by omega)
  have w0 : wrap64 (2 + q0) = 2 + q0 := w64 ⟨by omega, by omega⟩
  have w1 : wrap64 (2 + q0 - 1) = 1 + q0 := by rw [w64 ⟨by omega, by omega⟩]; omega
  have w2 : wrap64 (1 + q2) = 1 + q2 := w64 ⟨by omega, by omega⟩
  have g1 : IntKind.u64.wrap (1 + q0) = 1 + q0 := u64w ⟨by omega, by omega⟩
  have g2 : IntKind.u64.wrap (1 + q2) = 1 + q2 := u64w ⟨by omega, by omega⟩
  refine ⟨q0.toNat, q1.toNat, q2.toNat, q3.toNat, by omega, by omega, by omega, by omega, ?_⟩
  have e0 : ((q0.toNat : Nat) : Int) = q0 := by omega
  have e1 : ((q1.toNat : Nat) : Int) = q1 := by omega
  have e2 : ((q2.toNat : Nat) : Int) = q2 := by omega
  have e3 : ((q3.toNat : Nat) : Int) = q3 := by omega
  rw [e0, e1, e2, e3]
  unfold geyserlaw21_fits.f
  rw [h0, h2, w0, w1, w2, g1, g2, h1, h3, tm_small l0 u0 (by omega), tm_small l2 u2 (by omega), w0, w1, w2, g1, g2, tm_small l1 u1 (by omega), tm_small l3 u3 (by omega)]
theorem ControlComes (a b c d : Int) : ∃ k, geyserlaw21_ControlComes.f k a b c d = some true := by
  obtain ⟨q0, q1, q2, q3, h0, h1, h2, h3, he⟩ := fits_same a b c d
  refine ⟨1400, ?_⟩
  have e : geyserlaw21_ControlComes.f 1400 a b c d = geyserlaw21_ControlComes.f 1400 (q0 : Int) (q1 : Int) (q2 : Int) (q3 : Int) := by
    unfold geyserlaw21_ControlComes.f
    rw [he]
  rw [e]
  have z := all_ok q0 h0
  unfold all at z
  have z1 := List.all_eq_true.1 z q1 (List.mem_range.2 h1)
  have z2 := List.all_eq_true.1 z1 q2 (List.mem_range.2 h2)
  have z3 := List.all_eq_true.1 z2 q3 (List.mem_range.2 h3)
  exact beq_iff_eq.1 z3
end Go.Proofs.Ytgbghjbihddpjaa.Pure
