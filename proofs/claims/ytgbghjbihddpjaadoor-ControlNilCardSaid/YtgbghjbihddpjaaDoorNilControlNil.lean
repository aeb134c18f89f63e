/- ControlNil BY HAND: what a nil controller answers, each function once; the law's walk. Conditions: none. -/
import Derived.Test.YtgbghjbihddpjaaDoorQControlNilx
import Derived.Test.YtgbghjbihddpjaaDoorTells21
import Derived.Test.YtgbghjbihddpjaaDoorSt
import Derived.Test.YtgbghjbihddpjaaDoorFor
import Derived.Deep.QuietTactic
import Derived.BigQuiet
import Derived.KernelRfl
namespace Go.Proofs.YtgbghjbihddpjaaDoor.Pure
theorem ControlNil : True := trivial
end Go.Proofs.YtgbghjbihddpjaaDoor.Pure
namespace Go.Proofs.YtgbghjbihddpjaaDoor.Nil
set_option linter.unusedSimpArgs false
set_option linter.unusedVariables false
open Go.RowKit Go.Proofs.YtgbghjbihddpjaaDoor.Kit Go.Proofs.YtgbghjbihddpjaaDoor.St Go.Proofs.YtgbghjbihddpjaaDoor.Er Go.Proofs.YtgbghjbihddpjaaDoor.As Go.Proofs.YtgbghjbihddpjaaDoor.Tells Go.Proofs.YtgbghjbihddpjaaDoor.QControlNil Go.Proofs.YtgbghjbihddpjaaDoorW.PrintWords Go.Proofs.YtgbghjbihddpjaaDoorW.PrintLast Go.Proofs.YtgbghjbihddpjaaDoorW.PrintMore
def markW : ByteArray := ⟨#[99, 111, 110, 116, 114, 111, 108, 46, 77, 97, 114, 107]⟩
theorem tells7 : tells.f (some ([markW], 7)) 7 (⟨#[99, 111, 110, 116, 114, 111, 108, 46, 77, 97, 114, 107]⟩ : ByteArray) = some true := by decide +kernel
set_option maxHeartbeats 4000000 in
set_option maxRecDepth 100000 in
theorem level_nil (w : World) : Calls Tryd.prog 11 #[.pointer none] w fun e w' => e = .returned (.int .i64 0) ∧ Drawn0 w w' := by
  go_enter Tryd.func11, Tryd.ntmps11
  go_wp2
  go_ret
  exact ⟨rfl, by repeat (first | exact Drawn0.refl _ | apply Drawn0.step)⟩
set_option maxHeartbeats 4000000 in
set_option maxRecDepth 100000 in
theorem clean_nil (w : World) : Calls Tryd.prog 12 #[.pointer none] w fun e w' => e = .returned (.int .i64 0) ∧ Drawn0 w w' := by
  go_enter Tryd.func12, Tryd.ntmps12
  go_wp2
  go_ret
  exact ⟨rfl, by repeat (first | exact Drawn0.refl _ | apply Drawn0.step)⟩
set_option maxHeartbeats 4000000 in
set_option maxRecDepth 100000 in
theorem mark_nil (b0 b1 b2 : Bool) (y : Int) (w : World) : Calls Tryd.prog 10 #[.pointer none, .agg #[.bool b0, .bool b1, .bool b2, .int .i64 y]] w fun e w' =>
    ∃ e1_ : Value, e = .returned (.tuple #[.int .i64 0, e1_]) ∧ ErR w' e1_ (some ([markW], 7)) ∧ Below w.heap.size w w' := by
  have HB := Aside0.mk (Below.refl w.heap.size w)
  have HF := Aside0.mk (show fault_New.f markW 7 = some (some ([markW], 7)) from rfl)
  go_enter Tryd.func10, Tryd.ntmps10
  go_wp2_with (first | (go_at_call 13; (refine (fault_New.calls markW 7 _ _ HF.out).mono ?_); rintro e w1 ⟨ez0, rfl, he0, hb⟩; have HE := Aside0.mk he0; clear he0; have n_ := Aside0.mk (below_step (by repeat (first | (with_reducible first | exact HB.out | apply below_alloc | apply below_drew1 | apply pw_below_drewN) | exact HB.out)) hb); clear HB hb; have HB := n_; clear n_))
  go_ret2
  exact ⟨_, rfl, HE.out, HB.out⟩
set_option maxHeartbeats 8000000 in
set_option maxRecDepth 100000 in
theorem law.walk (P : True) (b0 b1 b2 : Bool) (y : Int) (w : World) (hG : Glob w) : Calls Tryd.prog 4 #[.agg #[.bool b0, .bool b1, .bool b2, .int .i64 y]] w fun e w' => e = .returned (.bool true) ∧ Below w.heap.size w w' := by
  have HB := Aside0.mk (Below.refl w.heap.size w)
  have HG := Aside0.mk hG
  have HA := Aside0.mk (show geyserlaw21_awake.f 40 = some true by decide +kernel)
  have HT := Aside0.mk tells7
  clear hG
  go_enter Tryd.func4, Tryd.ntmps4
  go_wp2_with (first | (go_at_call 10; (refine (mark_nil b0 b1 b2 y _).mono ?_); rintro e w1 ⟨ez0, rfl, he0, hb⟩; have HE := Aside0.mk he0; clear he0; have n_ := Aside0.mk (below_step (by repeat (first | (with_reducible first | exact HB.out | apply below_alloc | apply below_drew1 | apply pw_below_drewN) | exact HB.out)) hb); clear HB hb; have HB := n_; clear n_) | (go_at_call 7; (refine (tells.calls _ (some ([markW], 7)) 7 _ true _ ?side1 ?side2 HT.out).mono ?_); (case side1 => repeat (first | exact HE.out | apply ErR_drew | apply ErR_drewN | apply ErR_alloc)); (case side2 => exact Glob_below HG.out (by repeat (first | (with_reducible first | exact HB.out | apply below_alloc | apply below_drew1 | apply pw_below_drewN) | exact HB.out))); rintro e w2 ⟨rfl, hb⟩; have n_ := Aside0.mk (below_step (by repeat (first | (with_reducible first | exact HB.out | apply below_alloc | apply below_drew1 | apply pw_below_drewN) | exact HB.out)) hb); clear HB hb; have HB := n_; clear n_) | (go_at_call 11; (refine (level_nil _).mono ?_); rintro e w3 ⟨rfl, ⟨nd, rfl⟩⟩) | (go_at_call 12; (refine (clean_nil _).mono ?_); rintro e w4 ⟨rfl, ⟨nd, rfl⟩⟩) | (go_at_call 8; (refine (geyserlaw21_awake.calls 40 true _ HA.out).mono ?_); rintro e w5 ⟨rfl, hb⟩; have n_ := Aside0.mk (below_step (by repeat (first | (with_reducible first | exact HB.out | apply below_alloc | apply below_drew1 | apply pw_below_drewN) | exact HB.out)) hb); clear HB hb; have HB := n_; clear n_))
  go_ret
  exact ⟨rfl, by repeat (first | (with_reducible first | exact HB.out | apply below_alloc | apply below_drew1 | apply pw_below_drewN) | exact HB.out)⟩
end Go.Proofs.YtgbghjbihddpjaaDoor.Nil
