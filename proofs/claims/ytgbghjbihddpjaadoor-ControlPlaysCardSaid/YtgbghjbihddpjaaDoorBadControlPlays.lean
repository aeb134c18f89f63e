/- ControlPlays where there is no such controller, BY HAND: New's refusals; the law's walk. Conditions: none. -/
import Derived.Test.YtgbghjbihddpjaaDoorQControlPlaysx
import Derived.Test.YtgbghjbihddpjaaDoorTells21
import Derived.Test.YtgbghjbihddpjaaDoorSt
import Derived.Test.YtgbghjbihddpjaaDoorFor
import Derived.KernelRfl
namespace Go.Proofs.YtgbghjbihddpjaaDoor.Bad
set_option linter.unusedSimpArgs false
set_option linter.unusedVariables false
open Go.RowKit Go.Proofs.YtgbghjbihddpjaaDoor.Kit Go.Proofs.YtgbghjbihddpjaaDoor.St Go.Proofs.YtgbghjbihddpjaaDoor.Er Go.Proofs.YtgbghjbihddpjaaDoor.As Go.Proofs.YtgbghjbihddpjaaDoor.Tells Go.Proofs.YtgbghjbihddpjaaDoor.QControlPlays Go.Proofs.YtgbghjbihddpjaaDoorW.PrintWords Go.Proofs.YtgbghjbihddpjaaDoorW.PrintLast Go.Proofs.YtgbghjbihddpjaaDoorW.PrintMore
def newW : ByteArray := ⟨#[99, 111, 110, 116, 114, 111, 108, 46, 78, 101, 119]⟩
theorem tells1 : tells.f (some ([newW], 1)) 1 (⟨#[99, 111, 110, 116, 114, 111, 108, 46, 78, 101, 119]⟩ : ByteArray) = some true := by decide +kernel
set_option maxHeartbeats 4000000 in
set_option maxRecDepth 100000 in
theorem new_bad (t l : Int) (hb : ¬ (0 ≤ t ∧ t < 8 ∧ 1 ≤ l ∧ l ≤ 4095)) (w : World) : Calls Tryd.prog 5 #[.int .i64 t, .int .i64 l] w fun e w' =>
    ∃ e1_ : Value, e = .returned (.tuple #[.pointer none, e1_]) ∧ ErR w' e1_ (some ([newW], 1)) ∧ Below w.heap.size w w' := by
  have HB := Aside0.mk (Below.refl w.heap.size w)
  have HF := Aside0.mk (show fault_New.f newW 1 = some (some ([newW], 1)) from rfl)
  by_cases c1 : t < 0
  · have d1 : decide (t < 0) = true := decide_eq_true c1
    clear c1 hb
    go_enter Tryd.func5, Tryd.ntmps5
    go_wp2_with (first | (go_at_call 13; (refine (fault_New.calls newW 1 _ _ HF.out).mono ?_); rintro e w1 ⟨ez0, rfl, he0, hb⟩; have HE := Aside0.mk he0; clear he0; have n_ := Aside0.mk (below_step (by repeat (first | (with_reducible first | exact HB.out | apply below_alloc | apply below_drew1 | apply pw_below_drewN) | exact HB.out)) hb); clear HB hb; have HB := n_; clear n_))
    go_ret2
    exact ⟨_, rfl, HE.out, HB.out⟩
  have d1 : decide (t < 0) = false := decide_eq_false c1
  by_cases c2 : 8 ≤ t
  · have d2 : decide (8 ≤ t) = true := decide_eq_true c2
    clear c1 c2 hb
    go_enter Tryd.func5, Tryd.ntmps5
    go_wp2_with (first | (go_at_call 13; (refine (fault_New.calls newW 1 _ _ HF.out).mono ?_); rintro e w1 ⟨ez0, rfl, he0, hb⟩; have HE := Aside0.mk he0; clear he0; have n_ := Aside0.mk (below_step (by repeat (first | (with_reducible first | exact HB.out | apply below_alloc | apply below_drew1 | apply pw_below_drewN) | exact HB.out)) hb); clear HB hb; have HB := n_; clear n_))
    go_ret2
    exact ⟨_, rfl, HE.out, HB.out⟩
  have d2 : decide (8 ≤ t) = false := decide_eq_false c2
  by_cases c3 : l < 1
  · have d3 : decide (l < 1) = true := decide_eq_true c3
    clear c1 c2 c3 hb
    go_enter Tryd.func5, Tryd.ntmps5
    go_wp2_with (first | (go_at_call 13; (refine (fault_New.calls newW 1 _ _ HF.out).mono ?_); rintro e w1 ⟨ez0, rfl, he0, hb⟩; have HE := Aside0.mk he0; clear he0; have n_ := Aside0.mk (below_step (by repeat (first | (with_reducible first | exact HB.out | apply below_alloc | apply below_drew1 | apply pw_below_drewN) | exact HB.out)) hb); clear HB hb; have HB := n_; clear n_))
    go_ret2
    exact ⟨_, rfl, HE.out, HB.out⟩
  have d3 : decide (l < 1) = false := decide_eq_false c3
  have d4 : decide (4095 < l) = true := decide_eq_true (by omega)
  clear c1 c2 c3 hb
  go_enter Tryd.func5, Tryd.ntmps5
  go_wp2_with (first | (go_at_call 13; (refine (fault_New.calls newW 1 _ _ HF.out).mono ?_); rintro e w1 ⟨ez0, rfl, he0, hb⟩; have HE := Aside0.mk he0; clear he0; have n_ := Aside0.mk (below_step (by repeat (first | (with_reducible first | exact HB.out | apply below_alloc | apply below_drew1 | apply pw_below_drewN) | exact HB.out)) hb); clear HB hb; have HB := n_; clear n_))
  go_ret2
  exact ⟨_, rfl, HE.out, HB.out⟩
theorem check_bad {t l : Int} (hb : ¬ (0 ≤ t ∧ t < 8 ∧ 1 ≤ l ∧ l ≤ 4095)) : geyserref21_Check.f t l = some 1 := by
  unfold geyserref21_Check.f
  by_cases c1 : t < 0
  · rw [if_pos c1]
  rw [if_neg c1]
  by_cases c2 : t > 7
  · rw [if_pos c2]
  rw [if_neg c2]
  by_cases c3 : l < 1
  · rw [if_pos c3]
  rw [if_neg c3, if_pos (by omega)]
set_option maxHeartbeats 8000000 in
set_option maxRecDepth 100000 in
theorem law_bad (t l : Int) (hb : ¬ (0 ≤ t ∧ t < 8 ∧ 1 ≤ l ∧ l ≤ 4095)) (A : Option Addr) (n c : Nat) (w : World) (hG : Glob w) : Calls Tryd.prog 3 #[.int .i64 t, .int .i64 l, .slice A n c] w fun e w' => e = .returned (.bool true) ∧ Below w.heap.size w w' := by
  have HB := Aside0.mk (Below.refl w.heap.size w)
  have HG := Aside0.mk hG
  have HA := Aside0.mk (show geyserlaw21_awake.f 40 = some true by decide +kernel)
  have HT := Aside0.mk tells1
  have HC := Aside0.mk (check_bad hb)
  have HN := Aside0.mk hb
  have hu := Tryd.underlying25
  clear hG hb
  go_enter Tryd.func3, Tryd.ntmps3
  go_wp2_with (first | (go_at_call 5; (refine (new_bad t l HN.out _).mono ?_); rintro e w1 ⟨ez0, rfl, he0, hb⟩; have HE := Aside0.mk he0; clear he0; have n_ := Aside0.mk (below_step (by repeat (first | (with_reducible first | exact HB.out | apply below_alloc | apply below_drew1 | apply pw_below_drewN) | exact HB.out)) hb); clear HB hb; have HB := n_; clear n_) | (go_at_call 6; (refine (geyserref21_Check.calls t l 1 _ HC.out).mono ?_); rintro e w3 ⟨rfl, ⟨nd, rfl⟩⟩) | (go_at_call 7; (refine (tells.calls _ (some ([newW], 1)) 1 _ true _ ?side1 ?side2 HT.out).mono ?_); (case side1 => repeat (first | exact HE.out | apply ErR_drew | apply ErR_drewN | apply ErR_alloc)); (case side2 => exact Glob_below HG.out (by repeat (first | (with_reducible first | exact HB.out | apply below_alloc | apply below_drew1 | apply pw_below_drewN) | exact HB.out))); rintro e w2 ⟨rfl, hb⟩; have n_ := Aside0.mk (below_step (by repeat (first | (with_reducible first | exact HB.out | apply below_alloc | apply below_drew1 | apply pw_below_drewN) | exact HB.out)) hb); clear HB hb; have HB := n_; clear n_) | (go_at_call 8; (refine (geyserlaw21_awake.calls 40 true _ HA.out).mono ?_); rintro e w5 ⟨rfl, hb⟩; have n_ := Aside0.mk (below_step (by repeat (first | (with_reducible first | exact HB.out | apply below_alloc | apply below_drew1 | apply pw_below_drewN) | exact HB.out)) hb); clear HB hb; have HB := n_; clear n_))
  go_ret
  exact ⟨rfl, by repeat (first | (with_reducible first | exact HB.out | apply below_alloc | apply below_drew1 | apply pw_below_drewN) | exact HB.out)⟩
theorem plays.walk (P : ∀ (t n : Int) (l : List S36), (0 ≤ t ∧ t < 8 ∧ 1 ≤ n ∧ n ≤ 4095) → ∃ k, geyserlaw21_ControlPlays.f k t n l = some true) (t n : Int) (l : List S36) (A : Option Addr) (c : Nat) (w : World) (hC : Kd.C k36 w A l.length l) (hc : l.length ≤ c) (hG : Glob w) :
    Calls Tryd.prog 3 #[.int .i64 t, .int .i64 n, .slice A l.length c] w fun e w' => e = .returned (.bool true) ∧ Below w.heap.size w w' := by
  by_cases h : 0 ≤ t ∧ t < 8 ∧ 1 ≤ n ∧ n ≤ 4095
  · obtain ⟨k, hk⟩ := P t n l h
    exact geyserlaw21_ControlPlays.calls k t n A c l true w hC hc hG rfl hk
  · exact law_bad t n h A l.length c w hG
end Go.Proofs.YtgbghjbihddpjaaDoor.Bad
