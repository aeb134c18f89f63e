/- degree's functions BY HAND: their tables are arrays. Conditions: none. -/
import Derived.Test.YtbopkmjleiopnaaEr
import Derived.Test.YtbopkmjleiopnaaKit
import Derived.Test.YtbopkmjleiopnaaWWords
import Derived.Test.YtbopkmjleiopnaaWLast
import Derived.Test.YtbopkmjleiopnaaWMore
import Derived.RowKit3
import Derived.Tactics
import Derived.OwnWalk
import Derived.Laws.MakeOwn
import Derived.Laws.OwnMore
import Derived.Deep.OwnRows
import Derived.Deep.LoopGhost
import Derived.Deep.Light
import Derived.Deep.QuietTactic
import Derived.BigQuiet
import Derived.KernelRfl
namespace Go.Proofs.Ytbopkmjleiopnaa.Er
set_option linter.unusedSimpArgs false
set_option linter.unusedVariables false
open Go.RowKit Go.Proofs.Ytbopkmjleiopnaa.Kit Go.Proofs.YtbopkmjleiopnaaW.PrintWords Go.Proofs.YtbopkmjleiopnaaW.PrintLast Go.Proofs.YtbopkmjleiopnaaW.PrintMore

def bd : Array Value := #[.int .i64 10241, .int .i64 491582, .int .i64 712794, .int .i64 831695, .int .i64 948446, .int .i64 1032189, .int .i64 1048576]
def dg : Array Value := #[.int .i64 1, .int .i64 2, .int .i64 3, .int .i64 4, .int .i64 10, .int .i64 11, .int .i64 40]
set_option maxHeartbeats 4000000 in
set_option maxRecDepth 100000 in
theorem bounds.calls (w : World) :
    Calls Try.prog 13 #[] w fun e w' => e = .returned (.agg bd) ∧ Below w.heap.size w w' := by
  go_enter Try.func13, Try.ntmps13
  go_wp2
  refine bodyPost_ret (results_cell_row rfl _ _ w.heap.size 35 bd (0, 0) _ rfl (heap_new _ _) Try.underlying35 rfl (by kernel_rfl)) rfl ?_
  exact ⟨rfl, (Below.refl _ _).alloc (Nat.le_refl _) _⟩
set_option maxHeartbeats 4000000 in
set_option maxRecDepth 100000 in
theorem degrees.calls (w : World) :
    Calls Try.prog 14 #[] w fun e w' => e = .returned (.agg dg) ∧ Below w.heap.size w w' := by
  go_enter Try.func14, Try.ntmps14
  go_wp2
  refine bodyPost_ret (results_cell_row rfl _ _ w.heap.size 35 dg (0, 0) _ rfl (heap_new _ _) Try.underlying35 rfl (by kernel_rfl)) rfl ?_
  exact ⟨rfl, (Below.refl _ _).alloc (Nat.le_refl _) _⟩

/-- The i-th of an array of seven ints. -/
theorem at7 (cs : Array Value) (n : Nat) (v : Int) (hn : n < 7) (hc : cs[n]? = some (.int .i64 v)) (w : World) :
    (Instr.index 35 (.agg cs) (.int .i64 (n : Int))).run Try.prog w = .ok (.int .i64 v) w := by
  obtain ⟨i, hi, hx⟩ := Option.map_eq_some_iff.1 (show (Try.prog.info? 3).map (·.size) = some 1 by kernel_rfl)
  simp [Instr.index, run_underlying Try.underlying35, asIntOf, part, isAgg, run_underlying Try.underlying3, sizeOf, typeInfo, hi, hx, hc]
  intro h7
  omega

def bI (i : Nat) : Int := [10241, 491582, 712794, 831695, 948446, 1032189, 1048576].getD i 0
def dI (i : Nat) : Int := [1, 2, 3, 4, 10, 11, 40].getD i 0
theorem at_b (n : Nat) (hn : n < 7) (w : World) : (Instr.index 35 (.agg bd) (.int .i64 (n : Int))).run Try.prog w = .ok (.int .i64 (bI n)) w := by
  refine at7 bd n _ hn ?_ w
  rcases (show n = 0 ∨ n = 1 ∨ n = 2 ∨ n = 3 ∨ n = 4 ∨ n = 5 ∨ n = 6 by omega) with rfl | rfl | rfl | rfl | rfl | rfl | rfl <;> rfl
theorem at_d (n : Nat) (hn : n < 7) (w : World) : (Instr.index 35 (.agg dg) (.int .i64 (n : Int))).run Try.prog w = .ok (.int .i64 (dI n)) w := by
  refine at7 dg n _ hn ?_ w
  rcases (show n = 0 ∨ n = 1 ∨ n = 2 ∨ n = 3 ∨ n = 4 ∨ n = 5 ∨ n = 6 by omega) with rfl | rfl | rfl | rfl | rfl | rfl | rfl <;> rfl

/-! ### degree.Upto -/
def Upto.go : Nat → Nat → Int → Int → Int
  | 0, _, _, n => n
  | g + 1, i, d, n => Upto.go g (i + 1) d (if dI i ≤ d then bI i else n)
def Upto.f (d : Int) : Option Int := some (Upto.go 7 0 d 0)
set_option maxHeartbeats 8000000 in
set_option maxRecDepth 100000 in
theorem Upto.calls (d : Int) (r : Int) (w : World) (h : Upto.f d = some r) :
    Calls Try.prog 8 #[.int .i64 d] w fun e w' => e = .returned (.int .i64 r) ∧ Below w.heap.size w w' := by
  have H := Aside0.mk (Option.some.inj h)
  clear h
  have HB := Aside0.mk (Below.refl w.heap.size w)
  go_enter Try.func8, Try.ntmps8
  go_wp2
  go_loopg [3, 5] 7 (fun g s3 s5 wr => ∃ (n : Int) (i : Nat), s3 = .int .i64 n ∧ s5 = .int .i64 (i : Int) ∧ Aside0 (i + g = 7 ∧ Upto.go g i d n = r) ∧ Aside0 (Below w.heap.size w wr))
  case atStart => exact ⟨0, 0, rfl, rfl, ⟨rfl, H.out⟩, HB⟩
  case round =>
    clear HB
    obtain ⟨n, i, rfl, rfl, HI, HB⟩ := hrel
    cases gk with
    | zero =>
      obtain ⟨h1, h2⟩ := HI.out
      obtain rfl : i = 7 := by omega
      obtain rfl : n = r := h2
      clear HI h1 H
      go_wp2
      go_ret
      exact ⟨rfl, HB.out⟩
    | succ g =>
      obtain ⟨h1, h2⟩ := HI.out
      have i1 : (i : Int) < 7 := by omega
      have i2 : i < 7 := by omega
      have i3 : IntKind.i64.wrap ((i : Int) + 1) = (i : Int) + 1 := by rw [i64_w]; exact w64 ⟨by omega, by omega⟩
      have hx := fun wx => at_d i i2 wx
      have hy := fun wx => at_b i i2 wx
      unfold Upto.go at h2
      clear HI
      by_cases c : dI i ≤ d
      · rw [if_pos c] at h2
        have HI := Aside0.mk (show (i + 1) + g = 7 ∧ _ from ⟨by omega, h2⟩)
        have cb : decide (dI i ≤ d) = true := decide_eq_true c
        clear c h1 h2
        go_wp2_with (first | ((with_reducible refine gate_callee (f := 14) rfl ?_); refine goesL_ (some 8) rfl rfl Try.func14 (by kernel_rfl) rfl #[] rfl (by (try simp only [List.map_toArray, List.map_cons, List.map_nil]); first | done | rfl) ?_; (with_reducible refine (degrees.calls _).mono ?_); rintro e w1 ⟨rfl, hb⟩; refine ⟨_, rfl, ?_⟩; have n_ := Aside0.mk (below_step (by repeat (first | (with_reducible first | exact HB.out | apply below_drew1 | apply pw_below_drewN) | exact HB.out)) hb); clear HB hb; have HB := n_; clear n_) | ((with_reducible refine gate_callee (f := 13) rfl ?_); refine goesL_ (some 13) rfl rfl Try.func13 (by kernel_rfl) rfl #[] rfl (by (try simp only [List.map_toArray, List.map_cons, List.map_nil]); first | done | rfl) ?_; (with_reducible refine (bounds.calls _).mono ?_); rintro e w1 ⟨rfl, hb⟩; refine ⟨_, rfl, ?_⟩; have n_ := Aside0.mk (below_step (by repeat (first | (with_reducible first | exact HB.out | apply below_drew1 | apply pw_below_drewN) | exact HB.out)) hb); clear HB hb; have HB := n_; clear n_))
        go_roundg g
        case measure => go_light; omega
        case rel => go_light; exact ⟨_, i + 1, rfl, rfl, HI, HB⟩
      · rw [if_neg c] at h2
        have HI := Aside0.mk (show (i + 1) + g = 7 ∧ _ from ⟨by omega, h2⟩)
        have cb : decide (dI i ≤ d) = false := decide_eq_false c
        clear c h1 h2
        go_wp2_with (first | ((with_reducible refine gate_callee (f := 14) rfl ?_); refine goesL_ (some 8) rfl rfl Try.func14 (by kernel_rfl) rfl #[] rfl (by (try simp only [List.map_toArray, List.map_cons, List.map_nil]); first | done | rfl) ?_; (with_reducible refine (degrees.calls _).mono ?_); rintro e w1 ⟨rfl, hb⟩; refine ⟨_, rfl, ?_⟩; have n_ := Aside0.mk (below_step (by repeat (first | (with_reducible first | exact HB.out | apply below_drew1 | apply pw_below_drewN) | exact HB.out)) hb); clear HB hb; have HB := n_; clear n_) | ((with_reducible refine gate_callee (f := 13) rfl ?_); refine goesL_ (some 13) rfl rfl Try.func13 (by kernel_rfl) rfl #[] rfl (by (try simp only [List.map_toArray, List.map_cons, List.map_nil]); first | done | rfl) ?_; (with_reducible refine (bounds.calls _).mono ?_); rintro e w1 ⟨rfl, hb⟩; refine ⟨_, rfl, ?_⟩; have n_ := Aside0.mk (below_step (by repeat (first | (with_reducible first | exact HB.out | apply below_drew1 | apply pw_below_drewN) | exact HB.out)) hb); clear HB hb; have HB := n_; clear n_))
        go_roundg g
        case measure => go_light; omega
        case rel => go_light; exact ⟨_, i + 1, rfl, rfl, HI, HB⟩

/-! ### degree.Of -/
def Of.go : Nat → Nat → Int → Option (Int × Option Er)
  | 0, _, _ => (fault_New.f (⟨#[100, 101, 103, 114, 101, 101, 46, 79, 102]⟩ : ByteArray) 1).bind fun t => some (0, t)
  | g + 1, i, v => if v < bI i then some (dI i, none) else Of.go g (i + 1) v
def Of.f (v : Int) : Option (Int × Option Er) :=
  if v < 0 then (fault_New.f (⟨#[100, 101, 103, 114, 101, 101, 46, 79, 102]⟩ : ByteArray) 1).bind fun t => some (0, t) else if v ≥ 1048576 then (fault_New.f (⟨#[100, 101, 103, 114, 101, 101, 46, 79, 102]⟩ : ByteArray) 1).bind fun t => some (0, t) else Of.go 7 0 v
set_option maxHeartbeats 8000000 in
set_option maxRecDepth 100000 in
theorem Of.calls (v : Int) (r1 : Int) (r2 : Option Er) (w : World) (h : Of.f v = some (r1, r2)) :
    Calls Try.prog 6 #[.int .i64 v] w fun e w' => ∃ e1_ : Value, e = .returned (.tuple #[.int .i64 r1, e1_]) ∧ ErR w' e1_ r2 ∧ Below w.heap.size w w' := by
  unfold Of.f at h
  have HB := Aside0.mk (Below.refl w.heap.size w)
  by_cases c1 : v < 0
  · rw [if_pos c1] at h
    obtain ⟨t, A30, h⟩ := Option.bind_eq_some_iff.mp h
    obtain ⟨rfl, rfl⟩ : 0 = r1 ∧ t = r2 := by simpa using h
    have A3 := Aside0.mk A30
    have c1b : decide (v < 0) = true := decide_eq_true c1
    clear h c1 A30
    go_enter Try.func6, Try.ntmps6
    go_wp2_with (first | ((with_reducible refine gate_callee (f := 12) rfl ?_); refine goesL_ (some 11) rfl rfl Try.func12 (by kernel_rfl) rfl #[.string (⟨#[100, 101, 103, 114, 101, 101, 46, 79, 102]⟩ : ByteArray), .int .i64 1] rfl (by (try simp only [List.map_toArray, List.map_cons, List.map_nil]); first | done | rfl) ?_; (with_reducible refine (fault_New.calls (⟨#[100, 101, 103, 114, 101, 101, 46, 79, 102]⟩ : ByteArray) 1 t _ A3.out).mono ?_); rintro e w1 ⟨ez0, rfl, he0, hb⟩; refine ⟨_, rfl, ?_⟩; have HE := Aside0.mk he0; clear he0; have n_ := Aside0.mk (below_step (by repeat (first | (with_reducible first | exact HB.out | apply below_drew1 | apply pw_below_drewN) | exact HB.out)) hb); clear HB hb; have HB := n_; clear n_))
    go_ret2
    exact ⟨_, rfl, HE.out, HB.out⟩
  rw [if_neg c1] at h
  have c1b : decide (v < 0) = false := decide_eq_false c1
  by_cases c2 : v ≥ 1048576
  · rw [if_pos c2] at h
    obtain ⟨t, A30, h⟩ := Option.bind_eq_some_iff.mp h
    obtain ⟨rfl, rfl⟩ : 0 = r1 ∧ t = r2 := by simpa using h
    have A3 := Aside0.mk A30
    have c2b : decide (1048576 ≤ v) = true := decide_eq_true c2
    clear h c1 c2 A30
    go_enter Try.func6, Try.ntmps6
    go_wp2_with (first | ((with_reducible refine gate_callee (f := 12) rfl ?_); refine goesL_ (some 11) rfl rfl Try.func12 (by kernel_rfl) rfl #[.string (⟨#[100, 101, 103, 114, 101, 101, 46, 79, 102]⟩ : ByteArray), .int .i64 1] rfl (by (try simp only [List.map_toArray, List.map_cons, List.map_nil]); first | done | rfl) ?_; (with_reducible refine (fault_New.calls (⟨#[100, 101, 103, 114, 101, 101, 46, 79, 102]⟩ : ByteArray) 1 t _ A3.out).mono ?_); rintro e w1 ⟨ez0, rfl, he0, hb⟩; refine ⟨_, rfl, ?_⟩; have HE := Aside0.mk he0; clear he0; have n_ := Aside0.mk (below_step (by repeat (first | (with_reducible first | exact HB.out | apply below_drew1 | apply pw_below_drewN) | exact HB.out)) hb); clear HB hb; have HB := n_; clear n_))
    go_ret2
    exact ⟨_, rfl, HE.out, HB.out⟩
  rw [if_neg c2] at h
  have c2b : decide (1048576 ≤ v) = false := decide_eq_false c2
  have H := Aside0.mk h
  clear h c1 c2
  go_enter Try.func6, Try.ntmps6
  go_wp2
  go_loopg [12] 7 (fun g s12 wr => ∃ (i : Nat), s12 = .int .i64 (i : Int) ∧ Aside0 (i + g = 7 ∧ Of.go g i v = some (r1, r2)) ∧ Aside0 (Below w.heap.size w wr))
  case atStart => exact ⟨0, rfl, ⟨rfl, H.out⟩, HB⟩
  case round =>
    clear HB H
    obtain ⟨i, rfl, HI, HB⟩ := hrel
    cases gk with
    | zero =>
      obtain ⟨h1, h⟩ := HI.out
      obtain rfl : i = 7 := by omega
      unfold Of.go at h
      obtain ⟨t, A30, h⟩ := Option.bind_eq_some_iff.mp h
      obtain ⟨rfl, rfl⟩ : 0 = r1 ∧ t = r2 := by simpa using h
      have A3 := Aside0.mk A30
      clear HI h1 h A30
      go_wp2_with (first | ((with_reducible refine gate_callee (f := 12) rfl ?_); refine goesL_ (some 24) rfl rfl Try.func12 (by kernel_rfl) rfl #[.string (⟨#[100, 101, 103, 114, 101, 101, 46, 79, 102]⟩ : ByteArray), .int .i64 1] rfl (by (try simp only [List.map_toArray, List.map_cons, List.map_nil]); first | done | rfl) ?_; (with_reducible refine (fault_New.calls (⟨#[100, 101, 103, 114, 101, 101, 46, 79, 102]⟩ : ByteArray) 1 t _ A3.out).mono ?_); rintro e w1 ⟨ez0, rfl, he0, hb⟩; refine ⟨_, rfl, ?_⟩; have HE := Aside0.mk he0; clear he0; have n_ := Aside0.mk (below_step (by repeat (first | (with_reducible first | exact HB.out | apply below_drew1 | apply pw_below_drewN) | exact HB.out)) hb); clear HB hb; have HB := n_; clear n_))
      go_ret2
      exact ⟨_, rfl, HE.out, HB.out⟩
    | succ g =>
      obtain ⟨h1, h2⟩ := HI.out
      have i1 : (i : Int) < 7 := by omega
      have i2 : i < 7 := by omega
      have i3 : IntKind.i64.wrap ((i : Int) + 1) = (i : Int) + 1 := by rw [i64_w]; exact w64 ⟨by omega, by omega⟩
      have hx := fun wx => at_d i i2 wx
      have hy := fun wx => at_b i i2 wx
      unfold Of.go at h2
      clear HI
      by_cases c : v < bI i
      · rw [if_pos c] at h2
        obtain ⟨rfl, rfl⟩ : dI i = r1 ∧ none = r2 := by simpa using h2
        have cb : decide (v < bI i) = true := decide_eq_true c
        clear c h1 h2
        go_wp2_with (first | ((with_reducible refine gate_callee (f := 13) rfl ?_); refine goesL_ (some 16) rfl rfl Try.func13 (by kernel_rfl) rfl #[] rfl (by (try simp only [List.map_toArray, List.map_cons, List.map_nil]); first | done | rfl) ?_; (with_reducible refine (bounds.calls _).mono ?_); rintro e w1 ⟨rfl, hb⟩; refine ⟨_, rfl, ?_⟩; have n_ := Aside0.mk (below_step (by repeat (first | (with_reducible first | exact HB.out | apply below_drew1 | apply pw_below_drewN) | exact HB.out)) hb); clear HB hb; have HB := n_; clear n_) | ((with_reducible refine gate_callee (f := 14) rfl ?_); refine goesL_ (some 20) rfl rfl Try.func14 (by kernel_rfl) rfl #[] rfl (by (try simp only [List.map_toArray, List.map_cons, List.map_nil]); first | done | rfl) ?_; (with_reducible refine (degrees.calls _).mono ?_); rintro e w1 ⟨rfl, hb⟩; refine ⟨_, rfl, ?_⟩; have n_ := Aside0.mk (below_step (by repeat (first | (with_reducible first | exact HB.out | apply below_drew1 | apply pw_below_drewN) | exact HB.out)) hb); clear HB hb; have HB := n_; clear n_))
        go_ret2
        exact ⟨_, rfl, rfl, HB.out⟩
      · rw [if_neg c] at h2
        have HI := Aside0.mk (show (i + 1) + g = 7 ∧ _ from ⟨by omega, h2⟩)
        have cb : decide (v < bI i) = false := decide_eq_false c
        clear c h1 h2
        go_wp2_with (first | ((with_reducible refine gate_callee (f := 13) rfl ?_); refine goesL_ (some 16) rfl rfl Try.func13 (by kernel_rfl) rfl #[] rfl (by (try simp only [List.map_toArray, List.map_cons, List.map_nil]); first | done | rfl) ?_; (with_reducible refine (bounds.calls _).mono ?_); rintro e w1 ⟨rfl, hb⟩; refine ⟨_, rfl, ?_⟩; have n_ := Aside0.mk (below_step (by repeat (first | (with_reducible first | exact HB.out | apply below_drew1 | apply pw_below_drewN) | exact HB.out)) hb); clear HB hb; have HB := n_; clear n_) | ((with_reducible refine gate_callee (f := 14) rfl ?_); refine goesL_ (some 20) rfl rfl Try.func14 (by kernel_rfl) rfl #[] rfl (by (try simp only [List.map_toArray, List.map_cons, List.map_nil]); first | done | rfl) ?_; (with_reducible refine (degrees.calls _).mono ?_); rintro e w1 ⟨rfl, hb⟩; refine ⟨_, rfl, ?_⟩; have n_ := Aside0.mk (below_step (by repeat (first | (with_reducible first | exact HB.out | apply below_drew1 | apply pw_below_drewN) | exact HB.out)) hb); clear HB hb; have HB := n_; clear n_))
        go_roundg g
        case measure => go_light; omega
        case rel => go_light; exact ⟨i + 1, rfl, HI, HB⟩

/-! ### degree.Share -/
def Share.go : Nat → Nat → Int → Option (Int × Option Er)
  | 0, _, _ => (fault_New.f (⟨#[100, 101, 103, 114, 101, 101, 46, 83, 104, 97, 114, 101]⟩ : ByteArray) 4).bind fun t => some (0, t)
  | g + 1, i, d => if dI i = d then some (wrap64 (Upto.go 7 0 d 0 - Upto.go 7 0 (wrap64 (d - 1)) 0), none) else Share.go g (i + 1) d
def Share.f (d : Int) : Option (Int × Option Er) := Share.go 7 0 d
set_option maxHeartbeats 8000000 in
set_option maxRecDepth 100000 in
theorem Share.calls (d : Int) (r1 : Int) (r2 : Option Er) (w : World) (h : Share.f d = some (r1, r2)) :
    Calls Try.prog 11 #[.int .i64 d] w fun e w' => ∃ e1_ : Value, e = .returned (.tuple #[.int .i64 r1, e1_]) ∧ ErR w' e1_ r2 ∧ Below w.heap.size w w' := by
  have HB := Aside0.mk (Below.refl w.heap.size w)
  have H := Aside0.mk (show Share.go 7 0 d = some (r1, r2) from h)
  clear h
  go_enter Try.func11, Try.ntmps11
  go_wp2
  go_loopg [5] 7 (fun g s5 wr => ∃ (i : Nat), s5 = .int .i64 (i : Int) ∧ Aside0 (i + g = 7 ∧ Share.go g i d = some (r1, r2)) ∧ Aside0 (Below w.heap.size w wr))
  case atStart => exact ⟨0, rfl, ⟨rfl, H.out⟩, HB⟩
  case round =>
    clear HB H
    obtain ⟨i, rfl, HI, HB⟩ := hrel
    cases gk with
    | zero =>
      obtain ⟨h1, h⟩ := HI.out
      obtain rfl : i = 7 := by omega
      unfold Share.go at h
      obtain ⟨t, A30, h⟩ := Option.bind_eq_some_iff.mp h
      obtain ⟨rfl, rfl⟩ : 0 = r1 ∧ t = r2 := by simpa using h
      have A3 := Aside0.mk A30
      clear HI h1 h A30
      go_wp2_with (first | ((with_reducible refine gate_callee (f := 12) rfl ?_); refine goesL_ (some 20) rfl rfl Try.func12 (by kernel_rfl) rfl #[.string (⟨#[100, 101, 103, 114, 101, 101, 46, 83, 104, 97, 114, 101]⟩ : ByteArray), .int .i64 4] rfl (by (try simp only [List.map_toArray, List.map_cons, List.map_nil]); first | done | rfl) ?_; (with_reducible refine (fault_New.calls (⟨#[100, 101, 103, 114, 101, 101, 46, 83, 104, 97, 114, 101]⟩ : ByteArray) 4 t _ A3.out).mono ?_); rintro e w1 ⟨ez0, rfl, he0, hb⟩; refine ⟨_, rfl, ?_⟩; have HE := Aside0.mk he0; clear he0; have n_ := Aside0.mk (below_step (by repeat (first | (with_reducible first | exact HB.out | apply below_drew1 | apply pw_below_drewN) | exact HB.out)) hb); clear HB hb; have HB := n_; clear n_))
      go_ret2
      exact ⟨_, rfl, HE.out, HB.out⟩
    | succ g =>
      obtain ⟨h1, h2⟩ := HI.out
      have i1 : (i : Int) < 7 := by omega
      have i2 : i < 7 := by omega
      have i3 : IntKind.i64.wrap ((i : Int) + 1) = (i : Int) + 1 := by rw [i64_w]; exact w64 ⟨by omega, by omega⟩
      have hx := fun wx => at_d i i2 wx
      unfold Share.go at h2
      clear HI
      by_cases c : dI i = d
      · rw [if_pos c] at h2
        have cb : (dI i == d) = true := beq_iff_eq.2 c
        have h3 := Option.some.inj h2
        obtain ⟨u1, hu1⟩ : ∃ u, Upto.go 7 0 d 0 = u := ⟨_, rfl⟩
        obtain ⟨u2, hu2⟩ : ∃ u, Upto.go 7 0 (wrap64 (d - 1)) 0 = u := ⟨_, rfl⟩
        rw [hu1, hu2] at h3
        have hc1 := Upto.calls d u1
        have hc2 := Upto.calls (wrap64 (d - 1)) u2
        have HU := Aside0.mk (And.intro (show Upto.f d = some u1 from congrArg some hu1) (show Upto.f (wrap64 (d - 1)) = some u2 from congrArg some hu2))
        obtain ⟨rfl, rfl⟩ : wrap64 (u1 - u2) = r1 ∧ none = r2 := by simpa using h3
        clear c h1 h2 h3 hu1 hu2 hc1 hc2
        go_wp2_with (first | ((with_reducible refine gate_callee (f := 14) rfl ?_); refine goesL_ (some 8) rfl rfl Try.func14 (by kernel_rfl) rfl #[] rfl (by (try simp only [List.map_toArray, List.map_cons, List.map_nil]); first | done | rfl) ?_; (with_reducible refine (degrees.calls _).mono ?_); rintro e w1 ⟨rfl, hb⟩; refine ⟨_, rfl, ?_⟩; have n_ := Aside0.mk (below_step (by repeat (first | (with_reducible first | exact HB.out | apply below_drew1 | apply pw_below_drewN) | exact HB.out)) hb); clear HB hb; have HB := n_; clear n_) | ((with_reducible refine gate_callee (f := 8) rfl ?_); refine goesL_ (some 14) rfl rfl Try.func8 (by kernel_rfl) rfl #[.int .i64 d] rfl (by (try simp only [List.map_toArray, List.map_cons, List.map_nil]); first | done | rfl) ?_; (with_reducible refine (Upto.calls d u1 _ HU.out.1).mono ?_); rintro e w1 ⟨rfl, hb⟩; refine ⟨_, rfl, ?_⟩; have n_ := Aside0.mk (below_step (by repeat (first | (with_reducible first | exact HB.out | apply below_drew1 | apply pw_below_drewN) | exact HB.out)) hb); clear HB hb; have HB := n_; clear n_) | ((with_reducible refine gate_callee (f := 8) rfl ?_); refine goesL_ (some 17) rfl rfl Try.func8 (by kernel_rfl) rfl #[.int .i64 (wrap64 (d - 1))] rfl (by (try simp only [List.map_toArray, List.map_cons, List.map_nil]); first | done | rfl) ?_; (with_reducible refine (Upto.calls (wrap64 (d - 1)) u2 _ HU.out.2).mono ?_); rintro e w1 ⟨rfl, hb⟩; refine ⟨_, rfl, ?_⟩; have n_ := Aside0.mk (below_step (by repeat (first | (with_reducible first | exact HB.out | apply below_drew1 | apply pw_below_drewN) | exact HB.out)) hb); clear HB hb; have HB := n_; clear n_))
        go_ret2
        exact ⟨_, rfl, rfl, HB.out⟩
      · rw [if_neg c] at h2
        have HI := Aside0.mk (show (i + 1) + g = 7 ∧ _ from ⟨by omega, h2⟩)
        have cb : (dI i == d) = false := beq_eq_false_iff_ne.2 c
        clear c h1 h2
        go_wp2_with (first | ((with_reducible refine gate_callee (f := 14) rfl ?_); refine goesL_ (some 8) rfl rfl Try.func14 (by kernel_rfl) rfl #[] rfl (by (try simp only [List.map_toArray, List.map_cons, List.map_nil]); first | done | rfl) ?_; (with_reducible refine (degrees.calls _).mono ?_); rintro e w1 ⟨rfl, hb⟩; refine ⟨_, rfl, ?_⟩; have n_ := Aside0.mk (below_step (by repeat (first | (with_reducible first | exact HB.out | apply below_drew1 | apply pw_below_drewN) | exact HB.out)) hb); clear HB hb; have HB := n_; clear n_))
        go_roundg g
        case measure => go_light; omega
        case rel => go_light; exact ⟨i + 1, rfl, HI, HB⟩
end Go.Proofs.Ytbopkmjleiopnaa.Er
