/- (*account.Account).Data at data of a layer above the level, by its contract. Conditions: as told. -/
import Derived.Test.YtbjojkocmmcpgaaWholeA
namespace Go.Proofs.Ytbjojkocmmcpgaa.Acc
set_option linter.unusedSimpArgs false
set_option linter.unusedVariables false
open Go.RowKit Go.Maps Go.Proofs.Ytbjojkocmmcpgaa.Er Go.Proofs.Ytbjojkocmmcpgaa.Mod Go.Proofs.YtbjojkocmmcpgaaW.PrintWords
set_option maxHeartbeats 8000000 in
set_option maxRecDepth 100000 in
theorem data_above (w : World) (g : Nat) (M : Nat → Nat) (a : Acc) (d : Dat) (h : IsAcc w g M a) (hd : Dat.Ok d) (hly : a.level < (d.layer : Int)) (hh : a.has = true) (hge : a.tick ≤ d.tick) :
    Calls Try.prog 8 #[.pointer (some ⟨g, 0, none⟩), pkV d] w fun e w' => e = .returned (.tuple #[.slice none 0 0, .bool false, .nilIface]) ∧ Below w.heap.size w w' := by
  have c0 : decide ((d.layer : Int) < 0) = false := decide_eq_false (by omega)
  have c1 : decide (8 ≤ (d.layer : Int)) = false := decide_eq_false (by have := hd.l7; omega)
  have c2 : decide (d.tick < 0) = false := decide_eq_false (by have := hd.t0; omega)
  have c3 : decide (1099511627776 ≤ d.tick) = false := decide_eq_false (by have := hd.t1; omega)
  have c4 : decide (d.many < 1) = false := decide_eq_false (by have := hd.m0; omega)
  have c5 : decide (4096 < d.many) = false := decide_eq_false (by have := hd.m1; omega)
  have c6 : decide (d.place < 0) = false := decide_eq_false (by have := hd.p0; omega)
  have c7 : decide (d.many ≤ d.place) = false := decide_eq_false (by have := hd.p1; omega)
  have c8 : decide (a.level < (d.layer : Int)) = true := decide_eq_true hly
  have c9 : decide (d.tick < a.tick) = false := decide_eq_false (by omega)
  have k0 : w.cell? ⟨g, 0, none⟩ = some (.int .i64 a.level) := h.row.cell (by omega)
  have k1 : w.cell? ⟨g, 1, none⟩ = some (.bool true) := by rw [← hh]; exact h.row.cell (by omega)
  have k2 : w.cell? ⟨g, 2, none⟩ = some (.int .i64 a.tick) := h.row.cell (by omega)
  have glt := h.row.lt
  unfold pkV
  clear h hd hly hh hge
  go_enter Try.func8, Try.ntmps8
  go_wp2
  go_quiet (fail)
  go_wp2
  go_ret3
  exact ⟨rfl, pw_below_drewN ((Below.refl _ _).alloc (Nat.le_refl _) _) _⟩
theorem dataOf_at (l : Nat) (z t p m : Int) (hz : z = (l : Int)) (w : World) : Calls Try.prog 9 #[.int .i64 z, .int .i64 t, .int .i64 p, .int .i64 m] w fun e w' => e = .returned (pkV (mkD l t p m)) ∧ Below w.heap.size w w' := by
  subst hz; exact dataOf_calls l t p m w
theorem heard_law (W w : World) (g : Nat) (M : Nat → Nat) (a : Acc) (i : Nat) (z : Int) (hz : z = (i : Int)) (x : Bool) (h : LS W g M a w) (hi : i < 8) (hx : (a.L i).heard = x) :
    Calls Try.prog 13 #[.pointer (some ⟨g, 0, none⟩), .int .i64 z] w fun e w' => e = .returned (.bool x) ∧ w' = w := by
  subst hx hz; exact heard_calls w g M a i h.acc hi
theorem unheard (m : Nat → Nat) (lv T : Int) (S : List Dat) (i l : Nat) (hS : ∀ d ∈ S, d.layer ≠ l) : ((accAt m lv T S i).L l).heard = false := by
  cases i with
  | zero =>
    show (if lv < (l : Int) then lay0 else lay0).heard = false
    split <;> rfl
  | succ i =>
    show (false || (S.take (i + 1)).any (fun d => d.layer == l)) = false
    rw [Bool.false_or, List.any_eq_false]
    intro d hd
    simpa using hS d (List.mem_of_mem_take hd)
theorem again (m : Nat → Nat) (lv T : Int) (S : List Dat) (hS : ∀ d ∈ S, Of m T d) (i : Nat) (d : Dat) (hi : S[i]? = some d) :
    (accAt m lv T S (i + 1)).data d = accAt m lv T S (i + 1) ∧ ((accAt m lv T S (i + 1)).come d).2 = [] ∧ (accAt m lv T S (i + 1)).fresh d = false := by
  have hd := hS d (List.mem_of_getElem? hi)
  have hmem : d ∈ S.take (i + 1) := by
    have e : S.take (i + 1) = S.take i ++ [d] := by rw [List.take_add_one (i := i), hi]; rfl
    rw [e]; simp
  obtain ⟨h1, h2, h3⟩ := st_old (fun _ => false) m lv T (S.take (i + 1)) d hd ((mem_pl _ m _ _ _).2 ⟨d, hmem, rfl, rfl⟩)
  exact ⟨h2, by show ((st (fun _ => false) m lv T (S.take (i + 1))).come d).2 = []; rw [h1], h3⟩
end Go.Proofs.Ytbjojkocmmcpgaa.Acc
