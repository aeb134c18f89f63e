/- What the walked laws share. Conditions: none. -/
import Derived.Test.YtfcofokbhhnfkaaDoorAwk
import Derived.Test.YtfcofokbhhnfkaaDoorPko
import Derived.Test.YtfcofokbhhnfkaaDoorTells16
namespace Go.Proofs.YtfcofokbhhnfkaaDoor.Byt
set_option linter.unusedSimpArgs false
set_option linter.unusedVariables false
open Go.RowKit Go.Deep Go.Proofs.YtfcofokbhhnfkaaDoor.Er Go.Proofs.YtfcofokbhhnfkaaDoorW.PrintWords Go.Proofs.YtfcofokbhhnfkaaDoorW.PrintLast Go.Proofs.YtfcofokbhhnfkaaDoorW.PrintMore
theorem RdB.at0 {w w' : World} {v : Value} {l : List Int} (h : RdB (fun k => k < w.heap.size) w v l) (hb : Below w.heap.size w w') : RdB (fun k => k < w.heap.size) w' v l := h.keep (fun k hk => hb.block k hk)
theorem cells_of {D : Nat → Prop} {w : World} {v : Value} {l : List Int} (h : RdB D w v l) : v.cells = #[v] := by
  obtain ⟨A, c, rfl, _⟩ := h
  rfl
/-- A packet's box, and what stays. -/
structure SB (w : World) (g : Nat) (p : Pk) (u : Value) (W : World) : Prop where
  P : PkAt W g p u
  B : Below w.heap.size w W
theorem SB.below {w : World} {g : Nat} {p : Pk} {u : Value} {W W' : World} (k : SB w g p u W) (hb : Below W.heap.size W W') : SB w g p u W' := ⟨k.P.below hb, k.B.trans (hb.mono k.B.size)⟩
theorem SB.drew {w : World} {g : Nat} {p : Pk} {u : Value} {W : World} (k : SB w g p u W) : SB w g p u W.drew := ⟨k.P, k.B.drew⟩
theorem not_none {α : Type} {o : Option α} (h : ¬ o = none) : ∃ x, o = some x := by
  cases o with
  | none => exact absurd rfl h
  | some x => exact ⟨x, rfl⟩
theorem run_cnv {o : Oper} {a : Act} {W : World} {v : Value} {s : ByteArray} (x : Operand) (ho : o.op = .convert 22 9 x) (hx : a.eval x = v) (h : (convert 22 9 v).run Tryd.prog W = .ok (.string s) W) : (execOp a.eval o).run Tryd.prog W = .ok (.value (.string s)) W := by
  unfold execOp
  simp only [ho, hx, Sem.run_bind, h, Result.andThen_ok, Sem.run_pure]
theorem tells_0 (c : ByteArray) : Tells.tells.f none 0 c = some true := rfl
theorem toList_self (c : ByteArray) : (c.toList == c.toList) = true := by simp
theorem tells_n (c : ByteArray) (cs : List ByteArray) (n : Int) (h : n ≠ 0) : Tells.tells.f (some (c :: cs, n)) n c = some true := by
  unfold Tells.tells.f
  rw [if_neg h]
  simp
theorem tells_er (c : ByteArray) (n : Int) : Tells.tells.f (er c n) n c = some true := by
  by_cases h : n = 0
  · subst h; rfl
  · rw [er_some h]; exact tells_n c [] n h
theorem RdB.at1 {w w' : World} {v : Value} {l : List Int} (h : RdB (fun k => k < w.heap.size) w v l) (hb : Below w.heap.size w w') : RdB (fun k => k < w'.heap.size) w' v l := by
  obtain ⟨A, c, h1, h2, h3, h4, h5⟩ := h.at0 hb
  refine ⟨A, c, h1, h2, h3, h4, fun hne => ?_⟩
  obtain ⟨a, e, hd, hx⟩ := h5 hne
  exact ⟨a, e, Nat.lt_of_lt_of_le hd hb.size, hx⟩
end Go.Proofs.YtfcofokbhhnfkaaDoor.Byt
