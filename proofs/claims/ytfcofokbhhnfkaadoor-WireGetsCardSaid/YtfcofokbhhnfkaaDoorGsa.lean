/- Cells of a packet's box, stored, as one event each; the taker-off's cells. -/
import Derived.Test.YtfcofokbhhnfkaaDoorGst
namespace Go.Proofs.YtfcofokbhhnfkaaDoor.Byt
set_option linter.unusedSimpArgs false
set_option linter.unusedVariables false
open Go.RowKit Go.Deep Go.Proofs.YtfcofokbhhnfkaaDoor.Er Go.Proofs.YtfcofokbhhnfkaaDoorW.PrintWords Go.Proofs.YtfcofokbhhnfkaaDoorW.PrintLast Go.Proofs.YtfcofokbhhnfkaaDoorW.PrintMore
theorem PkAt.celln {W : World} {g : Nat} {p : Pk} {v : Value} (h : PkAt W g p v) (j : Nat) (hj : j < 20) : ∃ u, W.cell? ⟨g, j, none⟩ = some u := by
  have hs : (pkC p v).toArray.size = 20 := rfl
  exact ⟨_, (blk_cell h j).trans (Array.getElem?_eq_getElem (by rw [hs]; exact hj))⟩
theorem nx1_bd {l : List Int} (h : ∀ x ∈ l, 0 ≤ x ∧ x < 256) : 0 ≤ nxtV l 1 ∧ nxtV l 1 < 256 := by
  unfold nxtV
  split
  · omega
  · exact numI_bd 1 l h (by omega)
theorem Off.nx1 {w0 w : World} {g : Nat} {l : List Int} {b : Bool} (h : Off w0 w g l b) : 0 ≤ nxtV l 1 ∧ nxtV l 1 < 256 := by
  obtain ⟨A, c, _, h2, _⟩ := h
  exact nx1_bd h2.lt
theorem sync_eq {q : Int} (h : 0 ≤ q ∧ q < 256) : wrap64 (Int.tmod q 128 - 1) = q % 128 - 1 := by
  rw [Int.tmod_eq_emod_of_nonneg h.1]
  exact w64 ⟨by omega, by omega⟩
section
variable {ops : Array Oper} {rest : List Oper} {o : Oper} {a : Act} {Q : Exit → Act → World → Prop} {W w wd : World} {rb ob pb : Nat} {p : Pk} {v : Value} {l : List Int} {b : Bool}
theorem GS.stI (h : GS w wd rb ob pb p v l b W) (j : Nat) (n : Int) (p' : Pk) (hgd : o.guard = none) {x : Tmp} {y : Operand} (ho : o.op = .store 3 (.tmp x) y) (hN : o.dst = none)
    (hx : a.eval (.tmp x) = .pointer (some ⟨pb, j, none⟩)) (hy : a.eval y = .int .i64 n) (hj : j < 20) (hc : (pkC p v).set j (.int .i64 n) = pkC p' v)
    (k : ∀ w' : World, Hid (GS w wd rb ob pb p' v l b w') → wpList Tryd.prog ops Q rest a w') : wpList Tryd.prog ops Q (o :: rest) a W := by
  obtain ⟨u, hu⟩ := h.P.celln j hj
  have hf := blk_frozen h.P j
  have hrun : (execOp a.eval o).run Tryd.prog W = .ok .skip (W.setCell ⟨pb, j, none⟩ (.int .i64 n)) := by
    unfold execOp
    simp only [ho, hx, hy]
    go_simp
  refine store_event hgd ho hN hrun ?_
  rintro w' rfl
  exact k _ (Lib.hid (h.put j _ p' v (by rw [List.setIfInBounds_toArray, hc])))
theorem GS.stB (h : GS w wd rb ob pb p v l b W) (j : Nat) (n : Bool) (p' : Pk) (hgd : o.guard = none) {x : Tmp} {y : Operand} (ho : o.op = .store 4 (.tmp x) y) (hN : o.dst = none)
    (hx : a.eval (.tmp x) = .pointer (some ⟨pb, j, none⟩)) (hy : a.eval y = .bool n) (hj : j < 20) (hc : (pkC p v).set j (.bool n) = pkC p' v)
    (k : ∀ w' : World, Hid (GS w wd rb ob pb p' v l b w') → wpList Tryd.prog ops Q rest a w') : wpList Tryd.prog ops Q (o :: rest) a W := by
  obtain ⟨u, hu⟩ := h.P.celln j hj
  have hf := blk_frozen h.P j
  have hrun : (execOp a.eval o).run Tryd.prog W = .ok .skip (W.setCell ⟨pb, j, none⟩ (.bool n)) := by
    unfold execOp
    simp only [ho, hx, hy]
    go_simp
  refine store_event hgd ho hN hrun ?_
  rintro w' rfl
  exact k _ (Lib.hid (h.put j _ p' v (by rw [List.setIfInBounds_toArray, hc])))
theorem GS.stS (h : GS w wd rb ob pb p v l b W) (j : Nat) (A : Option Addr) (L c : Nat) (p' : Pk) (hgd : o.guard = none) {x : Tmp} {y : Operand} (ho : o.op = .store 22 (.tmp x) y) (hN : o.dst = none)
    (hx : a.eval (.tmp x) = .pointer (some ⟨pb, j, none⟩)) (hy : a.eval y = .slice A L c) (hj : j < 20) (hc : (pkC p v).set j (.slice A L c) = pkC p' (.slice A L c))
    (k : ∀ w' : World, Hid (GS w wd rb ob pb p' (.slice A L c) l b w') → Only W w' pb → wpList Tryd.prog ops Q rest a w') : wpList Tryd.prog ops Q (o :: rest) a W := by
  obtain ⟨u, hu⟩ := h.P.celln j hj
  have hf := blk_frozen h.P j
  have hrun : (execOp a.eval o).run Tryd.prog W = .ok .skip (W.setCell ⟨pb, j, none⟩ (.slice A L c)) := by
    unfold execOp
    simp only [ho, hx, hy]
    go_simp
  refine store_event hgd ho hN hrun ?_
  rintro w' rfl
  exact k _ (Lib.hid (h.put j _ p' _ (by rw [List.setIfInBounds_toArray, hc]))) (Only.set _ _ _ _)
end
theorem wp_ldpk_want {ops : Array Oper} {rest : List Oper} {o : Oper} {a : Act} {Q : Exit → Act → World → Prop} {W : World} {p : Pk} {v : Value} {g : Nat} (hw : Region.wanted o (yielded ops a.tmps) = true) (x : Operand) (ho : o.op = .load 26 x) (hx : a.eval x = .pointer (some ⟨g, 0, none⟩)) (h : PkAt W g p v)
    (k : wpList Tryd.prog ops Q rest (a.put o.dst (pkV p v)) W) : wpList Tryd.prog ops Q (o :: rest) a W := by
  have hrun : (execOp a.eval o).run Tryd.prog W = .ok (.value (pkV p v)) W := by
    unfold execOp
    simp only [ho, hx, Instr.loadAt, Instr.sureAddr, Sem.run_bind, Sem.run_pure, Result.andThen_ok, h.load]
  refine wpList_step fun K hK => ?_
  rw [if_pos hw]
  unfold Oper.wp
  rw [hrun]
  exact hK _ _ k
theorem GS.below {w wd : World} {rb ob pb : Nat} {p : Pk} {v : Value} {l : List Int} {b : Bool} {W W' : World} (h : GS w wd rb ob pb p v l b W) (hb : Below W.heap.size W W') : GS w wd rb ob pb p v l b W' :=
  ⟨h.B0.trans (hb.mono h.B0.size), h.B2.trans (hb.mono h.B2.size), h.R.below hb, h.P.below hb, h.O.below hb, h.h1, h.h2, h.h3, h.h4, h.h5⟩
theorem OB.only {B : Nat} {w w' : World} {v u : Value} {l : List Int} {g : Nat} {p : Pk} (h : OB B w v l) (hO : Only w w' g) (hg : PkAt w g p u) : OB B w' v l := h.keep (fun b cur e hc => hO.block b (fun e2 => by
  subst e2
  unfold PkAt at hg
  rw [hc] at hg
  cases hg))
theorem nx2_bd {l : List Int} (h : ∀ x ∈ l, 0 ≤ x ∧ x < 256) : 0 ≤ nxtV l 2 ∧ nxtV l 2 < 65536 := by
  unfold nxtV
  split
  · omega
  · exact numI_bd 2 l h (by omega)
theorem Off.nx2 {w0 w : World} {g : Nat} {l : List Int} {b : Bool} (h : Off w0 w g l b) : 0 ≤ nxtV l 2 ∧ nxtV l 2 < 65536 := by
  obtain ⟨A, c, _, h2, _⟩ := h
  exact nx2_bd h2.lt
theorem esis_eq {q : Int} (h : 0 ≤ q ∧ q < 65536) : wrap64 (q + 1) = q + 1 := w64 ⟨by omega, by omega⟩
theorem GS.bad {w wd : World} {rb ob pb : Nat} {p : Pk} {v : Value} {l : List Int} {b : Bool} {W : World} (h : GS w wd rb ob pb p v l b W) (x : Bool) : GS w wd rb ob pb p v l x (W.setCell ⟨ob, 1, none⟩ (.bool x)) := by
  have a1 := h.h1; have a2 := h.h2; have a3 := h.h3; have a4 := h.h4; have a5 := h.h5
  refine ⟨(Only.set W ob 1 _).below h.B0 (by omega), (Only.set W ob 1 _).below h.B2 (by omega), blk_far h.R (p := ⟨ob, 1, none⟩) (show rb ≠ ob by omega) _, blk_far h.P (p := ⟨ob, 1, none⟩) (show pb ≠ ob by omega) _, ?_, a1, a2, a3, a4, a5⟩
  obtain ⟨A, c, h1, h2, h3⟩ := h.O
  refine ⟨A, c, ?_, h2, h3⟩
  simpa using blk_set h1 1 (.bool x)
theorem GS.offc {w wd : World} {rb ob pb : Nat} {p : Pk} {v : Value} {l : List Int} {b : Bool} {W : World} (h : GS w wd rb ob pb p v l b W) : ∃ A c, W.cell? ⟨ob, 0, none⟩ = some (.slice A l.length c) ∧ W.cell? ⟨ob, 1, none⟩ = some (.bool b) ∧ W.heap[ob]? = some (.cells #[.slice A l.length c, .bool b] 63 (0, 0)) := by
  obtain ⟨A, c, h1, _, _⟩ := h.O
  exact ⟨A, c, (blk_cell h1 0).trans rfl, (blk_cell h1 1).trans rfl, h1⟩
end Go.Proofs.YtfcofokbhhnfkaaDoor.Byt
