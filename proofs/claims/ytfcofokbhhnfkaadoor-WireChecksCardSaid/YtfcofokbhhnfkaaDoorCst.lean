/- A packet on the way: the result's box and the packet's own; cells and a plan stored. Conditions: none. -/
import Derived.Test.YtfcofokbhhnfkaaDoorRck
namespace Go.Proofs.YtfcofokbhhnfkaaDoor.Byt
set_option linter.unusedSimpArgs false
set_option linter.unusedVariables false
open Go.RowKit Go.Deep Go.Proofs.YtfcofokbhhnfkaaDoor.Er Go.Proofs.YtfcofokbhhnfkaaDoorW.PrintWords Go.Proofs.YtfcofokbhhnfkaaDoorW.PrintLast Go.Proofs.YtfcofokbhhnfkaaDoorW.PrintMore
structure CS (w : World) (rb pb : Nat) (q : Pk) (v : Value) (W : World) : Prop where
  R : PkAt W rb pk0 (.slice none 0 0)
  Q : PkAt W pb q v
  B : Below w.heap.size w W
  h1 : w.heap.size ≤ rb
  h2 : rb < pb
theorem CS.below {w : World} {rb pb : Nat} {q : Pk} {v : Value} {W W' : World} (h : CS w rb pb q v W) (hb : Below W.heap.size W W') : CS w rb pb q v W' := ⟨h.R.below hb, h.Q.below hb, h.B.trans (hb.mono h.B.size), h.h1, h.h2⟩
theorem CS.put {w : World} {rb pb : Nat} {q : Pk} {v : Value} {W : World} (h : CS w rb pb q v W) (j : Nat) (u : Value) (q' : Pk) (v' : Value) (hc : (pkC q v).set j u = pkC q' v') : CS w rb pb q' v' (W.setCell ⟨pb, j, none⟩ u) := by
  have a1 := h.h1; have a2 := h.h2
  refine ⟨blk_far h.R (p := ⟨pb, j, none⟩) (show rb ≠ pb by omega) u, ?_, (Only.set W pb j u).below h.B (by omega), a1, a2⟩
  have := blk_set h.Q j u
  rw [List.setIfInBounds_toArray, hc] at this
  exact this
theorem CS.box {w W W1 W' : World} {rb pb : Nat} {q : Pk} {v : Value} (hR : PkAt W rb pk0 (.slice none 0 0)) (hB : Below w.heap.size w W) (h1 : w.heap.size ≤ rb) (hpb : pb = W.heap.size) (hb : Below W.heap.size W W1) (ho : Only W1 W' pb) (hp : PkAt W' pb q v) : CS w rb pb q v W' := by
  have hlt := lt_of hR
  have hW := hB.size
  have hb' : Below W.heap.size W W' := ho.below hb (by omega)
  exact ⟨hR.below hb', hp, hB.trans (hb'.mono hW), h1, by omega⟩
theorem CS.stPl {w : World} {rb pb : Nat} {q : Pk} {v : Value} {W : World} (h : CS w rb pb q v W) {ops : Array Oper} {rest : List Oper} {o : Oper} {a : Act} {Q : Exit → Act → World → Prop} (size sym blocks long short : Int) (hgd : o.guard = none) {x : Tmp} {y : Operand} (ho : o.op = .store 24 (.tmp x) y) (hN : o.dst = none)
    (hx : a.eval (.tmp x) = .pointer (some ⟨pb, 11, none⟩)) (hy : a.eval y = planV size sym blocks long short)
    (k : ∀ w' : World, Hid (CS w rb pb { q with size := size, sym := sym, blocks := blocks, long := long, short := short } v w') → wpList Tryd.prog ops Q rest a w') : wpList Tryd.prog ops Q (o :: rest) a W := by
  have hrun : (execOp a.eval o).run Tryd.prog W = .ok .skip (W.setCells pb 11 [.int .i64 size, .int .i64 sym, .int .i64 blocks, .int .i64 long, .int .i64 short]) := by
    have := run_store_run (P := Tryd.prog) 24 (planV size sym blocks long short) [.int .i64 size, .int .i64 sym, .int .i64 blocks, .int .i64 long, .int .i64 short] h.Q rfl (by kernel_rfl) (by simp [pkC]) (by intro z hz; simp at hz; rcases hz with rfl | rfl | rfl | rfl | rfl <;> rfl) (o := 11)
    unfold execOp
    simp only [ho, hx, hy, Sem.run_bind, this, Result.andThen_ok, Sem.run_pure]
  refine store_event hgd ho hN hrun ?_
  rintro w' rfl
  obtain ⟨s1, s2, s3, s4⟩ := setCells_same pb [.int .i64 size, .int .i64 sym, .int .i64 blocks, .int .i64 long, .int .i64 short] 11 W
  have hO : Only W (W.setCells pb 11 [.int .i64 size, .int .i64 sym, .int .i64 blocks, .int .i64 long, .int .i64 short]) pb := ⟨s1, s2, s3, s4, fun k hk => setCells_far _ _ k hk⟩
  have a1 := h.h1; have a2 := h.h2
  refine k _ (Lib.hid ⟨h.R.only hO (by omega), ?_, hO.below h.B (by omega), a1, a2⟩)
  obtain ⟨cur, c1, c2, c3⟩ := setCells_row [.int .i64 size, .int .i64 sym, .int .i64 blocks, .int .i64 long, .int .i64 short] 11 W _ h.Q (by simp [pkC])
  unfold PkAt
  rw [c1]
  rw [show cur = (pkC { q with size := size, sym := sym, blocks := blocks, long := long, short := short } v).toArray from Array.toList_inj.1 (c3.trans rfl)]
/-- A packet with what its kind has alone. -/
def bareP (p : Pk) : Pk := if p.kind = 1 then { pk0 with kind := p.kind, sess := p.sess, layer := p.layer, tick := p.tick, burst := p.burst, sync := p.sync, many := p.many, place := p.place, block := p.block, esi := p.esi, data := p.data } else { pk0 with kind := p.kind, sess := p.sess, layer := p.layer, tick := p.tick, size := p.size, sym := p.sym, blocks := p.blocks, long := p.long, short := p.short, layers := p.layers, esis := p.esis, base := p.base, len := p.len }
def bareV (p : Pk) (u : Value) : Value := if p.kind = 1 then u else .slice none 0 0
end Go.Proofs.YtfcofokbhhnfkaaDoor.Byt
