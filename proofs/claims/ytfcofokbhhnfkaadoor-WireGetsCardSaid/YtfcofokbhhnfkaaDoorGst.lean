/- The state on the way through wire.Get; boxes of packets made, stored whole and by cells. -/
import Derived.Test.YtfcofokbhhnfkaaDoorNxt
import Derived.Test.YtfcofokbhhnfkaaDoorWhc
import Derived.Deep.OwnRows
namespace Go.Proofs.YtfcofokbhhnfkaaDoor.Byt
set_option linter.unusedSimpArgs false
set_option linter.unusedVariables false
open Go.RowKit Go.Deep Go.Proofs.YtfcofokbhhnfkaaDoor.Er Go.Proofs.YtfcofokbhhnfkaaDoorW.PrintWords Go.Proofs.YtfcofokbhhnfkaaDoorW.PrintLast Go.Proofs.YtfcofokbhhnfkaaDoorW.PrintMore
theorem wp_allocPk {ops : Array Oper} {rest : List Oper} {o : Oper} {a : Act} {Q : Exit → Act → World → Prop} {W : World} (hgd : o.guard = none) (ho : o.op = .alloc 26)
    (k : ∀ w1, PkAt w1 W.heap.size pk0 (.slice none 0 0) → Below W.heap.size W w1 → w1.heap.size = W.heap.size + 1 → wpList Tryd.prog ops Q rest (a.put o.dst (.pointer (some ⟨W.heap.size, 0, none⟩))) w1) : wpList Tryd.prog ops Q (o :: rest) a W := by
  have hrun : (execOp a.eval o).run Tryd.prog W = .ok (.value (.pointer (some ⟨W.heap.size, 0, none⟩))) (W.alloc (.cells (pkC pk0 (.slice none 0 0)).toArray 26 (0, 0))) := by
    unfold execOp
    simp only [ho, pkC, pk0]
    first | (go_simp; done) | (go_simp; rfl)
  refine Kd.event_run hgd hrun (k _ (blk_new W _) (below_alloc (Below.refl _ _) _) (by simp))
theorem pkC_one (p : Pk) (A : Option Addr) (L c : Nat) : ∀ q ∈ pkC p (.slice A L c), q.oneCell' = true := by
  intro q hq
  simp only [pkC, List.mem_cons, List.not_mem_nil, or_false] at hq
  rcases hq with rfl | rfl | rfl | rfl | rfl | rfl | rfl | rfl | rfl | rfl | rfl | rfl | rfl | rfl | rfl | rfl | rfl | rfl | rfl | rfl <;> rfl
theorem wp_stpk {ops : Array Oper} {rest : List Oper} {o : Oper} {a : Act} {Q : Exit → Act → World → Prop} {W : World} {g : Nat} {p0 p : Pk} {v0 : Value} {A : Option Addr} {L c : Nat} (hgd : o.guard = none) {x : Tmp} {y : Operand} (ho : o.op = .store 26 (.tmp x) y) (hN : o.dst = none)
    (hx : a.eval (.tmp x) = .pointer (some ⟨g, 0, none⟩)) (hg : PkAt W g p0 v0) (hy : a.eval y = pkV p (.slice A L c))
    (h : ∀ w' : World, PkAt w' g p (.slice A L c) → Only W w' g → wpList Tryd.prog ops Q rest a w') : wpList Tryd.prog ops Q (o :: rest) a W := by
  have hrun : (execOp a.eval o).run Tryd.prog W = .ok .skip (W.setCells g 0 (pkC p (.slice A L c))) := by
    have := run_store_run (P := Tryd.prog) 26 (pkV p (.slice A L c)) (pkC p (.slice A L c)) hg rfl (by kernel_rfl) (by simp [pkC]) (pkC_one p A L c) (o := 0)
    unfold execOp
    simp only [ho, hx, hy, Sem.run_bind, this, Result.andThen_ok, Sem.run_pure]
  refine store_event hgd ho hN hrun ?_
  rintro w' rfl
  obtain ⟨s1, s2, s3, s4⟩ := setCells_same g (pkC p (.slice A L c)) 0 W
  refine h _ ?_ ⟨s1, s2, s3, s4, fun k hk => setCells_far _ _ k hk⟩
  obtain ⟨cur, c1, c2, c3⟩ := setCells_row (pkC p (.slice A L c)) 0 W _ hg (by simp [pkC])
  unfold PkAt
  rw [c1]
  have hd : (pkC p0 v0).toArray.toList.drop (0 + (pkC p (.slice A L c)).length) = [] := List.drop_eq_nil_of_le (by simp [pkC])
  rw [hd, List.take_zero, List.nil_append, List.append_nil] at c3
  rw [show cur = (pkC p (.slice A L c)).toArray from Array.toList_inj.1 c3]
theorem ErC_only {w w' : World} {g : Nat} {p : Pk} {u : Value} (hO : Only w w' g) (hg : PkAt w g p u) : ∀ (cs : List ByteArray) (v : Value) (n : Int), ErC w cs v n → ErC w' cs v n
  | [], _, _, h => h
  | c :: cs, v, n, h => by
    obtain ⟨b, inner, e, hc, hr⟩ := h
    have hne : b ≠ g := by
      intro e2
      subst e2
      unfold PkAt at hg
      rw [hc] at hg
      cases hg
    exact ⟨b, inner, e, (hO.block b hne).trans hc, ErC_only hO hg cs inner n hr⟩
theorem ErR_only {w w' : World} {g : Nat} {p : Pk} {u v : Value} {t : Option Er} (hO : Only w w' g) (hg : PkAt w g p u) (h : ErR w v t) : ErR w' v t := by
  cases t with
  | none => exact h
  | some y => exact ⟨h.1, ErC_only hO hg y.1 v y.2 h.2⟩
/-- What is known on the way: the result's box rb, the taker-off ob, the packet's box pb. -/
structure GS (w wd : World) (rb ob pb : Nat) (p : Pk) (v : Value) (l : List Int) (b : Bool) (W : World) : Prop where
  B0 : Below w.heap.size w W
  B2 : Below wd.heap.size wd W
  R : PkAt W rb pk0 (.slice none 0 0)
  P : PkAt W pb p v
  O : Off wd W ob l b
  h1 : w.heap.size ≤ rb
  h2 : rb < wd.heap.size
  h3 : wd.heap.size ≤ ob
  h4 : ob < pb
  h5 : w.heap.size ≤ wd.heap.size
theorem Off.far {w2 W : World} {ob pb j : Nat} {l : List Int} {b : Bool} (h : Off w2 W ob l b) (hne : ob ≠ pb) (u : Value) : Off w2 (W.setCell ⟨pb, j, none⟩ u) ob l b := by
  obtain ⟨A, c, h1, h2, h3⟩ := h
  exact ⟨A, c, blk_far h1 (p := ⟨pb, j, none⟩) hne u, h2, h3⟩
theorem GS.next {w wd : World} {rb ob pb : Nat} {p : Pk} {v : Value} {l : List Int} {b : Bool} {W : World} (h : GS w wd rb ob pb p v l b W) (s : Nat) (hs : s ≤ 7) :
    Calls Tryd.prog 31 #[.pointer (some ⟨ob, 0, none⟩), .int .i64 (s : Int)] W fun e W' => e = .returned (.int .i64 (nxtV l s)) ∧ GS w wd rb ob pb p v (nxtL l s) (nxtB l b s) W' := by
  have a1 := h.h1; have a2 := h.h2; have a3 := h.h3; have a4 := h.h4; have a5 := h.h5
  refine (next_calls ob s l b wd W h.O h.B2 h.h3 hs).mono ?_
  rintro e W' ⟨rfl, hO, hOn⟩
  exact ⟨rfl, hOn.below h.B0 (by omega), hOn.below h.B2 a3, (hOn.block _ (by omega)).trans h.R, (hOn.block _ (by omega)).trans h.P, hO, a1, a2, a3, a4, a5⟩
theorem GS.put {w wd : World} {rb ob pb : Nat} {p : Pk} {v : Value} {l : List Int} {b : Bool} {W : World} (h : GS w wd rb ob pb p v l b W) (j : Nat) (u : Value) (p' : Pk) (v' : Value) (hc : (pkC p v).toArray.setIfInBounds j u = (pkC p' v').toArray) :
    GS w wd rb ob pb p' v' l b (W.setCell ⟨pb, j, none⟩ u) := by
  have a1 := h.h1; have a2 := h.h2; have a3 := h.h3; have a4 := h.h4; have a5 := h.h5
  refine ⟨(Only.set W pb j u).below h.B0 (by omega), (Only.set W pb j u).below h.B2 (by omega), blk_far h.R (p := ⟨pb, j, none⟩) (show rb ≠ pb by omega) u, ?_, h.O.far (by omega) u, a1, a2, a3, a4, a5⟩
  have := blk_set h.P j u
  rw [hc] at this
  exact this
/-- The same, ahead of the packet's box. -/
structure GS0 (w wd : World) (rb ob : Nat) (l : List Int) (b : Bool) (W : World) : Prop where
  B0 : Below w.heap.size w W
  B2 : Below wd.heap.size wd W
  R : PkAt W rb pk0 (.slice none 0 0)
  O : Off wd W ob l b
  h1 : w.heap.size ≤ rb
  h2 : rb < wd.heap.size
  h3 : wd.heap.size ≤ ob
  h5 : w.heap.size ≤ wd.heap.size
theorem GS0.next {w wd : World} {rb ob : Nat} {l : List Int} {b : Bool} {W : World} (h : GS0 w wd rb ob l b W) (s : Nat) (hs : s ≤ 7) :
    Calls Tryd.prog 31 #[.pointer (some ⟨ob, 0, none⟩), .int .i64 (s : Int)] W fun e W' => e = .returned (.int .i64 (nxtV l s)) ∧ GS0 w wd rb ob (nxtL l s) (nxtB l b s) W' := by
  have a1 := h.h1; have a2 := h.h2; have a3 := h.h3; have a5 := h.h5
  refine (next_calls ob s l b wd W h.O h.B2 h.h3 hs).mono ?_
  rintro e W' ⟨rfl, hO, hOn⟩
  exact ⟨rfl, hOn.below h.B0 (by omega), hOn.below h.B2 a3, (hOn.block _ (by omega)).trans h.R, hO, a1, a2, a3, a5⟩
theorem Off.lt {wd W : World} {ob : Nat} {l : List Int} {b : Bool} (h : Off wd W ob l b) : ob < W.heap.size := by
  obtain ⟨A, c, h1, _⟩ := h
  exact lt_of h1
theorem Off.below {wd W W' : World} {ob : Nat} {l : List Int} {b : Bool} (h : Off wd W ob l b) (hb : Below W.heap.size W W') : Off wd W' ob l b := by
  obtain ⟨A, c, h1, h2, h3⟩ := h
  exact ⟨A, c, (hb.block _ (lt_of h1)).trans h1, h2, h3⟩
theorem GS0.box {w wd : World} {rb ob pb : Nat} {l : List Int} {b : Bool} {W W1 W' : World} {p : Pk} {v : Value} (h : GS0 w wd rb ob l b W) (hpb : pb = W.heap.size) (hb : Below W.heap.size W W1) (hs : W1.heap.size = W.heap.size + 1) (ho : Only W1 W' pb) (hp : PkAt W' pb p v) : GS w wd rb ob pb p v l b W' := by
  have a1 := h.h1; have a2 := h.h2; have a3 := h.h3; have a5 := h.h5
  have a4 := h.O.lt
  have hW := h.B0.size
  have hb' : Below W.heap.size W W' := ho.below hb (by omega)
  exact ⟨h.B0.trans (hb'.mono hW), h.B2.trans (hb'.mono h.B2.size), h.R.below hb', hp, h.O.below hb', a1, a2, a3, by omega, a5⟩
end Go.Proofs.YtfcofokbhhnfkaaDoor.Byt
