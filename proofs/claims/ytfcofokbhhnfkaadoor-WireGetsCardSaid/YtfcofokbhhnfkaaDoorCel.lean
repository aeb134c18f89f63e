/- Small words for the printed texts: what a box's cells read, all at once. -/
import Derived.Test.YtfcofokbhhnfkaaDoorProg
import Derived.Test.YtfcofokbhhnfkaaDoorWWords
import Derived.Laws.Rows
import Derived.KernelRfl
import Derived.WalkKit
namespace Go.Proofs.YtfcofokbhhnfkaaDoor.Wire
open Go.RowKit Go.Proofs.YtfcofokbhhnfkaaDoorW.PrintWords
theorem cell2 {w : World} {g t : Nat} {x0 x1 : Value} (h : w.heap[g]? = some (.cells #[x0, x1] t (0, 0))) : w.cell? ⟨g, 0, none⟩ = some x0 ∧ w.cell? ⟨g, 1, none⟩ = some x1 := ⟨(blk_cell h 0).trans rfl, (blk_cell h 1).trans rfl⟩
theorem cell2f {w : World} {g t : Nat} {x0 x1 : Value} (h : w.heap[g]? = some (.cells #[x0, x1] t (0, 0))) : w.cell? ⟨g, 0, none⟩ = some x0 ∧ w.cell? ⟨g, 1, none⟩ = some x1 ∧ w.frozen? ⟨g, 0, none⟩ = false ∧ w.frozen? ⟨g, 1, none⟩ = false := ⟨(blk_cell h 0).trans rfl, (blk_cell h 1).trans rfl, blk_frozen h 0, blk_frozen h 1⟩
theorem cell4 {w : World} {g t : Nat} {x0 x1 x2 x3 : Value} (h : w.heap[g]? = some (.cells #[x0, x1, x2, x3] t (0, 0))) : w.cell? ⟨g, 0, none⟩ = some x0 ∧ w.cell? ⟨g, 1, none⟩ = some x1 ∧ w.cell? ⟨g, 2, none⟩ = some x2 ∧ w.cell? ⟨g, 3, none⟩ = some x3 := ⟨(blk_cell h 0).trans rfl, (blk_cell h 1).trans rfl, (blk_cell h 2).trans rfl, (blk_cell h 3).trans rfl⟩
theorem cell4f {w : World} {g t : Nat} {x0 x1 x2 x3 : Value} (h : w.heap[g]? = some (.cells #[x0, x1, x2, x3] t (0, 0))) : w.cell? ⟨g, 0, none⟩ = some x0 ∧ w.cell? ⟨g, 1, none⟩ = some x1 ∧ w.cell? ⟨g, 2, none⟩ = some x2 ∧ w.cell? ⟨g, 3, none⟩ = some x3 ∧ w.frozen? ⟨g, 0, none⟩ = false ∧ w.frozen? ⟨g, 1, none⟩ = false ∧ w.frozen? ⟨g, 2, none⟩ = false ∧ w.frozen? ⟨g, 3, none⟩ = false := ⟨(blk_cell h 0).trans rfl, (blk_cell h 1).trans rfl, (blk_cell h 2).trans rfl, (blk_cell h 3).trans rfl, blk_frozen h 0, blk_frozen h 1, blk_frozen h 2, blk_frozen h 3⟩
theorem cell5 {w : World} {g t : Nat} {x0 x1 x2 x3 x4 : Value} (h : w.heap[g]? = some (.cells #[x0, x1, x2, x3, x4] t (0, 0))) : w.cell? ⟨g, 0, none⟩ = some x0 ∧ w.cell? ⟨g, 1, none⟩ = some x1 ∧ w.cell? ⟨g, 2, none⟩ = some x2 ∧ w.cell? ⟨g, 3, none⟩ = some x3 ∧ w.cell? ⟨g, 4, none⟩ = some x4 := ⟨(blk_cell h 0).trans rfl, (blk_cell h 1).trans rfl, (blk_cell h 2).trans rfl, (blk_cell h 3).trans rfl, (blk_cell h 4).trans rfl⟩
theorem cell5f {w : World} {g t : Nat} {x0 x1 x2 x3 x4 : Value} (h : w.heap[g]? = some (.cells #[x0, x1, x2, x3, x4] t (0, 0))) : w.cell? ⟨g, 0, none⟩ = some x0 ∧ w.cell? ⟨g, 1, none⟩ = some x1 ∧ w.cell? ⟨g, 2, none⟩ = some x2 ∧ w.cell? ⟨g, 3, none⟩ = some x3 ∧ w.cell? ⟨g, 4, none⟩ = some x4 ∧ w.frozen? ⟨g, 0, none⟩ = false ∧ w.frozen? ⟨g, 1, none⟩ = false ∧ w.frozen? ⟨g, 2, none⟩ = false ∧ w.frozen? ⟨g, 3, none⟩ = false ∧ w.frozen? ⟨g, 4, none⟩ = false := ⟨(blk_cell h 0).trans rfl, (blk_cell h 1).trans rfl, (blk_cell h 2).trans rfl, (blk_cell h 3).trans rfl, (blk_cell h 4).trans rfl, blk_frozen h 0, blk_frozen h 1, blk_frozen h 2, blk_frozen h 3, blk_frozen h 4⟩
theorem cell20 {w : World} {g t : Nat} {x0 x1 x2 x3 x4 x5 x6 x7 x8 x9 x10 x11 x12 x13 x14 x15 x16 x17 x18 x19 : Value} (h : w.heap[g]? = some (.cells #[x0, x1, x2, x3, x4, x5, x6, x7, x8, x9, x10, x11, x12, x13, x14, x15, x16, x17, x18, x19] t (0, 0))) : w.cell? ⟨g, 0, none⟩ = some x0 ∧ w.cell? ⟨g, 1, none⟩ = some x1 ∧ w.cell? ⟨g, 2, none⟩ = some x2 ∧ w.cell? ⟨g, 3, none⟩ = some x3 ∧ w.cell? ⟨g, 4, none⟩ = some x4 ∧ w.cell? ⟨g, 5, none⟩ = some x5 ∧ w.cell? ⟨g, 6, none⟩ = some x6 ∧ w.cell? ⟨g, 7, none⟩ = some x7 ∧ w.cell? ⟨g, 8, none⟩ = some x8 ∧ w.cell? ⟨g, 9, none⟩ = some x9 ∧ w.cell? ⟨g, 10, none⟩ = some x10 ∧ w.cell? ⟨g, 11, none⟩ = some x11 ∧ w.cell? ⟨g, 12, none⟩ = some x12 ∧ w.cell? ⟨g, 13, none⟩ = some x13 ∧ w.cell? ⟨g, 14, none⟩ = some x14 ∧ w.cell? ⟨g, 15, none⟩ = some x15 ∧ w.cell? ⟨g, 16, none⟩ = some x16 ∧ w.cell? ⟨g, 17, none⟩ = some x17 ∧ w.cell? ⟨g, 18, none⟩ = some x18 ∧ w.cell? ⟨g, 19, none⟩ = some x19 := ⟨(blk_cell h 0).trans rfl, (blk_cell h 1).trans rfl, (blk_cell h 2).trans rfl, (blk_cell h 3).trans rfl, (blk_cell h 4).trans rfl, (blk_cell h 5).trans rfl, (blk_cell h 6).trans rfl, (blk_cell h 7).trans rfl, (blk_cell h 8).trans rfl, (blk_cell h 9).trans rfl, (blk_cell h 10).trans rfl, (blk_cell h 11).trans rfl, (blk_cell h 12).trans rfl, (blk_cell h 13).trans rfl, (blk_cell h 14).trans rfl, (blk_cell h 15).trans rfl, (blk_cell h 16).trans rfl, (blk_cell h 17).trans rfl, (blk_cell h 18).trans rfl, (blk_cell h 19).trans rfl⟩
theorem cell20f {w : World} {g t : Nat} {x0 x1 x2 x3 x4 x5 x6 x7 x8 x9 x10 x11 x12 x13 x14 x15 x16 x17 x18 x19 : Value} (h : w.heap[g]? = some (.cells #[x0, x1, x2, x3, x4, x5, x6, x7, x8, x9, x10, x11, x12, x13, x14, x15, x16, x17, x18, x19] t (0, 0))) : w.cell? ⟨g, 0, none⟩ = some x0 ∧ w.cell? ⟨g, 1, none⟩ = some x1 ∧ w.cell? ⟨g, 2, none⟩ = some x2 ∧ w.cell? ⟨g, 3, none⟩ = some x3 ∧ w.cell? ⟨g, 4, none⟩ = some x4 ∧ w.cell? ⟨g, 5, none⟩ = some x5 ∧ w.cell? ⟨g, 6, none⟩ = some x6 ∧ w.cell? ⟨g, 7, none⟩ = some x7 ∧ w.cell? ⟨g, 8, none⟩ = some x8 ∧ w.cell? ⟨g, 9, none⟩ = some x9 ∧ w.cell? ⟨g, 10, none⟩ = some x10 ∧ w.cell? ⟨g, 11, none⟩ = some x11 ∧ w.cell? ⟨g, 12, none⟩ = some x12 ∧ w.cell? ⟨g, 13, none⟩ = some x13 ∧ w.cell? ⟨g, 14, none⟩ = some x14 ∧ w.cell? ⟨g, 15, none⟩ = some x15 ∧ w.cell? ⟨g, 16, none⟩ = some x16 ∧ w.cell? ⟨g, 17, none⟩ = some x17 ∧ w.cell? ⟨g, 18, none⟩ = some x18 ∧ w.cell? ⟨g, 19, none⟩ = some x19 ∧ w.frozen? ⟨g, 0, none⟩ = false ∧ w.frozen? ⟨g, 1, none⟩ = false ∧ w.frozen? ⟨g, 2, none⟩ = false ∧ w.frozen? ⟨g, 3, none⟩ = false ∧ w.frozen? ⟨g, 4, none⟩ = false ∧ w.frozen? ⟨g, 5, none⟩ = false ∧ w.frozen? ⟨g, 6, none⟩ = false ∧ w.frozen? ⟨g, 7, none⟩ = false ∧ w.frozen? ⟨g, 8, none⟩ = false ∧ w.frozen? ⟨g, 9, none⟩ = false ∧ w.frozen? ⟨g, 10, none⟩ = false ∧ w.frozen? ⟨g, 11, none⟩ = false ∧ w.frozen? ⟨g, 12, none⟩ = false ∧ w.frozen? ⟨g, 13, none⟩ = false ∧ w.frozen? ⟨g, 14, none⟩ = false ∧ w.frozen? ⟨g, 15, none⟩ = false ∧ w.frozen? ⟨g, 16, none⟩ = false ∧ w.frozen? ⟨g, 17, none⟩ = false ∧ w.frozen? ⟨g, 18, none⟩ = false ∧ w.frozen? ⟨g, 19, none⟩ = false := ⟨(blk_cell h 0).trans rfl, (blk_cell h 1).trans rfl, (blk_cell h 2).trans rfl, (blk_cell h 3).trans rfl, (blk_cell h 4).trans rfl, (blk_cell h 5).trans rfl, (blk_cell h 6).trans rfl, (blk_cell h 7).trans rfl, (blk_cell h 8).trans rfl, (blk_cell h 9).trans rfl, (blk_cell h 10).trans rfl, (blk_cell h 11).trans rfl, (blk_cell h 12).trans rfl, (blk_cell h 13).trans rfl, (blk_cell h 14).trans rfl, (blk_cell h 15).trans rfl, (blk_cell h 16).trans rfl, (blk_cell h 17).trans rfl, (blk_cell h 18).trans rfl, (blk_cell h 19).trans rfl, blk_frozen h 0, blk_frozen h 1, blk_frozen h 2, blk_frozen h 3, blk_frozen h 4, blk_frozen h 5, blk_frozen h 6, blk_frozen h 7, blk_frozen h 8, blk_frozen h 9, blk_frozen h 10, blk_frozen h 11, blk_frozen h 12, blk_frozen h 13, blk_frozen h 14, blk_frozen h 15, blk_frozen h 16, blk_frozen h 17, blk_frozen h 18, blk_frozen h 19⟩
theorem gate_ld {P : Program} {ops : Array Oper} {rest : List Oper} {o : Oper} {a : Act} {Q : Exit → Act → World → Prop} {W : World} {t : TypeId} {p : Tmp} (_ho : o.op = .load t (.tmp p)) (h : wpList P ops Q (o :: rest) a W) : wpList P ops Q (o :: rest) a W := h
theorem load20 {w : World} {g : Nat} {x0 x1 x2 x3 x4 x5 x6 x7 x8 x9 x10 x11 x12 x13 x14 x15 x16 x17 x18 x19 : Value} (s0 : w.cell? ⟨g, 0, none⟩ = some x0) (s1 : w.cell? ⟨g, 1, none⟩ = some x1) (s2 : w.cell? ⟨g, 2, none⟩ = some x2) (s3 : w.cell? ⟨g, 3, none⟩ = some x3) (s4 : w.cell? ⟨g, 4, none⟩ = some x4) (s5 : w.cell? ⟨g, 5, none⟩ = some x5) (s6 : w.cell? ⟨g, 6, none⟩ = some x6) (s7 : w.cell? ⟨g, 7, none⟩ = some x7) (s8 : w.cell? ⟨g, 8, none⟩ = some x8) (s9 : w.cell? ⟨g, 9, none⟩ = some x9) (s10 : w.cell? ⟨g, 10, none⟩ = some x10) (s11 : w.cell? ⟨g, 11, none⟩ = some x11) (s12 : w.cell? ⟨g, 12, none⟩ = some x12) (s13 : w.cell? ⟨g, 13, none⟩ = some x13) (s14 : w.cell? ⟨g, 14, none⟩ = some x14) (s15 : w.cell? ⟨g, 15, none⟩ = some x15) (s16 : w.cell? ⟨g, 16, none⟩ = some x16) (s17 : w.cell? ⟨g, 17, none⟩ = some x17) (s18 : w.cell? ⟨g, 18, none⟩ = some x18) (s19 : w.cell? ⟨g, 19, none⟩ = some x19) : (loadVar 26 ⟨g, 0, none⟩).run Tryd.prog w = .ok (.agg #[x0, x1, x2, x3, x4, x5, x6, x7, x8, x9, x10, x11, x12, x13, x14, x15, x16, x17, x18, x19]) w := by
  have hl : (loadCells ⟨g, 0, none⟩ 20).run Tryd.prog w = .ok #[x0, x1, x2, x3, x4, x5, x6, x7, x8, x9, x10, x11, x12, x13, x14, x15, x16, x17, x18, x19] w :=
    run_loadCells_list (P := Tryd.prog) w ⟨g, 0, none⟩ [x0, x1, x2, x3, x4, x5, x6, x7, x8, x9, x10, x11, x12, x13, x14, x15, x16, x17, x18, x19] (fun j v hv => by
      have hadd : (⟨g, 0, none⟩ : Addr).add j = ⟨g, j, none⟩ := by unfold Addr.add; split <;> simp_all
      rw [hadd]
      match j, hv with
      | 0, hv =>
        obtain rfl : x0 = v := by simpa using hv
        exact s0
      | 1, hv =>
        obtain rfl : x1 = v := by simpa using hv
        exact s1
      | 2, hv =>
        obtain rfl : x2 = v := by simpa using hv
        exact s2
      | 3, hv =>
        obtain rfl : x3 = v := by simpa using hv
        exact s3
      | 4, hv =>
        obtain rfl : x4 = v := by simpa using hv
        exact s4
      | 5, hv =>
        obtain rfl : x5 = v := by simpa using hv
        exact s5
      | 6, hv =>
        obtain rfl : x6 = v := by simpa using hv
        exact s6
      | 7, hv =>
        obtain rfl : x7 = v := by simpa using hv
        exact s7
      | 8, hv =>
        obtain rfl : x8 = v := by simpa using hv
        exact s8
      | 9, hv =>
        obtain rfl : x9 = v := by simpa using hv
        exact s9
      | 10, hv =>
        obtain rfl : x10 = v := by simpa using hv
        exact s10
      | 11, hv =>
        obtain rfl : x11 = v := by simpa using hv
        exact s11
      | 12, hv =>
        obtain rfl : x12 = v := by simpa using hv
        exact s12
      | 13, hv =>
        obtain rfl : x13 = v := by simpa using hv
        exact s13
      | 14, hv =>
        obtain rfl : x14 = v := by simpa using hv
        exact s14
      | 15, hv =>
        obtain rfl : x15 = v := by simpa using hv
        exact s15
      | 16, hv =>
        obtain rfl : x16 = v := by simpa using hv
        exact s16
      | 17, hv =>
        obtain rfl : x17 = v := by simpa using hv
        exact s17
      | 18, hv =>
        obtain rfl : x18 = v := by simpa using hv
        exact s18
      | 19, hv =>
        obtain rfl : x19 = v := by simpa using hv
        exact s19
      | j + 20, hv => simp at hv)
  obtain ⟨i, hi, hs⟩ := Option.map_eq_some_iff.1 (show (Tryd.prog.info? 26).map (·.size) = some 20 by kernel_rfl)
  have hagg : (isAgg 26).run Tryd.prog w = .ok true w := by
    unfold isAgg
    rw [Sem.run_bind, run_underlying Tryd.underlying26 w]
    rfl
  simp [loadVar, Sem.run_bind, hagg, sizeOf, typeInfo, hi, hs, hl]
theorem exec20 {w : World} {g : Nat} {x0 x1 x2 x3 x4 x5 x6 x7 x8 x9 x10 x11 x12 x13 x14 x15 x16 x17 x18 x19 : Value} {o : Oper} {x : Operand} {e : Operand → Value} (ho : o.op = .load 26 x) (hx : e x = .pointer (some ⟨g, 0, none⟩)) (s0 : w.cell? ⟨g, 0, none⟩ = some x0) (s1 : w.cell? ⟨g, 1, none⟩ = some x1) (s2 : w.cell? ⟨g, 2, none⟩ = some x2) (s3 : w.cell? ⟨g, 3, none⟩ = some x3) (s4 : w.cell? ⟨g, 4, none⟩ = some x4) (s5 : w.cell? ⟨g, 5, none⟩ = some x5) (s6 : w.cell? ⟨g, 6, none⟩ = some x6) (s7 : w.cell? ⟨g, 7, none⟩ = some x7) (s8 : w.cell? ⟨g, 8, none⟩ = some x8) (s9 : w.cell? ⟨g, 9, none⟩ = some x9) (s10 : w.cell? ⟨g, 10, none⟩ = some x10) (s11 : w.cell? ⟨g, 11, none⟩ = some x11) (s12 : w.cell? ⟨g, 12, none⟩ = some x12) (s13 : w.cell? ⟨g, 13, none⟩ = some x13) (s14 : w.cell? ⟨g, 14, none⟩ = some x14) (s15 : w.cell? ⟨g, 15, none⟩ = some x15) (s16 : w.cell? ⟨g, 16, none⟩ = some x16) (s17 : w.cell? ⟨g, 17, none⟩ = some x17) (s18 : w.cell? ⟨g, 18, none⟩ = some x18) (s19 : w.cell? ⟨g, 19, none⟩ = some x19) : (execOp e o).run Tryd.prog w = .ok (.value (.agg #[x0, x1, x2, x3, x4, x5, x6, x7, x8, x9, x10, x11, x12, x13, x14, x15, x16, x17, x18, x19])) w := by
  have h := load20 s0 s1 s2 s3 s4 s5 s6 s7 s8 s9 s10 s11 s12 s13 s14 s15 s16 s17 s18 s19
  unfold execOp
  simp only [ho, hx, Instr.loadAt, Instr.sureAddr, Sem.run_bind, Sem.run_pure, Result.andThen_ok, h]
end Go.Proofs.YtfcofokbhhnfkaaDoor.Wire
