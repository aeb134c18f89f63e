/- Packets, as values and in a box of 20 cells; which are right, in plain Lean. -/
import Derived.Test.YtfcofokbhhnfkaaDoorTk
import Derived.Test.YtfcofokbhhnfkaaDoorCel
import Derived.Deep.MidRow
namespace Go.Proofs.YtfcofokbhhnfkaaDoor.Byt
set_option linter.unusedSimpArgs false
set_option linter.unusedVariables false
open Go.RowKit Go.Deep Go.Proofs.YtfcofokbhhnfkaaDoor.Er Go.Proofs.YtfcofokbhhnfkaaDoorW.PrintWords Go.Proofs.YtfcofokbhhnfkaaDoorW.PrintLast
/-- A packet, its parts in their order. -/
@[ext] structure Pk where
  kind : Int
  sess : Int
  layer : Int
  tick : Int
  burst : Bool
  sync : Int
  many : Int
  place : Int
  block : Int
  esi : Int
  data : List Int
  size : Int
  sym : Int
  blocks : Int
  long : Int
  short : Int
  layers : Int
  esis : Int
  base : Int
  len : Int
deriving DecidableEq
def pk0 : Pk := ⟨0, 0, 0, 0, false, 0, 0, 0, 0, 0, [], 0, 0, 0, 0, 0, 0, 0, 0, 0⟩
def pkC (p : Pk) (v : Value) : List Value := [.int .i64 p.kind, .int .i64 p.sess, .int .i64 p.layer, .int .i64 p.tick, .bool p.burst, .int .i64 p.sync, .int .i64 p.many, .int .i64 p.place, .int .i64 p.block, .int .i64 p.esi, v, .int .i64 p.size, .int .i64 p.sym, .int .i64 p.blocks, .int .i64 p.long, .int .i64 p.short, .int .i64 p.layers, .int .i64 p.esis, .int .i64 p.base, .int .i64 p.len]
/-- A packet's value; v is where its bytes are. -/
def pkV (p : Pk) (v : Value) : Value := .agg #[.int .i64 p.kind, .int .i64 p.sess, .int .i64 p.layer, .int .i64 p.tick, .bool p.burst, .int .i64 p.sync, .int .i64 p.many, .int .i64 p.place, .int .i64 p.block, .int .i64 p.esi, v, .int .i64 p.size, .int .i64 p.sym, .int .i64 p.blocks, .int .i64 p.long, .int .i64 p.short, .int .i64 p.layers, .int .i64 p.esis, .int .i64 p.base, .int .i64 p.len]
def PkAt (w : World) (g : Nat) (p : Pk) (v : Value) : Prop := w.heap[g]? = some (.cells (pkC p v).toArray 26 (0, 0))
theorem PkAt.below {w w' : World} {g : Nat} {p : Pk} {v : Value} (h : PkAt w g p v) (hb : Below w.heap.size w w') : PkAt w' g p v := (hb.block g (lt_of h)).trans h
theorem wp_box {ops : Array Oper} {rest : List Oper} {o : Oper} {a : Act} {Q : Exit → Act → World → Prop} {W : World} {p : Pk} {v : Value} (hgd : o.guard = none) (x : Operand) (ho : o.op = .box 26 x) (hx : a.eval x = pkV p v) (hv : v.cells = #[v])
    (k : ∀ w1, PkAt w1 W.heap.size p v → Below W.heap.size W w1 → w1.heap.size = W.heap.size + 1 → wpList Tryd.prog ops Q rest (a.put o.dst (.pointer (some ⟨W.heap.size, 0, none⟩))) w1) : wpList Tryd.prog ops Q (o :: rest) a W := by
  have hrun : (execOp a.eval o).run Tryd.prog W = .ok (.value (.pointer (some ⟨W.heap.size, 0, none⟩))) (W.alloc (.cells (pkC p v).toArray 26 (0, 0))) := by
    unfold execOp
    simp only [ho, hx, pkV]
    first | (go_simp; done) | (go_simp; rfl)
  refine Kd.event_run hgd hrun (k _ (blk_new W _) (below_alloc (Below.refl _ _) _) (by simp))
theorem PkAt.load {w : World} {g : Nat} {p : Pk} {v : Value} (h : PkAt w g p v) : (loadVar 26 ⟨g, 0, none⟩).run Tryd.prog w = .ok (pkV p v) w := by
  obtain ⟨s0, s1, s2, s3, s4, s5, s6, s7, s8, s9, s10, s11, s12, s13, s14, s15, s16, s17, s18, s19⟩ := Wire.cell20 (w := w) (g := g) h
  exact Wire.load20 s0 s1 s2 s3 s4 s5 s6 s7 s8 s9 s10 s11 s12 s13 s14 s15 s16 s17 s18 s19
theorem wp_ldpk {ops : Array Oper} {rest : List Oper} {o : Oper} {a : Act} {Q : Exit → Act → World → Prop} {W : World} {p : Pk} {v : Value} {g : Nat} (hgd : o.guard = none) (x : Operand) (ho : o.op = .load 26 x) (hx : a.eval x = .pointer (some ⟨g, 0, none⟩)) (h : PkAt W g p v)
    (k : wpList Tryd.prog ops Q rest (a.put o.dst (pkV p v)) W) : wpList Tryd.prog ops Q (o :: rest) a W := by
  have hrun : (execOp a.eval o).run Tryd.prog W = .ok (.value (pkV p v)) W := by
    unfold execOp
    simp only [ho, hx, Instr.loadAt, Instr.sureAddr, Sem.run_bind, Sem.run_pure, Result.andThen_ok, h.load]
  exact Kd.event_run hgd hrun k
theorem w64 {n : Int} (h : -9223372036854775808 ≤ n ∧ n ≤ 9223372036854775807) : wrap64 n = n := by unfold wrap64; omega
def DataR (p : Pk) : Prop := (-1 ≤ p.sync ∧ p.sync ≤ 7) ∧ (1 ≤ p.many ∧ p.many ≤ 4096) ∧ (0 ≤ p.place ∧ p.place ≤ p.many - 1) ∧ (0 ≤ p.block ∧ p.block ≤ 15) ∧ (0 ≤ p.esi ∧ p.esi ≤ 65535)
def AnnR (p : Pk) : Prop := p.layer = 0 ∧ p.size < 4294967296 ∧ (1 ≤ p.layers ∧ p.layers ≤ 8) ∧ (1 ≤ p.esis ∧ p.esis ≤ 65536) ∧ (2 ≤ p.base ∧ p.base ≤ 4096) ∧ (1 ≤ p.len ∧ p.len ≤ p.base - 1)
def RangeOk (p : Pk) : Prop := (0 ≤ p.sess ∧ p.sess ≤ 65535) ∧ (0 ≤ p.layer ∧ p.layer ≤ 7) ∧ (0 ≤ p.tick ∧ p.tick ≤ 1099511627775) ∧ (p.kind = 1 ∧ DataR p ∨ p.kind = 2 ∧ AnnR p)
instance (p : Pk) : Decidable (DataR p) := by unfold DataR; exact inferInstance
instance (p : Pk) : Decidable (AnnR p) := by unfold AnnR; exact inferInstance
instance (p : Pk) : Decidable (RangeOk p) := by unfold RangeOk; exact inferInstance
/-- How many symbols an object has. -/
def symN (size sym : Int) : Int := if size / sym + (if size % sym > 0 then 1 else 0) < 1 then 1 else size / sym + (if size % sym > 0 then 1 else 0)
/-- A plan that is right. -/
def PlanOk (size sym blocks long short : Int) : Prop := 0 ≤ size ∧ (1 ≤ sym ∧ sym ≤ 64) ∧ (1 ≤ blocks ∧ blocks ≤ 16) ∧ (0 ≤ long ∧ long < blocks) ∧ 1 ≤ short ∧ (if long > 0 then short + 1 else short) ≤ 128 ∧ blocks * short + long = symN size sym
instance (size sym blocks long short : Int) : Decidable (PlanOk size sym blocks long short) := by unfold PlanOk; exact inferInstance
def DataF (p : Pk) : Prop := (1 ≤ p.data.length ∧ p.data.length ≤ 64) ∧ (p.size = 0 ∧ p.sym = 0 ∧ p.blocks = 0 ∧ p.long = 0 ∧ p.short = 0) ∧ p.layers = 0 ∧ p.esis = 0 ∧ p.base = 0 ∧ p.len = 0
def AnnF (p : Pk) : Prop := p.burst = false ∧ p.sync = 0 ∧ p.many = 0 ∧ p.place = 0 ∧ p.block = 0 ∧ p.esi = 0 ∧ p.data = [] ∧ PlanOk p.size p.sym p.blocks p.long p.short
instance (p : Pk) : Decidable (DataF p) := by unfold DataF; exact inferInstance
instance (p : Pk) : Decidable (AnnF p) := by unfold AnnF; exact inferInstance
def whyP (p : Pk) : Int := if RangeOk p then (if p.kind = 1 then (if DataF p then 0 else 2) else (if AnnF p then 0 else 2)) else 1
def planV (size sym blocks long short : Int) : Value := .agg #[.int .i64 size, .int .i64 sym, .int .i64 blocks, .int .i64 long, .int .i64 short]
theorem wp_boxPl {ops : Array Oper} {rest : List Oper} {o : Oper} {a : Act} {Q : Exit → Act → World → Prop} {W : World} {size sym blocks long short : Int} (hgd : o.guard = none) (x : Operand) (ho : o.op = .box 24 x) (hx : a.eval x = planV size sym blocks long short)
    (k : ∀ w1, w1.heap[W.heap.size]? = some (.cells #[.int .i64 size, .int .i64 sym, .int .i64 blocks, .int .i64 long, .int .i64 short] 24 (0, 0)) → Below W.heap.size W w1 → wpList Tryd.prog ops Q rest (a.put o.dst (.pointer (some ⟨W.heap.size, 0, none⟩))) w1) : wpList Tryd.prog ops Q (o :: rest) a W := by
  have hrun : (execOp a.eval o).run Tryd.prog W = .ok (.value (.pointer (some ⟨W.heap.size, 0, none⟩))) (W.alloc (.cells #[.int .i64 size, .int .i64 sym, .int .i64 blocks, .int .i64 long, .int .i64 short] 24 (0, 0))) := by
    unfold execOp
    simp only [ho, hx, planV]
    first | (go_simp; done) | (go_simp; rfl)
  refine Kd.event_run hgd hrun (k _ (blk_new W _) (below_alloc (Below.refl _ _) _))
end Go.Proofs.YtfcofokbhhnfkaaDoor.Byt
