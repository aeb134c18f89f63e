/- A literal's bytes made a []byte of a constant string: the row gets a mark behind its last cell; what is read of it stays. Conditions: none. -/
import Derived.Test.YtdiimfldkbpagaaProg
import Derived.Test.YtdiimfldkbpagaaWWords
import Derived.Test.YtdiimfldkbpagaaWLast
import Derived.Test.YtdiimfldkbpagaaWMore
import Derived.Below
import Derived.RowKit3
import Derived.Lib.SlBytesConst
namespace Go.Proofs.Ytdiimfldkbpagaa.Lit
set_option linter.unusedVariables false
open Go.RowKit Go.Proofs.YtdiimfldkbpagaaW.PrintWords Go.Proofs.YtdiimfldkbpagaaW.PrintLast Go.Proofs.YtdiimfldkbpagaaW.PrintMore
theorem freeze_cell (W : World) (a x : Addr) (n : Nat) : (W.freeze a n).cell? x = W.cell? x := by
  unfold World.freeze
  split
  · rfl
  · unfold World.cell?
    simp only [Array.getElem?_modify]
    by_cases h : a.block = x.block
    · rw [if_pos h]
      cases W.heap[x.block]? with
      | none => rfl
      | some o => cases o <;> rfl
    · rw [if_neg h]
theorem conv_bytes {P : Program} {W : World} {t e : TypeId} {A : Option Addr} {n c base : Nat} {ok : Nat → Prop} {xs : List Int} (ht : P.underlying t = some (.slice e)) (he : P.underlying e = some (.int .u8))
    (h : (Kd.int .u8).R e W base ok (.slice A n c) xs) (hp : 0 < xs.length) :
    ∃ W', (convert t t (.slice A n c)).run P W = .ok (.slice A n c) W' ∧ (Kd.int .u8).C W' A xs.length xs ∧ ∀ B (w : World), B ≤ base → Below B w W → Below B w W' := by
  have hr := (Kd.R_reads' h).2.2
  obtain ⟨g, cap, hv, hg, hl, cells, hcell⟩ := Kd.R_form h hp
  injection hv with hA hn hc
  subst hA
  refine ⟨W.freeze ⟨g, cells.size, none⟩ 1, ?_, ?_, ?_⟩
  · simp [convert, run_underlying ht, run_underlying he, markStringish, World.shape?, hcell]
  · refine ⟨hr.1, hr.2.1, fun h0 => ?_⟩
    obtain ⟨ad, ea, hx⟩ := hr.2.2 h0
    refine ⟨ad, ea, fun j p hj => ?_⟩
    obtain ⟨cs, h1, h2, h3⟩ := hx j p hj
    exact ⟨cs, h1, h2, fun i u hu => (freeze_cell W _ _ _).trans (h3 i u hu)⟩
  · intro B w hB hb
    refine ⟨hb.os, hb.tape, hb.output, ?_, fun k hk => ?_⟩
    · have : (W.freeze ⟨g, cells.size, none⟩ 1).heap.size = W.heap.size := by simp [World.freeze]
      rw [this]; exact hb.size
    · rw [← hb.block k hk]
      have hne : g ≠ k := by omega
      simp [World.freeze, Array.getElem?_modify, hne]
theorem cell_at {W : World} {g k : Nat} {cs : Array Value} {t : TypeId} {fr : Nat × Nat} (h : W.heap[g]? = some (.cells cs t fr)) : W.cell? ⟨g, k, none⟩ = cs[k]? := by
  unfold World.cell?
  show (match W.heap[g]? with | some (.cells c _ _) => if (none : Option _).isSome then none else c[k]? | _ => none) = _
  rw [h]
  rfl
theorem C_two (w : World) (e : Nat) (A B : Option Addr) (c d : Nat) (xs ys : List Int) (t : TypeId) (fr : Nat × Nat) (h1 : (Kd.int .u8).C w A xs.length xs) (h2 : (Kd.int .u8).C w B ys.length ys) (hc : xs.length ≤ c) (hd : ys.length ≤ d) :
    (Kd.slice e (Kd.int .u8)).C (w.alloc (.cells #[.slice A xs.length c, .slice B ys.length d] t fr)) (some ⟨w.heap.size, 0, none⟩) 2 [xs, ys] := by
  have hh : (w.alloc (.cells #[.slice A xs.length c, .slice B ys.length d] t fr)).heap[w.heap.size]? = some (.cells #[.slice A xs.length c, .slice B ys.length d] t fr) := by
    show (w.heap.push _)[w.heap.size]? = _
    simp
  refine ⟨rfl, by omega, fun _ => ⟨_, rfl, fun j p hj => ?_⟩⟩
  match j, hj with
  | 0, hj =>
    obtain rfl : xs = p := by simpa using hj
    refine ⟨[.slice A xs.length c], rfl, ⟨A, c, rfl, hc, Kd.C_alloc h1 _⟩, fun i u hu => ?_⟩
    match i, hu with
    | 0, hu =>
      obtain rfl : Value.slice A xs.length c = u := by simpa using hu
      exact (cell_at (k := 0) hh).trans rfl
  | 1, hj =>
    obtain rfl : ys = p := by simpa using hj
    refine ⟨[.slice B ys.length d], rfl, ⟨B, d, rfl, hd, Kd.C_alloc h2 _⟩, fun i u hu => ?_⟩
    match i, hu with
    | 0, hu =>
      obtain rfl : Value.slice B ys.length d = u := by simpa using hu
      exact (cell_at (k := 1) hh).trans rfl
theorem V_string {P : Program} {w : World} {src dst e e' : TypeId} {base : Nat} {ok : Nat → Prop} {v : Value} {xs : List Int} (hs : P.underlying src = some (.slice e)) (he : P.underlying e = some (.int .u8)) (hd : P.underlying dst = some .string)
    (h : (Kd.int .u8).V e' w base ok v xs) : (convert src dst v).run P w = .ok (.string (strOfNums xs)) w := by
  obtain ⟨A, c, rfl, _⟩ := id h
  exact Kd.C_string hs he hd (Kd.V_reads' h).2.2
theorem R_makecap {α : Type} {P : Program} {ops : Array Oper} {Q : Exit → Act → World → Prop} {rest : List Oper} {o : Oper} {a : Act} (d : Kd α) {w0 W : World} (base e : Nat) (hgd : o.guard = none) {N : Tmp} (hd : o.dst = some N) (t : TypeId) (x y : Operand) (ho : o.op = .makeSlice t x y) (n : Int) (hx : a.eval x = .int .i64 0) (hy : a.eval y = .int .i64 n)
    (ht : P.underlying t = some (.slice e)) (z : Value) (bytes : Nat) (hinfo : (P.info? e).map (fun i => (i.zero, i.size, i.bytes)) = some (some z, d.sz, bytes))
    {ok : Nat → Prop} (hfresh : ok W.heap.size) (h0 : 0 ≤ n) (hl : n.toNat * bytes ≤ 281474976710656) (HB : Below base w0 W) (hbase : base ≤ W.heap.size)
    (h : ∀ v1 w1, d.R e w1 base ok v1 [] → Below base w0 w1 → W.grownBy w1 none → (∃ b, v1.ownBlock = some b ∧ W.heap.size ≤ b) → wpList P ops Q rest (a.put o.dst v1) w1) (hb0 : 0 < bytes := by decide) : wpList P ops Q (o :: rest) a W := by
  obtain ⟨m, rfl⟩ := Int.eq_ofNat_of_zero_le h0
  simp only [Int.toNat_natCast] at hl
  obtain ⟨i0, hi, hzz⟩ := Option.map_eq_some_iff.1 hinfo
  simp only [Prod.mk.injEq] at hzz
  obtain ⟨hz0, hz1, hz2⟩ := hzz
  have hm : m ≤ 281474976710656 := Nat.le_trans (Nat.le_mul_of_pos_right _ hb0) hl
  have hbm : i0.bytes * m ≤ 281474976710656 := by rw [hz2, Nat.mul_comm]; exact hl
  have hmx : m ≤ maxLen := Nat.le_trans hm (by decide)
  have h3 : (i0.bytes : Int) * (m : Int) ≤ 281474976710656 := by
    have h4 : ((i0.bytes * m : Nat) : Int) ≤ 281474976710656 := by omega
    rwa [Int.natCast_mul] at h4
  have hr := run_make (P := P) W t e i0 z ht hi hz0 .i64 .i64 0 (m : Int) (Int.le_refl _) (by omega) h3 (by omega)
  simp only [Int.toNat_zero, Int.toNat_natCast] at hr
  have ho' := World.ownsRow_made (e := e) W (madeCells z.cells (m * i0.size)) m hbase hmx (size_madeCells _ _)
  rw [hz1] at ho'
  refine Kd.event_run hgd (v := .slice (some ⟨W.heap.size, 0, none⟩) 0 m) (w1 := W.alloc (.cells (madeCells z.cells (m * i0.size)) e)) (by simp [execOp, ho, hx, hy, hr]) (h _ _ ⟨fun k hk => ?_, [], ?_, Reps.none _ _⟩ (HB.alloc hbase _) (World.grownBy_alloc W _ none) ⟨W.heap.size, by simp [Value.ownBlock], Nat.le_refl _⟩)
  · have : W.heap.size = k := by simpa [Value.ownBlock] using hk
    rw [← this]; exact hfresh
  · rw [hz1]; exact ho'
end Go.Proofs.Ytdiimfldkbpagaa.Lit
