/- A literal's bytes made a []byte of a constant string: the row gets a mark behind its last cell; what is read of it stays. Conditions: none. -/
import Derived.Test.YtdiimfldkbpagaaDoorProg
import Derived.Test.YtdiimfldkbpagaaDoorWWords
import Derived.Test.YtdiimfldkbpagaaDoorWLast
import Derived.Test.YtdiimfldkbpagaaDoorWMore
import Derived.Below
import Derived.RowKit3
import Derived.Lib.SlBytesConst
namespace Go.Proofs.YtdiimfldkbpagaaDoor.Lit
open Go.RowKit Go.Proofs.YtdiimfldkbpagaaDoorW.PrintWords Go.Proofs.YtdiimfldkbpagaaDoorW.PrintLast Go.Proofs.YtdiimfldkbpagaaDoorW.PrintMore
theorem freeze_cell (W : World) (a x : Addr) (n : Nat) : (W.freeze a n).cell? x = W.cell? x := by
  unfold World.freeze
  split
  · rfl
  · unfold World.cell?
    simp only [Array.getElem?_modify]
    by_cases h : a.block = x.block
    · rw [if_pos h]
      cases W.heap[x.block]? with
      | none => rfl
      | some o => cases o <;> rfl
    · rw [if_neg h]
theorem conv_bytes {P : Program} {W : World} {t e : TypeId} {A : Option Addr} {n c base : Nat} {ok : Nat → Prop} {xs : List Int} (ht : P.underlying t = some (.slice e)) (he : P.underlying e = some (.int .u8))
    (h : (Kd.int .u8).R e W base ok (.slice A n c) xs) (hp : 0 < xs.length) :
    ∃ W', (convert t t (.slice A n c)).run P W = .ok (.slice A n c) W' ∧ (Kd.int .u8).C W' A xs.length xs ∧ ∀ B (w : World), B ≤ base → Below B w W → Below B w W' := by
  have hr := (Kd.R_reads' h).2.2
  obtain ⟨g, cap, hv, hg, hl, cells, hcell⟩ := Kd.R_form h hp
  injection hv with hA hn hc
  subst hA
  refine ⟨W.freeze ⟨g, cells.size, none⟩ 1, ?_, ?_, ?_⟩
  · simp [convert, run_underlying ht, run_underlying he, markStringish, World.shape?, hcell]
  · refine ⟨hr.1, hr.2.1, fun h0 => ?_⟩
    obtain ⟨ad, ea, hx⟩ := hr.2.2 h0
    refine ⟨ad, ea, fun j p hj => ?_⟩
    obtain ⟨cs, h1, h2, h3⟩ := hx j p hj
    exact ⟨cs, h1, h2, fun i u hu => (freeze_cell W _ _ _).trans (h3 i u hu)⟩
  · intro B w hB hb
    refine ⟨hb.os, hb.tape, hb.output, ?_, fun k hk => ?_⟩
    · have : (W.freeze ⟨g, cells.size, none⟩ 1).heap.size = W.heap.size := by simp [World.freeze]
      rw [this]; exact hb.size
    · rw [← hb.block k hk]
      have hne : g ≠ k := by omega
      simp [World.freeze, Array.getElem?_modify, hne]
theorem cell_at {W : World} {g k : Nat} {cs : Array Value} {t : TypeId} {fr : Nat × Nat} (h : W.heap[g]? = some (.cells cs t fr)) : W.cell? ⟨g, k, none⟩ = cs[k]? := by
  unfold World.cell?
  show (match W.heap[g]? with | some (.cells c _ _) => if (none : Option _).isSome then none else c[k]? | _ => none) = _
  rw [h]
  rfl
theorem C_two (w : World) (e : Nat) (A B : Option Addr) (c d : Nat) (xs ys : List Int) (t : TypeId) (fr : Nat × Nat) (h1 : (Kd.int .u8).C w A xs.length xs) (h2 : (Kd.int .u8).C w B ys.length ys) (hc : xs.length ≤ c) (hd : ys.length ≤ d) :
    (Kd.slice e (Kd.int .u8)).C (w.alloc (.cells #[.slice A xs.length c, .slice B ys.length d] t fr)) (some ⟨w.heap.size, 0, none⟩) 2 [xs, ys] := by
  have hh : (w.alloc (.cells #[.slice A xs.length c, .slice B ys.length d] t fr)).heap[w.heap.size]? = some (.cells #[.slice A xs.length c, .slice B ys.length d] t fr) := by
    show (w.heap.push _)[w.heap.size]? = _
    simp
  refine ⟨rfl, by omega, fun _ => ⟨_, rfl, fun j p hj => ?_⟩⟩
  match j, hj with
  | 0, hj =>
    obtain rfl : xs = p := by simpa using hj
    refine ⟨[.slice A xs.length c], rfl, ⟨A, c, rfl, hc, Kd.C_alloc h1 _⟩, fun i u hu => ?_⟩
    match i, hu with
    | 0, hu =>
      obtain rfl : Value.slice A xs.length c = u := by simpa using hu
      exact (cell_at (k := 0) hh).trans rfl
  | 1, hj =>
    obtain rfl : ys = p := by simpa using hj
    refine ⟨[.slice B ys.length d], rfl, ⟨B, d, rfl, hd, Kd.C_alloc h2 _⟩, fun i u hu => ?_⟩
    match i, hu with
    | 0, hu =>
      obtain rfl : Value.slice B ys.length d = u := by simpa using hu
      exact (cell_at (k := 1) hh).trans rfl
theorem V_string {P : Program} {w : World} {src dst e e' : TypeId} {base : Nat} {ok : Nat → Prop} {v : Value} {xs : List Int} (hs : P.underlying src = some (.slice e)) (he : P.underlying e = some (.int .u8)) (hd : P.underlying dst = some .string)
    (h : (Kd.int .u8).V e' w base ok v xs) : (convert src dst v).run P w = .ok (.string (strOfNums xs)) w := by
  obtain ⟨A, c, rfl, _⟩ := id h
  exact Kd.C_string hs he hd (Kd.V_reads' h).2.2
end Go.Proofs.YtdiimfldkbpagaaDoor.Lit
