/- (*wire.off).next, by its contract: a number off the bytes, or none. Conditions: how many bytes: from 0 on. -/
import Derived.Test.YtfcofokbhhnfkaaDoorUp
import Derived.Test.YtfcofokbhhnfkaaDoorPkm
import Derived.Laws.BitsAllLaws
import Derived.Deep.Slices
import Derived.Test.YtfcofokbhhnfkaaDoorWWords
import Derived.Test.YtfcofokbhhnfkaaDoorWLast
import Derived.Test.YtfcofokbhhnfkaaDoorWMore
import Derived.Test.YtfcofokbhhnfkaaDoorWTab
import Derived.Deep.LoopGhost
namespace Go.Proofs.YtfcofokbhhnfkaaDoor.Byt
set_option linter.unusedSimpArgs false
set_option linter.unusedVariables false
open Go.RowKit Go.Deep Go.Proofs.YtfcofokbhhnfkaaDoor.Er Go.Proofs.YtfcofokbhhnfkaaDoorW.PrintWords Go.Proofs.YtfcofokbhhnfkaaDoorW.PrintLast Go.Proofs.YtfcofokbhhnfkaaDoorW.PrintMore
/-- Only block g is written, in place. -/
structure Only (w w' : World) (g : Nat) : Prop where
  os : w'.os = w.os
  tape : w'.tape = w.tape
  output : w'.output = w.output
  size : w'.heap.size = w.heap.size
  block : ∀ k, k ≠ g → w'.heap[k]? = w.heap[k]?
theorem Only.set (w : World) (g j : Nat) (x : Value) : Only w (w.setCell ⟨g, j, none⟩ x) g :=
  ⟨rfl, rfl, rfl, by simp, fun k hk => Below.heap_setCell w ⟨g, j, none⟩ x k hk⟩
theorem Only.below {w0 w w' : World} {g B : Nat} (h : Only w w' g) (hb : Below B w0 w) (hg : B ≤ g) : Below B w0 w' :=
  ⟨h.os.trans hb.os, h.tape.trans hb.tape, h.output.trans hb.output, by rw [h.size]; exact hb.size, fun k hk => (h.block k (by omega)).trans (hb.block k hk)⟩
/-- The taker-off at block g of w; its bytes lie in w0. -/
def Off (w0 w : World) (g : Nat) (l : List Int) (b : Bool) : Prop :=
  ∃ A c, w.heap[g]? = some (.cells #[.slice A l.length c, .bool b] 63 (0, 0)) ∧ RdB (fun k => k < w0.heap.size) w0 (.slice A l.length c) l ∧ l.length ≤ c
def numI (l : List Int) : Int := l.foldl (fun n x => n * 256 + x) 0
theorem numI_snoc (l : List Int) (i : Nat) (x : Int) (h : l[i]? = some x) : numI (l.take (i + 1)) = numI (l.take i) * 256 + x := by
  unfold numI
  rw [List.take_add_one, h, List.foldl_append]
  rfl
theorem numI_bd : ∀ (i : Nat) (l : List Int), (∀ x ∈ l, 0 ≤ x ∧ x < 256) → i ≤ l.length → 0 ≤ numI (l.take i) ∧ numI (l.take i) < 256 ^ i
  | 0, l, _, _ => by simp [numI]
  | i + 1, l, h, hi => by
    obtain ⟨x, hx⟩ : ∃ x, l[i]? = some x := ⟨_, List.getElem?_eq_getElem (by omega)⟩
    have h1 := numI_bd i l h (by omega)
    have h2 := h x (List.mem_of_getElem? hx)
    rw [numI_snoc l i x hx, Int.pow_succ]
    omega
theorem pow256 (i : Nat) (h : i ≤ 6) : (256 : Int) ^ i ≤ 256 ^ 6 := by
  rcases (show i = 0 ∨ i = 1 ∨ i = 2 ∨ i = 3 ∨ i = 4 ∨ i = 5 ∨ i = 6 by omega) with rfl | rfl | rfl | rfl | rfl | rfl | rfl <;> decide
theorem or_nx (n x : Int) (hn : 0 ≤ n ∧ n < 256 ^ 6) (hx : 0 ≤ x ∧ x < 256) : bits .or .i64 (wrap64 (n * 256)) (wrap64 x) = n * 256 + x := by
  obtain ⟨a, rfl⟩ := Int.eq_ofNat_of_zero_le hn.1
  obtain ⟨b, rfl⟩ := Int.eq_ofNat_of_zero_le hx.1
  have ha : a < 281474976710656 := by omega
  have hb : b < 256 := by omega
  rw [w64 (n := (a : Int) * 256) ⟨by omega, by omega⟩, w64 (n := (b : Int)) ⟨by omega, by omega⟩, show ((a : Int) * 256) = ((a * 256 : Nat) : Int) by omega]
  have hx2 : a * 256 ||| b < 2 ^ 63 := Nat.or_lt_two_pow (by omega) (by omega)
  show IntKind.i64.wrap ((BitVec.ofInt 64 ((a * 256 : Nat) : Int) ||| BitVec.ofInt 64 (b : Int)).toNat : Int) = _
  rw [BitVec.toNat_or, ofInt_u64 (a * 256) (by omega), ofInt_u64 b (by omega), i64_w, w64 ⟨by omega, by omega⟩]
  have := Nat.two_pow_add_eq_or_of_lt (i := 8) (b := b) (by omega) a
  rw [show a * 256 = 2 ^ 8 * a by omega, ← this]
  omega
theorem RdB.at {D : Nat → Prop} {w : World} {A : Option Addr} {m c : Nat} {l : List Int} (h : RdB D w (.slice A m c) l) (i : Nat) (x : Int) (hx : l[i]? = some x) : ∃ ab ao, A = some ⟨ab, ao, none⟩ ∧ D ab ∧ w.cell? ⟨ab, ao + i, none⟩ = some (.int .u8 x) := by
  obtain ⟨A', c', e, h1, h2, h3, h4⟩ := h
  cases e
  obtain ⟨⟨ab, ao, sp⟩, rfl, hD, hc⟩ := h4 (by intro e; rw [e] at hx; cases hx)
  obtain rfl : sp = none := by
    have c0 := hc 0 (l[0]'(by have := (List.getElem?_eq_some_iff.1 hx).1; omega)) (List.getElem?_eq_getElem _)
    have e : (⟨ab, ao, sp⟩ : Addr).add 0 = ⟨ab, ao, sp⟩ := rfl
    rw [e] at c0
    unfold World.cell? at c0
    cases sp
    · rfl
    · simp at c0; split at c0 <;> simp_all
  have := hc i x hx
  have hadd : (⟨ab, ao, none⟩ : Addr).add i = ⟨ab, ao + i, none⟩ := by unfold Addr.add; split <;> simp_all
  rw [hadd] at this
  exact ⟨ab, ao, rfl, hD, this⟩
theorem RdB.len {D : Nat → Prop} {w : World} {v : Value} {l : List Int} (h : RdB D w v l) : l.length ≤ 140737488355328 := by
  obtain ⟨A, c, e, h1, h2, h3, h4⟩ := h
  exact h2
theorem RdB.drop {D : Nat → Prop} {w : World} {A : Option Addr} {m c : Nat} {l : List Int} (h : RdB D w (.slice A m c) l) (s : Nat) (hs : s ≤ m) : RdB D w (.slice (if c = s then A else A.map (fun x => x.add (s * 1))) (m - s) (c - s)) (l.drop s) := by
  obtain ⟨A', c', e, h1, h2, h3, h4⟩ := h
  cases e
  have hl : (l.drop s).length = l.length - s := List.length_drop
  refine ⟨_, c - s, by rw [hl], by rw [hl]; omega, by rw [hl]; omega, fun x hx => h3 x (List.mem_of_mem_drop hx), fun hne => ?_⟩
  have hlt : s < l.length := by
    rcases Nat.lt_or_ge s l.length with q | q
    · exact q
    · exact absurd (List.drop_eq_nil_of_le q) hne
  rw [if_neg (by omega)]
  obtain ⟨a, rfl, hD, hc⟩ := h4 (by intro e; rw [e] at hlt; simp at hlt)
  refine ⟨_, rfl, by rw [add_block]; exact hD, fun j x hj => ?_⟩
  rw [List.getElem?_drop] at hj
  have := hc (s + j) x hj
  have e : (a.add (s * 1)).add j = a.add (s + j) := by
    rw [Nat.mul_one]
    exact Go.Deep.add_add a s j
  rw [e]
  exact this
def nxtV (l : List Int) (s : Nat) : Int := if l.length < s then 0 else numI (l.take s)
def nxtL (l : List Int) (s : Nat) : List Int := if l.length < s then l else l.drop s
def nxtB (l : List Int) (b : Bool) (s : Nat) : Bool := if l.length < s then true else b
set_option maxHeartbeats 4000000 in
theorem next_calls (g : Nat) (s : Nat) (l : List Int) (b : Bool) (w0 w : World) (hO : Off w0 w g l b) (hB : Below w0.heap.size w0 w) (hg : w0.heap.size ≤ g) (hs : s ≤ 7) :
    Calls Tryd.prog 31 #[.pointer (some ⟨g, 0, none⟩), .int .i64 (s : Int)] w fun e w' => e = .returned (.int .i64 (nxtV l s)) ∧ Off w0 w' g (nxtL l s) (nxtB l b s) ∧ Only w w' g := by
  obtain ⟨A, c, hb, hC, hc⟩ := hO
  have k1 : w.cell? ⟨g, 0, none⟩ = some (.slice A l.length c) := (blk_cell hb 0).trans rfl
  have k2 : w.cell? ⟨g, 1, none⟩ = some (.bool b) := (blk_cell hb 1).trans rfl
  have f1 := blk_frozen hb 0
  have f2 := blk_frozen hb 1
  have hm := hC.len
  by_cases h : (l.length : Int) < s
  · have c1 : decide ((l.length : Int) < (s : Int)) = true := decide_eq_true h
    have h' : l.length < s := by omega
    have HV := Lib.hid (show nxtV l s = 0 from if_pos h')
    have HP := Lib.hid (show Off w0 (w.setCell ⟨g, 1, none⟩ (.bool true)) g (nxtL l s) (nxtB l b s) from ⟨A, c, by
      rw [show nxtL l s = l from if_pos h', show nxtB l b s = true from if_pos h']
      simpa using blk_set hb 1 (.bool true), by rw [show nxtL l s = l from if_pos h']; exact hC, by rw [show nxtL l s = l from if_pos h']; exact hc⟩)
    have c1n : decide (l.length < s) = true := decide_eq_true h'
    clear hb hC hc h hB hg hs hm
    go_enter Tryd.func31, Tryd.ntmps31
    go_wp2
    go_ret
    exact ⟨congrArg (fun z => Ending.returned (Value.int .i64 z)) HV.out.symm, HP.out, Only.set _ _ _ _⟩
  · have c1 : decide ((l.length : Int) < (s : Int)) = false := decide_eq_false h
    have h' : ¬ l.length < s := by omega
    obtain ⟨i0, hi0, _, hsz0, _⟩ := info_parts (show (Tryd.prog.info? 5).map (fun i => (i.zero, i.size, i.bytes)) = some (some (.int .u8 0), 1, 1) by kernel_rfl)
    have hcut1 := cut_to (P := Tryd.prog) 22 5 .i64 Tryd.underlying22 hi0 A l.length c (s : Int) (by omega) (by omega) hc
    have hcut2 := cut_from (P := Tryd.prog) 22 5 .i64 Tryd.underlying22 hi0 1 hsz0 A l.length c (s : Int) (by omega) (by omega)
    rw [show (s : Int).toNat = s from rfl] at hcut1 hcut2
    have HV := Lib.hid (show nxtV l s = numI (l.take s) from if_neg h')
    have hdl : (l.drop s).length = l.length - s := List.length_drop
    have HP := Lib.hid (show ∀ w2 : World, w2 = w → Off w0 (w2.setCell ⟨g, 0, none⟩ (.slice (if c = s then A else A.map (fun x => x.add (s * 1))) (l.length - s) (c - s))) g (nxtL l s) (nxtB l b s) from fun w2 e => by
      subst e
      rw [show nxtL l s = l.drop s from if_neg h', show nxtB l b s = b from if_neg h']
      refine ⟨_, c - s, ?_, by rw [hdl]; exact hC.drop s (by omega), by omega⟩
      rw [hdl]
      simpa using blk_set hb 0 (.slice (if c = s then A else A.map (fun x => x.add (s * 1))) (l.length - s) (c - s)))
    generalize (if c = s then A else A.map (fun x => x.add (s * 1))) = A2 at hcut2 HP
    have HC := Lib.hid hC
    have HS := Lib.hid (show s ≤ l.length from by omega)
    have HS8 := Lib.hid hs
    have c1n : decide (l.length < s) = false := decide_eq_false h'
    clear hi0 hb hC hc h hg hs hm hsz0 hdl
    go_enter Tryd.func31, Tryd.ntmps31
    go_wp2
    go_loopg [5, 7, 25] (s + 1) (fun kq v5 v7 v25 w' => ∃ (i : Nat) (n : Int), v25 = .int .i64 i ∧ v5 = .int .i64 n ∧ w' = w ∧ Hid (i ≤ s ∧ kq = s - i + 1) ∧ Hid (n = numI (l.take i)))
    case atStart => exact ⟨0, 0, rfl, rfl, rfl, Lib.hid ⟨by omega, by omega⟩, Lib.hid rfl⟩
    case round =>
      obtain ⟨i, n, rfl, rfl, rfl, HI, HN⟩ := hrel
      by_cases hi : i < s
      · obtain ⟨x, hx⟩ : ∃ x, l[i]? = some x := ⟨_, List.getElem?_eq_getElem (by have := HS.out; omega)⟩
        obtain ⟨ab, ao, rfl, hD, hcl⟩ := HC.out.at i x hx
        have hcl2 : wr.cell? ⟨ab, ao + i, none⟩ = some (.int .u8 x) := (hB.cell (p := ⟨ab, ao + i, none⟩) hD).trans hcl
        have hnb := numI_bd i l HC.out.lt (by have := HS.out; omega)
        have hs7 := HS8.out
        have hn6 : (256 : Int) ^ i ≤ 256 ^ 6 := pow256 i (by omega)
        obtain ⟨n2, hn2⟩ : ∃ n2, n2 = n * 256 + x := ⟨_, rfl⟩
        have hor : bits .or .i64 (wrap64 (n * 256)) (wrap64 x) = n2 := by rw [hn2]; exact or_nx n x (by rw [HN.out]; omega) (HC.out.lt x (List.mem_of_getElem? hx))
        have HN2 : Hid (n2 = numI (l.take (i + 1))) := Lib.hid (by rw [hn2, numI_snoc l i x hx, HN.out])
        clear hx hnb hn6 hn2 hcl hD
        go_wp2
        go_roundg (s - i)
        case measure => have := HI.out; omega
        case rel => exact ⟨i + 1, n2, by go_num, by first | rfl | exact congrArg _ hor, rfl, Lib.hid ⟨by omega, by omega⟩, HN2⟩
      · have hi2 : i = s := by have := HI.out; omega
        have HN2 : Hid (n = numI (l.take s)) := Lib.hid (by rw [← hi2]; exact HN.out)
        have HP2 := Lib.hid (HP.out _ rfl)
        clear hi2 HI HN
        go_wp2
        go_ret
        refine ⟨congrArg (fun z => Ending.returned (Value.int .i64 z)) (HN2.out.trans HV.out.symm), HP2.out, ?_⟩
        exact Only.set _ _ _ _
end Go.Proofs.YtfcofokbhhnfkaaDoor.Byt
