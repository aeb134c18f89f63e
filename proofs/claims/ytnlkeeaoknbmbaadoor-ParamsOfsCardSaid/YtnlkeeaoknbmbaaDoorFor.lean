/- params.IsPrime AND params.Choose BY HAND: a label with a break out of a switch, and the builtin copy. Conditions: none. -/
import Derived.Test.YtnlkeeaoknbmbaaDoorEr
import Derived.Test.YtnlkeeaoknbmbaaDoorKit
import Derived.Test.YtnlkeeaoknbmbaaDoorWWords
import Derived.Test.YtnlkeeaoknbmbaaDoorWLast
import Derived.Test.YtnlkeeaoknbmbaaDoorWMore
import Derived.RowKit3
import Derived.Tactics
import Derived.OwnWalk
import Derived.WalkMore
import Derived.Laws.CopyOwn
import Derived.Laws.MakeOwn
import Derived.Laws.OwnMore
import Derived.Deep.OwnRows
import Derived.Deep.LoopGhost
import Derived.Deep.Light
import Derived.KernelRfl
import Derived.Deep.QuietTactic
import Derived.BigQuiet
namespace Go.Proofs.YtnlkeeaoknbmbaaDoor.Er
open Go.RowKit Go.Proofs.YtnlkeeaoknbmbaaDoor.Kit Go.Proofs.YtnlkeeaoknbmbaaDoorW.PrintWords Go.Proofs.YtnlkeeaoknbmbaaDoorW.PrintLast Go.Proofs.YtnlkeeaoknbmbaaDoorW.PrintMore

/-- No number from d on whose square is at most n divides n. -/
def IsPrime.go : Nat → Int → Int → Bool
  | 0, _, _ => true
  | k + 1, d, n => if d * d > n then true else if Int.tmod n d = 0 then false else IsPrime.go k (d + 1) n
def IsPrime.f (n : Int) : Option Bool := if n < 2 then some false else if n > 65536 then some false else some (IsPrime.go 257 2 n)

set_option maxHeartbeats 4000000 in
set_option maxRecDepth 100000 in
theorem IsPrime.calls (n : Int) (r : Bool) (w : World) (h : IsPrime.f n = some r) :
    Calls Tryd.prog 7 #[.int .i64 n] w fun e w' => e = .returned (.bool r) ∧ Drawn0 w w' := by
  unfold IsPrime.f at h
  by_cases c1 : n < 2
  · rw [if_pos c1] at h
    obtain rfl := Option.some.inj h
    clear h
    have c1b : decide (n < 2) = true := decide_eq_true c1
    clear c1
    go_enter Tryd.func7, Tryd.ntmps7
    go_wp2
    go_step3
    go_wp2
    rw [Exit.noGoto_ret]
    go_ret
    exact ⟨rfl, by repeat (first | exact Drawn0.refl _ | apply Drawn0.step)⟩
  rw [if_neg c1] at h
  have c1b : decide (n < 2) = false := decide_eq_false c1
  by_cases c2 : n > 65536
  · rw [if_pos c2] at h
    obtain rfl := Option.some.inj h
    clear h
    have c2b : decide (65536 < n) = true := decide_eq_true c2
    clear c1 c2
    go_enter Tryd.func7, Tryd.ntmps7
    go_wp2
    go_step3
    go_wp2
    rw [Exit.noGoto_ret]
    go_ret
    exact ⟨rfl, by repeat (first | exact Drawn0.refl _ | apply Drawn0.step)⟩
  rw [if_neg c2] at h
  have c2b : decide (65536 < n) = false := decide_eq_false c2
  have h1 : IsPrime.go 257 2 n = r := Option.some.inj h
  clear h
  have H := Aside0.mk h1
  clear h1
  have HN := Aside0.mk (show 2 ≤ n ∧ n ≤ 65536 by omega)
  clear c1 c2
  go_enter Tryd.func7, Tryd.ntmps7
  go_wp2
  go_step3
  go_wp2
  go_step3
  go_wp2
  go_loopg [3] 257 (fun g s3 w' => ∃ d : Int, s3 = .int .i64 d ∧ Aside0 (2 ≤ d ∧ d + g = 259 ∧ IsPrime.go g d n = r) ∧ Drawn0 w w')
  case atStart => exact ⟨2, rfl, ⟨by omega, rfl, H.out⟩, by repeat (first | exact Drawn0.refl _ | apply Drawn0.step)⟩
  case round =>
    obtain ⟨d, rfl, HG, HD⟩ := hrel
    obtain ⟨hd2, hd1, hg⟩ := HG.out
    clear HG
    obtain ⟨hn1, hn2⟩ := HN.out
    have hd : 2 ≤ d ∧ d ≤ 259 := by omega
    have hq : d * d ≤ 259 * 259 := Int.mul_le_mul hd.2 hd.2 (by omega) (by omega)
    have hq0 : 0 ≤ d * d := Int.mul_nonneg (by omega) (by omega)
    have hdd : IntKind.i64.wrap (d * d) = d * d := by rw [i64_w]; exact w64 ⟨by omega, by omega⟩
    have hd0 : ¬ d = 0 := by omega
    by_cases c3 : d * d > n
    · have c3b : decide (n < d * d) = true := decide_eq_true c3
      have HR := Aside0.mk (show r = true by
        cases gk with
        | zero => exact hg.symm
        | succ k => unfold IsPrime.go at hg; rw [if_pos c3] at hg; exact hg.symm)
      clear hn1 hn2 hd hd2 hq hq0 c3 hg hd1
      go_wp2
      rw [Exit.noGoto_ret]
      go_ret
      exact ⟨by rw [HR.out]; rfl, by repeat (first | exact HD | exact Drawn0.refl _ | apply Drawn0.step)⟩
    · have c3b : decide (n < d * d) = false := decide_eq_false c3
      cases gk with
      | zero => 
        exfalso
        have : d = 259 := by omega
        subst this
        omega
      | succ k =>
        unfold IsPrime.go at hg
        rw [if_neg c3] at hg
        by_cases c4 : Int.tmod n d = 0
        · rw [if_pos c4] at hg
          have c4b : (Int.tmod n d == 0) = true := beq_iff_eq.2 c4
          subst hg
          clear hn1 hn2 hd hd2 hq hq0 c3 c4 hd1
          go_wp2
          rw [Exit.noGoto_ret]
          go_ret
          exact ⟨rfl, by repeat (first | exact HD | exact Drawn0.refl _ | apply Drawn0.step)⟩
        · rw [if_neg c4] at hg
          have c4b : (Int.tmod n d == 0) = false := beq_eq_false_iff_ne.2 c4
          have HG := Aside0.mk (show 2 ≤ d + 1 ∧ (d + 1) + (k : Int) = 259 ∧ IsPrime.go k (d + 1) n = r from ⟨by omega, by omega, hg⟩)
          have hw1 : IntKind.i64.wrap (d + 1) = d + 1 := by rw [i64_w]; exact w64 ⟨by omega, by omega⟩
          clear hn1 hn2 hd hd2 hq hq0 c3 c4 hd1 hg
          go_wp2
          go_roundg k
          case measure => omega
          case rel => exact ⟨d + 1, by first | rfl | (simp; done) | (simp [*]; done), HG, by repeat (first | exact HD | exact Drawn0.refl _ | apply Drawn0.step)⟩

/-! ### params.Choose -/
/-- The row that follows a row of the triangle. -/
def Choose.next (l : List Int) : List Int := (List.range (l.length + 1)).map fun j => if j = 0 then l.getD 0 0 else wrap64 (l.getD j 0 + l.getD (j - 1) 0)
def Choose.row : Nat → List Int
  | 0 => [1]
  | m + 1 => Choose.next (Choose.row m)
def Choose.R (m j : Nat) : Int := (Choose.row m).getD j 0
theorem Choose.length_row : ∀ m, (Choose.row m).length = m + 1
  | 0 => rfl
  | m + 1 => by simp [Choose.row, Choose.next, Choose.length_row m]
theorem Choose.R_succ (m j : Nat) (h : j ≤ m + 1) : Choose.R (m + 1) j = if j = 0 then Choose.R m 0 else wrap64 (Choose.R m j + Choose.R m (j - 1)) := by
  have e : (Choose.row (m + 1))[j]? = some (if j = 0 then Choose.R m 0 else wrap64 (Choose.R m j + Choose.R m (j - 1))) := by
    show (Choose.next (Choose.row m))[j]? = _
    unfold Choose.next
    rw [Choose.length_row, List.getElem?_map, List.getElem?_range (by omega)]
    rfl
  unfold Choose.R
  rw [List.getD_eq_getElem?_getD, e]
  rfl
theorem Choose.R_out (m j : Nat) (h : m < j) : Choose.R m j = 0 := by
  unfold Choose.R
  rw [List.getD_eq_getElem?_getD, List.getElem?_eq_none (by rw [Choose.length_row]; omega)]
  rfl
theorem Choose.R_zero (j : Nat) (h : j < 1) : Choose.R 0 j = 1 := by
  have : j = 0 := by omega
  subst this
  rfl
def Choose.f (n k : Int) : Option (Int × Option Er) :=
  if n < 0 then (fault_New.f (⟨#[112, 97, 114, 97, 109, 115, 46, 67, 104, 111, 111, 115, 101]⟩ : ByteArray) 1).bind fun t => some (0, t)
  else if n > 60 then (fault_New.f (⟨#[112, 97, 114, 97, 109, 115, 46, 67, 104, 111, 111, 115, 101]⟩ : ByteArray) 1).bind fun t => some (0, t)
  else if k < 0 then some (0, none) else if k > n then some (0, none) else some (Choose.R n.toNat k.toNat, none)

/-- The row of the triangle, as it lies. -/
def Choose.at (m : Nat) : Nat → Value := fun j => .int .i64 (Choose.R m j)
/-- The next row when i of its sums are made. -/
def Choose.half (m i : Nat) : Nat → Value := fun j => .int .i64 (if 1 ≤ j ∧ j ≤ i then wrap64 (Choose.R m j + Choose.R m (j - 1)) else Choose.R m j)

theorem Choose.info3 : (Tryd.prog.info? 3).map (fun i => (i.zero, i.size, i.bytes)) = some (some (.int .i64 0), 1, 8) := by kernel_rfl

theorem Choose.copied (q m : Nat) (hq : q = m + 1) (i : Nat) (hi : i < q + 1) :
    (splice (List.replicate (q + 1) (Value.int .i64 0)) 0 ((List.range q).map (Choose.at m))).toArray[i]? = some (Choose.half m 0 i) := by
  have e : Choose.half m 0 i = Choose.at m i := by
    unfold Choose.half Choose.at
    rw [if_neg (by omega)]
  rw [e]
  simp only [splice, List.take_zero, List.nil_append, List.getElem?_toArray, List.length_map, List.length_range, Nat.zero_add]
  by_cases h : i < q
  · rw [List.getElem?_append_left (by simpa using h), List.getElem?_map, List.getElem?_range h]
    rfl
  · obtain rfl : i = q := by omega
    rw [List.getElem?_append_right (by simp), List.getElem?_drop]
    simp only [List.length_map, List.length_range, Nat.sub_self, Nat.add_zero]
    rw [List.getElem?_replicate, if_pos (by omega)]
    unfold Choose.at
    rw [Choose.R_out m i (by omega)]
theorem Choose.stepped (m i j : Nat) : (if j = i + 1 then Value.int .i64 (wrap64 (Choose.R m (i + 1) + Choose.R m i)) else Choose.half m i j) = Choose.half m (i + 1) j := by
  unfold Choose.half
  by_cases h : j = i + 1
  · subst h
    rw [if_pos rfl, if_pos (by omega)]
    rfl
  · rw [if_neg h]
    by_cases h2 : 1 ≤ j ∧ j ≤ i
    · rw [if_pos h2, if_pos (by omega)]
    · rw [if_neg h2, if_neg (by omega)]
theorem Choose.full (q m j : Nat) (hq : q = m + 1) (hj : j < q + 1) : Choose.half m q j = Choose.at (q + 1 - 1) j := by
  unfold Choose.half Choose.at
  rw [show q + 1 - 1 = m + 1 by omega, Choose.R_succ m j (by omega)]
  by_cases h : j = 0
  · subst h
    rw [if_neg (by omega), if_pos rfl]
  · rw [if_pos (by omega), if_neg h]
theorem Choose.made (w wr : World) (b q : Nat) (hq : q ≤ 61) (h1 : 1 ≤ q) (hR : wr.rowIs b 3 q (Choose.at (q - 1))) (hB : Below w.heap.size w wr) :
    ∃ (w1 w2 : World) (g : Nat), (Instr.makeSlice 46 (.int .i64 ((q : Int) + 1)) (.int .i64 ((q : Int) + 1))).run Tryd.prog wr = .ok (.slice (some ⟨g, 0, none⟩) (q + 1) (q + 1)) w1 ∧
      (Builtin.copy_ #[46, 46] 3 #[.slice (some ⟨g, 0, none⟩) (q + 1) (q + 1), .slice (some ⟨b, 0, none⟩) q q]).run Tryd.prog w1 = .ok (.int .i64 (q : Int)) w2 ∧
      w2.rowIs g 3 (q + 1) (Choose.half (q - 1) 0) ∧ w2.rowIs b 3 q (Choose.at (q - 1)) ∧ Below w.heap.size w w2 ∧ w.heap.size ≤ g ∧ b < g := by
  have hg : (wr.alloc (.cells (madeCells #[Value.int .i64 0] (q + 1)) 3)).heap[wr.heap.size]? = some (.cells (madeCells #[Value.int .i64 0] (q + 1)) 3 (0, 0)) := heap_new _ _
  have hR1 := hR.alloc (.cells (madeCells #[Value.int .i64 0] (q + 1)) 3)
  have hlt := hR.lt
  have hcl : ((List.range q).map (Choose.at (q - 1))).length = q := by simp
  have hcp := run_copy_row Tryd.prog (wr.alloc (.cells (madeCells #[Value.int .i64 0] (q + 1)) 3)) 46 46 3 3 wr.heap.size 0 (q + 1) (q + 1) ⟨b, 0, none⟩ q q _ 3 ((List.range q).map (Choose.at (q - 1))) Tryd.underlying46 (by kernel_rfl) hg
    (by rw [hcl]; exact (Nat.min_eq_left (Nat.le_succ q)).symm)
    (fun j v hv => by
      rw [List.getElem?_map] at hv
      by_cases hj : j < q
      · rw [List.getElem?_range hj] at hv
        obtain rfl := Option.some.inj hv
        have := hR1.cell hj
        rw [← this]
        unfold Addr.add
        simp
        split
        · subst_vars; rfl
        · rfl
      · rw [List.getElem?_eq_none (by simpa using hj)] at hv
        cases hv)
    (by rw [hcl, size_madeCells]; omega)
    (fun v hv => by
      obtain ⟨j, _, rfl⟩ := List.mem_map.1 hv
      rfl)
  rw [hcl] at hcp
  refine ⟨_, _, wr.heap.size, run_make_row' (P := Tryd.prog) 46 3 (.int .i64 0) 8 Tryd.underlying46 Choose.info3 rfl .i64 .i64 (q + 1) (by omega) (by omega) wr, hcp, ⟨_, setRow_heap _ _ _ _ _ _ hg, ?_, ?_⟩, hR1.of_block (setRow_other _ _ _ _ (by omega)), ?_, hB.size, hlt⟩
  · simp [size_madeCells]
  · intro i hi
    have := Choose.copied q (q - 1) (by omega) i hi
    rw [← this]
    simp only [splice, toList_madeCells_one, List.append_assoc, hcl]
  · exact (hB.alloc hB.size _).trans ⟨rfl, rfl, rfl, by simp [World.setRow], fun k hk => setRow_other _ _ _ _ (by have := hB.size; omega)⟩

set_option maxHeartbeats 8000000 in
set_option maxRecDepth 100000 in
theorem Choose.main (N K : Nat) (hN : N ≤ 60) (hK : K ≤ N) (w : World) :
    Calls Tryd.prog 12 #[.int .i64 (N : Int), .int .i64 (K : Int)] w fun e w' => e = .returned (.tuple #[.int .i64 (Choose.R N K), .nilIface]) ∧ Below w.heap.size w w' := by
  have HN := Aside0.mk (And.intro hN hK)
  have b1 : decide ((N : Int) < 0) = false := decide_eq_false (by omega)
  have b2 : decide (60 < (N : Int)) = false := decide_eq_false (by omega)
  have b3 : decide ((K : Int) < 0) = false := decide_eq_false (by omega)
  have b4 : decide (N < K) = false := decide_eq_false (by omega)
  clear hN hK
  go_enter Tryd.func12, Tryd.ntmps12
  go_wp2
  go_loopg [6] N (fun g s6 wr => ∃ b q : Nat, s6 = .slice (some ⟨b, 0, none⟩) q q ∧ Aside0 (1 ≤ q ∧ q + g = N + 1 ∧ w.heap.size ≤ b) ∧ Aside0 (wr.rowIs b 3 q (Choose.at (q - 1))) ∧ Aside0 (Below w.heap.size w wr))
  case atStart =>
    go_light
    exact ⟨w.heap.size, 1, rfl, ⟨by omega, by omega, Nat.le_refl _⟩, ⟨(World.rowIs_alloc w #[.int .i64 1] 3 (Choose.at 0) (fun i hi => by
      have : i = 0 := by simpa using hi
      subst this
      rfl))⟩, ⟨(Below.refl _ _).alloc (Nat.le_refl _) _⟩⟩
  case round =>
    obtain ⟨b, q, rfl, HQ, HR, HB⟩ := hrel
    cases gk with
    | zero =>
      obtain ⟨h1, h2, h3⟩ := HQ.out
      obtain rfl : q = N + 1 := by omega
      have hz : decide (N + 1 ≤ N) = false := decide_eq_false (by omega)
      obtain ⟨h4, h5⟩ := HN.out
      have hc : wr.cell? ⟨b, K, none⟩ = some (.int .i64 (Choose.R N K)) := HR.out.cell (by omega)
      have hz2 : ¬ (N : Int) + 1 ≤ (N : Int) := by omega
      have hlt2 : (K : Int) < (N : Int) + 1 := by omega
      have hlt3 : K < N + 1 := by omega
      clear h1 h2 h3 h4 h5
      go_wp2
      go_ret2
      exact ⟨rfl, HB.out⟩
    | succ g =>
      obtain ⟨h1, h2, h3⟩ := HQ.out
      obtain ⟨h4, h5⟩ := HN.out
      have hz : decide (q ≤ N) = true := decide_eq_true (by omega)
      have hwq : IntKind.i64.wrap ((q : Int) + 1) = (q : Int) + 1 := by rw [i64_w]; exact w64 ⟨by omega, by omega⟩
      obtain ⟨w1, w2, gn, hmk, hcp, hg1, hb1, hB1, hg2, hbg⟩ := Choose.made w wr b q (by omega) h1 HR.out HB.out
      have HG := Aside0.mk hg1
      have HB1 := Aside0.mk hB1
      have HR1 := Aside0.mk hb1
      have HX := Aside0.mk (And.intro hg2 hbg)
      clear h1 h2 h3 h4 h5 hg1 hb1 hB1 hg2 hbg HR HB
      go_wp2
      clear hmk hcp
      go_loopg [38] q (fun g2 s38 wi => ∃ i : Nat, s38 = .int .i64 (i : Int) ∧ Aside0 (i + g2 = q) ∧ Aside0 (wi.rowIs gn 3 (q + 1) (Choose.half (q - 1) i)) ∧ Aside0 (wi.rowIs b 3 q (Choose.at (q - 1))) ∧ Aside0 (Below w.heap.size w wi))
      case atStart => go_light; exact ⟨0, rfl, ⟨by omega⟩, HG, HR1, HB1⟩
      case round =>
        clear HG HR1 HB1
        obtain ⟨i, rfl, HI, HG, HR1, HB1⟩ := hrel
        cases gk with
        | zero =>
          obtain rfl : i = q := by have := HI.out; omega
          go_wp2
          go_roundg g
          case measure => go_light; omega
          case rel =>
            go_light
            obtain ⟨h1, h2, h3⟩ := HQ.out
            exact ⟨gn, i + 1, rfl, ⟨by omega, by omega, HX.out.1⟩, ⟨HG.out.congr (fun j hj => Choose.full i (i - 1) j (by omega) hj)⟩, HB1⟩
        | succ g2 =>
          have hi := HI.out
          obtain ⟨h1, h2, h3⟩ := HQ.out
          obtain ⟨h4, h5⟩ := HN.out
          have i1 : (i : Int) < (q : Int) := by omega
          have i2 : i < q := by omega
          have i3 : IntKind.i64.wrap ((i : Int) + 1) = (i : Int) + 1 := by rw [i64_w]; exact w64 ⟨by omega, by omega⟩
          have i4 : (i : Int) + 1 < (q : Int) + 1 := by omega
          have i5 : i + 1 < q + 1 := by omega
          have r1 : wr.cell? ⟨b, i, none⟩ = some (.int .i64 (Choose.R (q - 1) i)) := HR1.out.cell (by omega)
          have r2 : wr.cell? ⟨gn, i + 1, none⟩ = some (.int .i64 (Choose.R (q - 1) (i + 1))) := by
            rw [HG.out.cell (by omega)]
            unfold Choose.half
            rw [if_neg (by omega)]
          have r3 : wr.frozen? ⟨gn, i + 1, none⟩ = false := HG.out.frozen _
          clear hi h1 h2 h3 h4 h5
          go_wp2
          go_roundg g2
          case measure => go_light; omega
          case rel =>
            go_light
            have hi := HI.out
            exact ⟨i + 1, rfl, ⟨by omega⟩, ⟨(HG.out.set (i + 1) _).congr (fun j hj => Choose.stepped (q - 1) i j)⟩, ⟨HR1.out.setOther (by have := HX.out.2; show b ≠ gn; omega) _⟩, ⟨HB1.out.setCell HX.out.1 _⟩⟩
set_option maxHeartbeats 8000000 in
set_option maxRecDepth 100000 in
theorem Choose.calls (n k : Int) (r1 : Int) (r2 : Option Er) (w : World) (h : Choose.f n k = some (r1, r2)) :
    Calls Tryd.prog 12 #[.int .i64 n, .int .i64 k] w fun e w' => ∃ e1_ : Value, e = .returned (.tuple #[.int .i64 r1, e1_]) ∧ ErR w' e1_ r2 ∧ Below w.heap.size w w' := by
  unfold Choose.f at h
  by_cases c1 : n < 0
  · rw [if_pos c1] at h
    obtain ⟨t, A30, h⟩ := Option.bind_eq_some_iff.mp h
    obtain ⟨rfl, rfl⟩ : 0 = r1 ∧ t = r2 := by simpa using h
    have A3 := Aside0.mk A30
    have c1b : decide (n < 0) = true := decide_eq_true c1
    clear h c1 A30
    go_enter Tryd.func12, Tryd.ntmps12
    go_wp2_with (first | ((with_reducible refine gate_callee (f := 16) rfl ?_); refine goesL_ (some 16) rfl rfl Tryd.func16 (by kernel_rfl) rfl #[.string (⟨#[112, 97, 114, 97, 109, 115, 46, 67, 104, 111, 111, 115, 101]⟩ : ByteArray), .int .i64 1] rfl (by (try simp only [List.map_toArray, List.map_cons, List.map_nil]); first | done | rfl) ?_; (with_reducible refine (fault_New.calls (⟨#[112, 97, 114, 97, 109, 115, 46, 67, 104, 111, 111, 115, 101]⟩ : ByteArray) 1 t _ A3.out).mono ?_); rintro e w1 ⟨ez0, rfl, he0, hb⟩; refine ⟨_, rfl, ?_⟩; have HE := Aside0.mk he0; have HB := Aside0.mk hb; clear he0 hb))
    go_ret2
    exact ⟨_, rfl, HE.out, HB.out⟩
  rw [if_neg c1] at h
  have c1b : decide (n < 0) = false := decide_eq_false c1
  by_cases c2 : n > 60
  · rw [if_pos c2] at h
    obtain ⟨t, A30, h⟩ := Option.bind_eq_some_iff.mp h
    obtain ⟨rfl, rfl⟩ : 0 = r1 ∧ t = r2 := by simpa using h
    have A3 := Aside0.mk A30
    have c2b : decide (60 < n) = true := decide_eq_true c2
    clear h c1 c2 A30
    go_enter Tryd.func12, Tryd.ntmps12
    go_wp2_with (first | ((with_reducible refine gate_callee (f := 16) rfl ?_); refine goesL_ (some 16) rfl rfl Tryd.func16 (by kernel_rfl) rfl #[.string (⟨#[112, 97, 114, 97, 109, 115, 46, 67, 104, 111, 111, 115, 101]⟩ : ByteArray), .int .i64 1] rfl (by (try simp only [List.map_toArray, List.map_cons, List.map_nil]); first | done | rfl) ?_; (with_reducible refine (fault_New.calls (⟨#[112, 97, 114, 97, 109, 115, 46, 67, 104, 111, 111, 115, 101]⟩ : ByteArray) 1 t _ A3.out).mono ?_); rintro e w1 ⟨ez0, rfl, he0, hb⟩; refine ⟨_, rfl, ?_⟩; have HE := Aside0.mk he0; have HB := Aside0.mk hb; clear he0 hb))
    go_ret2
    exact ⟨_, rfl, HE.out, HB.out⟩
  rw [if_neg c2] at h
  have c2b : decide (60 < n) = false := decide_eq_false c2
  by_cases c3 : k < 0
  · rw [if_pos c3] at h
    obtain ⟨rfl, rfl⟩ : 0 = r1 ∧ none = r2 := by simpa using h
    have c3b : decide (k < 0) = true := decide_eq_true c3
    clear h c1 c2 c3
    go_enter Tryd.func12, Tryd.ntmps12
    go_wp2
    go_ret2
    exact ⟨_, rfl, rfl, by repeat (first | exact Below.refl _ _ | apply below_drew1)⟩
  rw [if_neg c3] at h
  have c3b : decide (k < 0) = false := decide_eq_false c3
  by_cases c4 : k > n
  · rw [if_pos c4] at h
    obtain ⟨rfl, rfl⟩ : 0 = r1 ∧ none = r2 := by simpa using h
    have c4b : decide (n < k) = true := decide_eq_true c4
    clear h c1 c2 c3 c4
    go_enter Tryd.func12, Tryd.ntmps12
    go_wp2
    go_ret2
    exact ⟨_, rfl, rfl, by repeat (first | exact Below.refl _ _ | apply below_drew1)⟩
  rw [if_neg c4] at h
  obtain ⟨rfl, rfl⟩ : Choose.R n.toNat k.toNat = r1 ∧ none = r2 := by simpa using h
  have h1 := Choose.main n.toNat k.toNat (by omega) (by omega) w
  rw [Int.toNat_of_nonneg (by omega), Int.toNat_of_nonneg (by omega)] at h1
  exact h1.mono fun e w' ⟨he, hb⟩ => ⟨.nilIface, he, rfl, hb⟩
end Go.Proofs.YtnlkeeaoknbmbaaDoor.Er
