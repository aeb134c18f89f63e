/- geyserref16's head, data, announce and fits by their contracts. Conditions: numbers as memory holds them. geyserref14.Symbols and Check by their contracts. Conditions: an object's size that four bytes hold. Printed by mkref14.py. geyserref16.ranged and bare by their contracts. Conditions: numbers as memory holds them. A packet on the way: the result's box and the packet's own; cells and a plan stored. Conditions: none. geyserref16.bare by its contract. Conditions: none. Printed by mkbare.py. geyserref16.Check by its contract. Conditions: numbers as memory holds them. Printed by mkrchk.py. -/
import Derived.Test.YtfcofokbhhnfkaaDoorBas
namespace Go.Proofs.YtfcofokbhhnfkaaDoor.Byt
set_option linter.unusedSimpArgs false
set_option linter.unusedVariables false
section
open Go.RowKit Go.Deep Go.Proofs.YtfcofokbhhnfkaaDoor.Er Go.Proofs.YtfcofokbhhnfkaaDoorW.PrintWords Go.Proofs.YtfcofokbhhnfkaaDoorW.PrintLast Go.Proofs.YtfcofokbhhnfkaaDoorW.PrintMore
structure Nm where
  n : Int
  sz : Int
  lo : Int
  hi : Int
def nmC (x : Nm) : List Value := [.int .i64 x.n, .int .i64 x.sz, .int .i64 x.lo, .int .i64 x.hi]
def nmsC (L : List Nm) : List Value := L.flatMap nmC
def NumAt (w : World) (g : Nat) (L : List Nm) : Prop := w.heap[g]? = some (.cells (nmsC L).toArray 109 (0, 0))
theorem NumAt.below {w w' : World} {g : Nat} {L : List Nm} (h : NumAt w g L) (hb : Below w.heap.size w w') : NumAt w' g L := (hb.block g (lt_of h)).trans h
theorem nmsC_at : ∀ (L : List Nm) (i j : Nat) (x : Nm), L[i]? = some x → j < 4 → (nmsC L)[i * 4 + j]? = (nmC x)[j]?
  | y :: L, 0, j, x, h, hj => by
    cases h
    show (nmC y ++ nmsC L)[0 * 4 + j]? = _
    rw [List.getElem?_append_left (by show 0 * 4 + j < 4; omega), Nat.zero_mul, Nat.zero_add]
  | y :: L, i + 1, j, x, h, hj => by
    show (nmC y ++ nmsC L)[(i + 1) * 4 + j]? = _
    rw [List.getElem?_append_right (by show 4 ≤ _; omega)]
    have := nmsC_at L i j x h hj
    rw [← this]
    congr 1
    show (i + 1) * 4 + j - 4 = i * 4 + j
    omega
theorem NumAt.cell {w : World} {g : Nat} {L : List Nm} (h : NumAt w g L) {i : Nat} {x : Nm} (hx : L[i]? = some x) (j : Nat) (hj : j < 4) : w.cell? ⟨g, i * 4 + j, none⟩ = (nmC x)[j]? := by
  rw [blk_cell h]
  simpa using nmsC_at L i j x hx hj
def okN (x : Nm) : Bool := decide (x.lo ≤ x.n ∧ x.n ≤ x.hi)
theorem all_snoc {L : List Nm} {i : Nat} {x : Nm} (h : (L.take i).all okN = true) (hx : L[i]? = some x) (hk : okN x = true) : (L.take (i + 1)).all okN = true := by
  rw [List.take_add_one, hx, List.all_append, h]
  simp [hk]
theorem all_no {L : List Nm} {i : Nat} {x : Nm} (hx : L[i]? = some x) (hk : okN x = false) : L.all okN = false := by
  rw [List.all_eq_false]
  exact ⟨x, List.mem_of_getElem? hx, by rw [hk]; decide⟩
set_option maxHeartbeats 4000000 in
set_option maxRecDepth 100000 in
theorem fits_calls (w : World) (g c : Nat) (L : List Nm) (hg : NumAt w g L) (hl : L.length ≤ 1000) :
    Calls Tryd.prog 40 #[.slice (some ⟨g, 0, none⟩) L.length c] w fun e w' => e = .returned (.bool (L.all okN)) ∧ Below w.heap.size w w' := by
  have HG := Lib.hid hg
  obtain ⟨m, hm⟩ : ∃ m, m = L.length := ⟨_, rfl⟩
  have HM := Lib.hid hm
  rw [← hm] at hl ⊢
  obtain ⟨r, hr⟩ : ∃ r, r = L.all okN := ⟨_, rfl⟩
  have HR := Lib.hid hr
  rw [← hr]
  clear hg hm hr
  go_enter Tryd.func40, Tryd.ntmps40
  go_wp2
  go_loopg [3] (m + 1) (fun kq v3 wr => ∃ i : Nat, v3 = .int .i64 i ∧ Hid (i ≤ m ∧ kq = m + 1 - i ∧ (L.take i).all okN = true) ∧ Hid (NumAt wr g L ∧ Below w.heap.size w wr))
  case atStart => exact ⟨0, rfl, Lib.hid ⟨by omega, by omega, by simp⟩, Lib.hid ⟨HG.out, Below.refl _ _⟩⟩
  case round =>
    obtain ⟨i, rfl, HI, HW⟩ := hrel
    by_cases hi : i < m
    · obtain ⟨x, hx⟩ : ∃ x, L[i]? = some x := ⟨L[i]'(by rw [← HM.out]; exact hi), List.getElem?_eq_getElem _⟩
      have c0 : wr.cell? ⟨g, i * 4, none⟩ = some (.int .i64 x.n) := HW.out.1.cell hx 0 (by decide)
      have c2 : wr.cell? ⟨g, i * 4 + 2, none⟩ = some (.int .i64 x.lo) := HW.out.1.cell hx 2 (by decide)
      have c3 : wr.cell? ⟨g, i * 4 + 3, none⟩ = some (.int .i64 x.hi) := HW.out.1.cell hx 3 (by decide)
      have hi' : (i : Int) < (m : Int) := by omega
      have HX := Lib.hid hx
      clear hx
      obtain ⟨n, sz, lo, hi_⟩ := x
      dsimp only at c0 c2 c3
      by_cases h1 : n < lo
      · have d1 : decide (n < lo) = true := decide_eq_true h1
        have HE : Hid (r = false) := Lib.hid (HR.out.trans (all_no HX.out (decide_eq_false (fun h => by have := h.1; simp only at this; omega))))
        clear h1
        go_wp2
        go_quiet (fail)
        go_wp2
        go_ret
        exact ⟨by rw [HE.out]; rfl, HW.out.2.trans (pw_below_drewN (Below.refl _ _) _)⟩
      · have d1 : decide (n < lo) = false := decide_eq_false h1
        by_cases h2 : hi_ < n
        · have d2 : decide (hi_ < n) = true := decide_eq_true h2
          have HE : Hid (r = false) := Lib.hid (HR.out.trans (all_no HX.out (decide_eq_false (fun h => by have := h.2; simp only at this; omega))))
          clear h1 h2
          go_wp2
          go_quiet (fail)
          go_wp2
          go_ret
          exact ⟨by rw [HE.out]; rfl, HW.out.2.trans (pw_below_drewN (Below.refl _ _) _)⟩
        · have d2 : decide (hi_ < n) = false := decide_eq_false h2
          have HN : Hid ((L.take (i + 1)).all okN = true) := Lib.hid (all_snoc HI.out.2.2 HX.out (decide_eq_true ⟨by simp only; omega, by simp only; omega⟩))
          clear h1 h2
          go_wp2
          go_quiet (fail)
          have HW2 : Hid (NumAt (wr.drewN nq) g L ∧ Below w.heap.size w (wr.drewN nq)) := Lib.hid ⟨HW.out.1, pw_below_drewN HW.out.2 _⟩
          generalize wr.drewN nq = w2 at HW2 ⊢
          clear c0 c2 c3 HW
          go_wp2
          go_roundg (m - i)
          case measure => have := HI.out; omega
          case rel => exact ⟨i + 1, by go_num, Lib.hid ⟨by omega, by omega, HN.out⟩, HW2⟩
    · have HE : Hid (r = true) := Lib.hid (HR.out.trans (by
        have := HI.out.2.2
        rw [List.take_of_length_le (by have := HM.out; have := HI.out; omega)] at this
        exact this))
      go_wp2
      go_ret
      exact ⟨by rw [HE.out]; rfl, HW.out.2⟩
/-- What head, data and announce list. -/
def headN (p : Pk) : List Nm := [⟨p.kind, 1, 1, 2⟩, ⟨p.sess, 2, 0, 65535⟩, ⟨p.layer, 1, 0, 7⟩, ⟨p.tick, 5, 0, 1099511627775⟩]
def dataN (p : Pk) : List Nm := [⟨wrap64 (p.sync + 1), 1, 0, 8⟩, ⟨p.many, 2, 1, 4096⟩, ⟨p.place, 2, 0, wrap64 (p.many - 1)⟩, ⟨p.block, 1, 0, 15⟩, ⟨p.esi, 2, 0, 65535⟩]
def annN (p : Pk) : List Nm := [⟨p.size, 4, -9223372036854775808, 4294967295⟩, ⟨p.layers, 1, 1, 8⟩, ⟨p.esis, 2, 1, 65536⟩, ⟨p.base, 2, 2, 4096⟩, ⟨p.len, 2, 1, wrap64 (p.base - 1)⟩]
def NumR (w : World) (L : List Nm) (e : Ending) (w' : World) : Prop := ∃ g c, e = .returned (.slice (some ⟨g, 0, none⟩) L.length c) ∧ NumAt w' g L ∧ Below w.heap.size w w'
set_option maxHeartbeats 4000000 in
set_option maxRecDepth 100000 in
theorem head_calls (p : Pk) (u : Value) (w : World) (hu : u.cells = #[u]) : Calls Tryd.prog 41 #[pkV p u] w (NumR w (headN p)) := by
  obtain ⟨kind, sess, layer, tick, burst, sync, many, place, block, esi, data, size, sym, blocks, long, short, layers, esis, base, len⟩ := p
  go_enter Tryd.func41, Tryd.ntmps41
  go_wp2_with (first
    | ((with_reducible refine gate_dst (N := 1) rfl ?_); refine wp_box rfl (.tmp 0) rfl rfl hu ?_; intro w2 hP hB hs; obtain ⟨s0, s1, s2, s3, s4, s5, s6, s7, s8, s9, s10, s11, s12, s13, s14, s15, s16, s17, s18, s19⟩ := Wire.cell20 (w := w2) (g := w.heap.size) hP; have HB := Lib.hid hB; clear hP hB hs))
  go_ret
  exact ⟨_, _, rfl, heap_new _ _, HB.out.trans (((Below.refl _ _).alloc (Nat.le_refl _) _).mono HB.out.size)⟩
set_option maxHeartbeats 4000000 in
set_option maxRecDepth 100000 in
theorem dataN_calls (p : Pk) (u : Value) (w : World) (hu : u.cells = #[u]) : Calls Tryd.prog 42 #[pkV p u] w (NumR w (dataN p)) := by
  obtain ⟨kind, sess, layer, tick, burst, sync, many, place, block, esi, data, size, sym, blocks, long, short, layers, esis, base, len⟩ := p
  go_enter Tryd.func42, Tryd.ntmps42
  go_wp2_with (first
    | ((with_reducible refine gate_dst (N := 1) rfl ?_); refine wp_box rfl (.tmp 0) rfl rfl hu ?_; intro w2 hP hB hs; obtain ⟨s0, s1, s2, s3, s4, s5, s6, s7, s8, s9, s10, s11, s12, s13, s14, s15, s16, s17, s18, s19⟩ := Wire.cell20 (w := w2) (g := w.heap.size) hP; have HB := Lib.hid hB; clear hP hB hs))
  go_ret
  exact ⟨_, _, rfl, heap_new _ _, HB.out.trans (((Below.refl _ _).alloc (Nat.le_refl _) _).mono HB.out.size)⟩
set_option maxHeartbeats 4000000 in
set_option maxRecDepth 100000 in
theorem ann_calls (p : Pk) (u : Value) (w : World) (hu : u.cells = #[u]) : Calls Tryd.prog 43 #[pkV p u] w (NumR w (annN p)) := by
  obtain ⟨kind, sess, layer, tick, burst, sync, many, place, block, esi, data, size, sym, blocks, long, short, layers, esis, base, len⟩ := p
  go_enter Tryd.func43, Tryd.ntmps43
  go_wp2_with (first
    | ((with_reducible refine gate_dst (N := 1) rfl ?_); refine wp_box rfl (.tmp 0) rfl rfl hu ?_; intro w2 hP hB hs; obtain ⟨s0, s1, s2, s3, s4, s5, s6, s7, s8, s9, s10, s11, s12, s13, s14, s15, s16, s17, s18, s19⟩ := Wire.cell20 (w := w2) (g := w.heap.size) hP; have HB := Lib.hid hB; clear hP hB hs))
  go_ret
  exact ⟨_, _, rfl, heap_new _ _, HB.out.trans (((Below.refl _ _).alloc (Nat.le_refl _) _).mono HB.out.size)⟩
end
section
open Go.RowKit Go.Deep Go.Proofs.YtfcofokbhhnfkaaDoor.Er Go.Proofs.YtfcofokbhhnfkaaDoorW.PrintWords Go.Proofs.YtfcofokbhhnfkaaDoorW.PrintLast Go.Proofs.YtfcofokbhhnfkaaDoorW.PrintMore
set_option maxHeartbeats 4000000 in
theorem refsym_calls (n m : Int) (w : World) (h : 0 ≤ n ∧ n ≤ 4294967295 ∧ 1 ≤ m) : Calls Tryd.prog 44 #[.int .i64 n, .int .i64 m] w fun e w' => e = .returned (.int .i64 (symN n m)) ∧ w' = w := by
  have hm : m ≠ 0 := by omega
  have hm2 : (m == 0) = false := beq_eq_false_iff_ne.2 hm
  have e1 : Int.tdiv n m = n / m := Int.tdiv_eq_ediv_of_nonneg h.1
  have e2 : Int.tmod n m = n % m := Int.tmod_eq_emod_of_nonneg h.1
  have h2 : 0 ≤ n / m := Int.ediv_nonneg h.1 (by omega)
  have h3 : n / m ≤ n := Int.ediv_le_self _ h.1
  obtain ⟨q, hq⟩ : ∃ q, q = Int.tdiv n m := ⟨_, rfl⟩
  obtain ⟨r, hr⟩ : ∃ r, r = Int.tmod n m := ⟨_, rfl⟩
  have hq1 : wrap64 q = q := w64 ⟨by omega, by omega⟩
  have hq2 : wrap64 (q + 1) = q + 1 := w64 ⟨by omega, by omega⟩
  have hwq : wrap64 (Int.tdiv n m) = q := by rw [← hq]; exact hq1
  by_cases c1 : 0 < r
  · have HS : Hid (symN n m = q + 1) := Lib.hid (by unfold symN; rw [← e1, ← e2, ← hq, ← hr, if_pos (show r > 0 from c1), if_neg (by omega)])
    have d1 : decide (0 < r) = true := decide_eq_true c1
    have d2 : decide (0 < Int.tmod n m) = true := by rw [← hr]; exact d1
    clear c1 h e1 e2 h2 h3
    go_enter Tryd.func44, Tryd.ntmps44
    go_wp2
    go_ret
    exact ⟨by rw [HS.out]; exact congrArg (fun z => Ending.returned (Value.int .i64 z)) (show wrap64 (Int.tdiv n m + 1) = q + 1 by rw [← hq]; exact hq2), rfl⟩
  · have d1 : decide (0 < r) = false := decide_eq_false c1
    have d2 : decide (0 < Int.tmod n m) = false := by rw [← hr]; exact d1
    by_cases c2 : n = 0
    · subst c2
      have hq0 : q = 0 := by rw [hq]; simp
      have HS : Hid (symN 0 m = q + 1) := Lib.hid (by unfold symN; rw [← e1, ← e2, ← hq, ← hr, if_neg (show ¬ r > 0 from c1), if_pos (by omega)]; omega)
      have HQ0 := Lib.hid hq0
      clear c1 h e1 e2 h2 h3 hq0
      go_enter Tryd.func44, Tryd.ntmps44
      go_wp2
      go_ret
      exact ⟨by rw [HS.out]; exact congrArg (fun z => Ending.returned (Value.int .i64 z)) (show (1 : Int) = q + 1 by rw [HQ0.out]; rfl), rfl⟩
    · have d3 : (n == 0) = false := beq_eq_false_iff_ne.2 c2
      have hq0 : 1 ≤ q := by
        have h5 : n % m + m * (n / m) = n := Int.emod_add_mul_ediv n m
        have h6 : n % m = 0 := by
          have := Int.emod_nonneg n hm
          omega
        rcases Int.lt_or_le q 1 with h7 | h7
        · have : n / m = 0 := by omega
          rw [this, h6] at h5
          omega
        · exact h7
      have HS : Hid (symN n m = q) := Lib.hid (by unfold symN; rw [← e1, ← e2, ← hq, ← hr, if_neg (show ¬ r > 0 from c1), if_neg (by omega), Int.add_zero])
      clear c1 c2 h e1 e2 h2 h3 hq0
      go_enter Tryd.func44, Tryd.ntmps44
      go_wp2
      go_ret
      exact ⟨by rw [HS.out]; exact congrArg (fun z => Ending.returned (Value.int .i64 z)) hwq, rfl⟩
set_option maxHeartbeats 16000000 in
set_option maxRecDepth 100000 in
theorem chk14R_calls (size sym blocks long short : Int) (w : World) (hsz : size ≤ 4294967295) : Calls Tryd.prog 23 #[planV size sym blocks long short] w fun e w' => ∃ n : Int, e = .returned (.int .i64 n) ∧ (n = 0 ↔ PlanOk size sym blocks long short) ∧ Below w.heap.size w w' := by
  by_cases h_p1 : size < 0
  · skip
    have HR : Hid (¬ PlanOk size sym blocks long short) := Lib.hid (fun h => by simp only [PlanOk] at h; split at h <;> omega)
    have f_p1 : decide (size < 0) = true := decide_eq_true h_p1
    clear h_p1
    go_enter Tryd.func23, Tryd.ntmps23
    go_wp2_with (first
      | ((with_reducible refine gate_dst (N := 1) rfl ?_); refine wp_boxPl rfl (.tmp 0) rfl rfl ?_; intro w1 hP hB; have HB := Lib.hid hB; obtain ⟨s0, s1, s2, s3, s4⟩ := Wire.cell5 hP; clear hP hB))
    go_ret
    exact ⟨1, rfl, ⟨fun h => (by cases h), fun h => absurd h HR.out⟩, HB.out⟩
  by_cases h_p2 : sym < 1
  · skip
    have HR : Hid (¬ PlanOk size sym blocks long short) := Lib.hid (fun h => by simp only [PlanOk] at h; split at h <;> omega)
    have f_p1 : decide (size < 0) = false := decide_eq_false h_p1
    have f_p2 : decide (sym < 1) = true := decide_eq_true h_p2
    clear h_p1 h_p2
    go_enter Tryd.func23, Tryd.ntmps23
    go_wp2_with (first
      | ((with_reducible refine gate_dst (N := 1) rfl ?_); refine wp_boxPl rfl (.tmp 0) rfl rfl ?_; intro w1 hP hB; have HB := Lib.hid hB; obtain ⟨s0, s1, s2, s3, s4⟩ := Wire.cell5 hP; clear hP hB))
    go_ret
    exact ⟨1, rfl, ⟨fun h => (by cases h), fun h => absurd h HR.out⟩, HB.out⟩
  by_cases h_p3 : 64 < sym
  · skip
    have HR : Hid (¬ PlanOk size sym blocks long short) := Lib.hid (fun h => by simp only [PlanOk] at h; split at h <;> omega)
    have f_p1 : decide (size < 0) = false := decide_eq_false h_p1
    have f_p2 : decide (sym < 1) = false := decide_eq_false h_p2
    have f_p3 : decide (64 < sym) = true := decide_eq_true h_p3
    clear h_p1 h_p2 h_p3
    go_enter Tryd.func23, Tryd.ntmps23
    go_wp2_with (first
      | ((with_reducible refine gate_dst (N := 1) rfl ?_); refine wp_boxPl rfl (.tmp 0) rfl rfl ?_; intro w1 hP hB; have HB := Lib.hid hB; obtain ⟨s0, s1, s2, s3, s4⟩ := Wire.cell5 hP; clear hP hB))
    go_ret
    exact ⟨1, rfl, ⟨fun h => (by cases h), fun h => absurd h HR.out⟩, HB.out⟩
  by_cases h_q1 : blocks < 1
  · skip
    have HR : Hid (¬ PlanOk size sym blocks long short) := Lib.hid (fun h => by simp only [PlanOk] at h; split at h <;> omega)
    have f_p1 : decide (size < 0) = false := decide_eq_false h_p1
    have f_p2 : decide (sym < 1) = false := decide_eq_false h_p2
    have f_p3 : decide (64 < sym) = false := decide_eq_false h_p3
    have f_q1 : decide (blocks < 1) = true := decide_eq_true h_q1
    clear h_p1 h_p2 h_p3 h_q1
    go_enter Tryd.func23, Tryd.ntmps23
    go_wp2_with (first
      | ((with_reducible refine gate_dst (N := 1) rfl ?_); refine wp_boxPl rfl (.tmp 0) rfl rfl ?_; intro w1 hP hB; have HB := Lib.hid hB; obtain ⟨s0, s1, s2, s3, s4⟩ := Wire.cell5 hP; clear hP hB))
    go_ret
    exact ⟨2, rfl, ⟨fun h => (by cases h), fun h => absurd h HR.out⟩, HB.out⟩
  by_cases h_q2 : 16 < blocks
  · skip
    have HR : Hid (¬ PlanOk size sym blocks long short) := Lib.hid (fun h => by simp only [PlanOk] at h; split at h <;> omega)
    have f_p1 : decide (size < 0) = false := decide_eq_false h_p1
    have f_p2 : decide (sym < 1) = false := decide_eq_false h_p2
    have f_p3 : decide (64 < sym) = false := decide_eq_false h_p3
    have f_q1 : decide (blocks < 1) = false := decide_eq_false h_q1
    have f_q2 : decide (16 < blocks) = true := decide_eq_true h_q2
    clear h_p1 h_p2 h_p3 h_q1 h_q2
    go_enter Tryd.func23, Tryd.ntmps23
    go_wp2_with (first
      | ((with_reducible refine gate_dst (N := 1) rfl ?_); refine wp_boxPl rfl (.tmp 0) rfl rfl ?_; intro w1 hP hB; have HB := Lib.hid hB; obtain ⟨s0, s1, s2, s3, s4⟩ := Wire.cell5 hP; clear hP hB))
    go_ret
    exact ⟨2, rfl, ⟨fun h => (by cases h), fun h => absurd h HR.out⟩, HB.out⟩
  by_cases h_q3 : long < 0
  · skip
    have HR : Hid (¬ PlanOk size sym blocks long short) := Lib.hid (fun h => by simp only [PlanOk] at h; split at h <;> omega)
    have f_p1 : decide (size < 0) = false := decide_eq_false h_p1
    have f_p2 : decide (sym < 1) = false := decide_eq_false h_p2
    have f_p3 : decide (64 < sym) = false := decide_eq_false h_p3
    have f_q1 : decide (blocks < 1) = false := decide_eq_false h_q1
    have f_q2 : decide (16 < blocks) = false := decide_eq_false h_q2
    have f_q3 : decide (long < 0) = true := decide_eq_true h_q3
    clear h_p1 h_p2 h_p3 h_q1 h_q2 h_q3
    go_enter Tryd.func23, Tryd.ntmps23
    go_wp2_with (first
      | ((with_reducible refine gate_dst (N := 1) rfl ?_); refine wp_boxPl rfl (.tmp 0) rfl rfl ?_; intro w1 hP hB; have HB := Lib.hid hB; obtain ⟨s0, s1, s2, s3, s4⟩ := Wire.cell5 hP; clear hP hB))
    go_ret
    exact ⟨2, rfl, ⟨fun h => (by cases h), fun h => absurd h HR.out⟩, HB.out⟩
  by_cases h_q4 : blocks ≤ long
  · skip
    have HR : Hid (¬ PlanOk size sym blocks long short) := Lib.hid (fun h => by simp only [PlanOk] at h; split at h <;> omega)
    have f_p1 : decide (size < 0) = false := decide_eq_false h_p1
    have f_p2 : decide (sym < 1) = false := decide_eq_false h_p2
    have f_p3 : decide (64 < sym) = false := decide_eq_false h_p3
    have f_q1 : decide (blocks < 1) = false := decide_eq_false h_q1
    have f_q2 : decide (16 < blocks) = false := decide_eq_false h_q2
    have f_q3 : decide (long < 0) = false := decide_eq_false h_q3
    have f_q4 : decide (blocks ≤ long) = true := decide_eq_true h_q4
    clear h_p1 h_p2 h_p3 h_q1 h_q2 h_q3 h_q4
    go_enter Tryd.func23, Tryd.ntmps23
    go_wp2_with (first
      | ((with_reducible refine gate_dst (N := 1) rfl ?_); refine wp_boxPl rfl (.tmp 0) rfl rfl ?_; intro w1 hP hB; have HB := Lib.hid hB; obtain ⟨s0, s1, s2, s3, s4⟩ := Wire.cell5 hP; clear hP hB))
    go_ret
    exact ⟨2, rfl, ⟨fun h => (by cases h), fun h => absurd h HR.out⟩, HB.out⟩
  by_cases h_q5 : short < 1
  · skip
    have HR : Hid (¬ PlanOk size sym blocks long short) := Lib.hid (fun h => by simp only [PlanOk] at h; split at h <;> omega)
    have f_p1 : decide (size < 0) = false := decide_eq_false h_p1
    have f_p2 : decide (sym < 1) = false := decide_eq_false h_p2
    have f_p3 : decide (64 < sym) = false := decide_eq_false h_p3
    have f_q1 : decide (blocks < 1) = false := decide_eq_false h_q1
    have f_q2 : decide (16 < blocks) = false := decide_eq_false h_q2
    have f_q3 : decide (long < 0) = false := decide_eq_false h_q3
    have f_q4 : decide (blocks ≤ long) = false := decide_eq_false h_q4
    have f_q5 : decide (short < 1) = true := decide_eq_true h_q5
    clear h_p1 h_p2 h_p3 h_q1 h_q2 h_q3 h_q4 h_q5
    go_enter Tryd.func23, Tryd.ntmps23
    go_wp2_with (first
      | ((with_reducible refine gate_dst (N := 1) rfl ?_); refine wp_boxPl rfl (.tmp 0) rfl rfl ?_; intro w1 hP hB; have HB := Lib.hid hB; obtain ⟨s0, s1, s2, s3, s4⟩ := Wire.cell5 hP; clear hP hB))
    go_ret
    exact ⟨2, rfl, ⟨fun h => (by cases h), fun h => absurd h HR.out⟩, HB.out⟩
  by_cases h_q6 : 128 < short
  · skip
    have HR : Hid (¬ PlanOk size sym blocks long short) := Lib.hid (fun h => by simp only [PlanOk] at h; split at h <;> omega)
    have f_p1 : decide (size < 0) = false := decide_eq_false h_p1
    have f_p2 : decide (sym < 1) = false := decide_eq_false h_p2
    have f_p3 : decide (64 < sym) = false := decide_eq_false h_p3
    have f_q1 : decide (blocks < 1) = false := decide_eq_false h_q1
    have f_q2 : decide (16 < blocks) = false := decide_eq_false h_q2
    have f_q3 : decide (long < 0) = false := decide_eq_false h_q3
    have f_q4 : decide (blocks ≤ long) = false := decide_eq_false h_q4
    have f_q5 : decide (short < 1) = false := decide_eq_false h_q5
    have f_q6 : decide (128 < short) = true := decide_eq_true h_q6
    clear h_p1 h_p2 h_p3 h_q1 h_q2 h_q3 h_q4 h_q5 h_q6
    go_enter Tryd.func23, Tryd.ntmps23
    go_wp2_with (first
      | ((with_reducible refine gate_dst (N := 1) rfl ?_); refine wp_boxPl rfl (.tmp 0) rfl rfl ?_; intro w1 hP hB; have HB := Lib.hid hB; obtain ⟨s0, s1, s2, s3, s4⟩ := Wire.cell5 hP; clear hP hB))
    go_ret
    exact ⟨2, rfl, ⟨fun h => (by cases h), fun h => absurd h HR.out⟩, HB.out⟩
  by_cases h_q7 : 0 < long
  · skip
    by_cases h_q8 : short = 128
    · skip
      have HR : Hid (¬ PlanOk size sym blocks long short) := Lib.hid (fun h => by simp only [PlanOk] at h; split at h <;> omega)
      have f_p1 : decide (size < 0) = false := decide_eq_false h_p1
      have f_p2 : decide (sym < 1) = false := decide_eq_false h_p2
      have f_p3 : decide (64 < sym) = false := decide_eq_false h_p3
      have f_q1 : decide (blocks < 1) = false := decide_eq_false h_q1
      have f_q2 : decide (16 < blocks) = false := decide_eq_false h_q2
      have f_q3 : decide (long < 0) = false := decide_eq_false h_q3
      have f_q4 : decide (blocks ≤ long) = false := decide_eq_false h_q4
      have f_q5 : decide (short < 1) = false := decide_eq_false h_q5
      have f_q6 : decide (128 < short) = false := decide_eq_false h_q6
      have f_q7 : decide (0 < long) = true := decide_eq_true h_q7
      have f_q8 : (short == 128) = true := beq_iff_eq.2 h_q8
      clear h_p1 h_p2 h_p3 h_q1 h_q2 h_q3 h_q4 h_q5 h_q6 h_q7 h_q8
      go_enter Tryd.func23, Tryd.ntmps23
      go_wp2_with (first
        | ((with_reducible refine gate_dst (N := 1) rfl ?_); refine wp_boxPl rfl (.tmp 0) rfl rfl ?_; intro w1 hP hB; have HB := Lib.hid hB; obtain ⟨s0, s1, s2, s3, s4⟩ := Wire.cell5 hP; clear hP hB))
      go_ret
      exact ⟨2, rfl, ⟨fun h => (by cases h), fun h => absurd h HR.out⟩, HB.out⟩
    have HR : Hid (blocks * short + long = symN size sym ↔ PlanOk size sym blocks long short) := Lib.hid ⟨fun h => ⟨by omega, by omega, by omega, by omega, by omega, by split <;> omega, h⟩, fun h => h.2.2.2.2.2.2⟩
    have HSZ : Hid (0 ≤ size ∧ size ≤ 4294967295 ∧ 1 ≤ sym) := Lib.hid (by omega)
    obtain ⟨X, hX⟩ : ∃ X, X = blocks * short := ⟨_, rfl⟩
    have hX2 : 0 ≤ X ∧ X ≤ 16 * 128 := by rw [hX]; exact ⟨Int.mul_nonneg (by omega) (by omega), Int.mul_le_mul (by omega) (by omega) (by omega) (by omega)⟩
    have hwX : wrap64 (blocks * short) = X := by rw [← hX]; exact w64 ⟨by omega, by omega⟩
    have hwY : wrap64 (X + long) = X + long := w64 ⟨by omega, by omega⟩
    rw [← hX] at HR
    clear hX hX2
    have f_p1 : decide (size < 0) = false := decide_eq_false h_p1
    have f_p2 : decide (sym < 1) = false := decide_eq_false h_p2
    have f_p3 : decide (64 < sym) = false := decide_eq_false h_p3
    have f_q1 : decide (blocks < 1) = false := decide_eq_false h_q1
    have f_q2 : decide (16 < blocks) = false := decide_eq_false h_q2
    have f_q3 : decide (long < 0) = false := decide_eq_false h_q3
    have f_q4 : decide (blocks ≤ long) = false := decide_eq_false h_q4
    have f_q5 : decide (short < 1) = false := decide_eq_false h_q5
    have f_q6 : decide (128 < short) = false := decide_eq_false h_q6
    have f_q7 : decide (0 < long) = true := decide_eq_true h_q7
    have f_q8 : (short == 128) = false := beq_eq_false_iff_ne.2 h_q8
    clear h_p1 h_p2 h_p3 h_q1 h_q2 h_q3 h_q4 h_q5 h_q6 h_q7 h_q8
    go_enter Tryd.func23, Tryd.ntmps23
    go_upto_region 5 with (first
      | ((with_reducible refine gate_dst (N := 1) rfl ?_); refine wp_boxPl rfl (.tmp 0) rfl rfl ?_; intro w1 hP hB; have HB := Lib.hid hB; obtain ⟨s0, s1, s2, s3, s4⟩ := Wire.cell5 hP; clear hP hB))
    refine start_ (n := 14) (S := fun w' => w'.cell? ⟨w.heap.size, 0, none⟩ = some (.int .i64 size) ∧ w'.cell? ⟨w.heap.size, 1, none⟩ = some (.int .i64 sym) ∧ w'.cell? ⟨w.heap.size, 2, none⟩ = some (.int .i64 blocks) ∧ w'.cell? ⟨w.heap.size, 3, none⟩ = some (.int .i64 long) ∧ w'.cell? ⟨w.heap.size, 4, none⟩ = some (.int .i64 short) ∧ Below w.heap.size w w') (ds := []) #[false, false, false, false, false, false, false, false, false, false, false, false, false, false] (by kernel_rfl) rfl rfl ⟨s0, s1, s2, s3, s4, HB.out.drew⟩ (fun hHeld => ?_)
    refine pure_ (i := 0) (N := some 56) (v := ?_) (a' := ?_) #[true, false, false, false, false, false, false, false, false, false, false, false, false, false] rfl rfl (by kernel_rfl) (fun _ _ _ h => h) (Or.inl ⟨by rfl, ?_⟩) ?_ ?_
    rotate_left
    · intro w'
      go_simp
      with_reducible rfl
    rotate_left
    · simp only [Act.put, List.setIfInBounds_toArray, List.set_cons_zero, List.set_cons_succ, i64_w, i32_w]
      rfl
    refine take_ (i := 1) (N := some 57) (v := ?_) (a' := ?_) #[true, true, false, false, false, false, false, false, false, false, false, false, false, false] rfl rfl (by kernel_rfl) (fun _ _ _ h => h) (Or.inl ⟨by rfl, ?_⟩) hHeld ?_ ?_
    rotate_left
    · rintro w' ⟨s0, s1, s2, s3, s4, s5⟩
      go_simp
      with_reducible rfl
    rotate_left
    · simp only [Act.put, List.setIfInBounds_toArray, List.set_cons_zero, List.set_cons_succ, i64_w, i32_w]
      rfl
    refine pure_ (i := 2) (N := some 58) (v := ?_) (a' := ?_) #[true, true, true, false, false, false, false, false, false, false, false, false, false, false] rfl rfl (by kernel_rfl) (fun _ _ _ h => h) (Or.inl ⟨by rfl, ?_⟩) ?_ ?_
    rotate_left
    · intro w'
      go_simp
      with_reducible rfl
    rotate_left
    · simp only [Act.put, List.setIfInBounds_toArray, List.set_cons_zero, List.set_cons_succ, i64_w, i32_w]
      rfl
    refine take_ (i := 3) (N := some 59) (v := ?_) (a' := ?_) #[true, true, true, true, false, false, false, false, false, false, false, false, false, false] rfl rfl (by kernel_rfl) (fun _ _ _ h => h) (Or.inl ⟨by rfl, ?_⟩) hHeld ?_ ?_
    rotate_left
    · rintro w' ⟨s0, s1, s2, s3, s4, s5⟩
      go_simp
      with_reducible rfl
    rotate_left
    · simp only [Act.put, List.setIfInBounds_toArray, List.set_cons_zero, List.set_cons_succ, i64_w, i32_w]
      rfl
    refine pure_ (i := 4) (N := some 60) (v := ?_) (a' := ?_) #[true, true, true, true, true, false, false, false, false, false, false, false, false, false] rfl rfl (by kernel_rfl) (fun _ _ _ h => h) (Or.inl ⟨by rfl, ?_⟩) ?_ ?_
    rotate_left
    · intro w'
      go_simp
      with_reducible rfl
    rotate_left
    · simp only [Act.put, List.setIfInBounds_toArray, List.set_cons_zero, List.set_cons_succ, i64_w, i32_w]
      rfl
    refine pure_ (i := 5) (N := some 61) (v := ?_) (a' := ?_) #[true, true, true, true, true, true, false, false, false, false, false, false, false, false] rfl rfl (by kernel_rfl) (fun _ _ _ h => h) (Or.inl ⟨by rfl, ?_⟩) ?_ ?_
    rotate_left
    · intro w'
      go_simp
      with_reducible rfl
    rotate_left
    · simp only [Act.put, List.setIfInBounds_toArray, List.set_cons_zero, List.set_cons_succ, i64_w, i32_w]
      rfl
    refine take_ (i := 6) (N := some 62) (v := ?_) (a' := ?_) #[true, true, true, true, true, true, true, false, false, false, false, false, false, false] rfl rfl (by kernel_rfl) (fun _ _ _ h => h) (Or.inl ⟨by rfl, ?_⟩) hHeld ?_ ?_
    rotate_left
    · rintro w' ⟨s0, s1, s2, s3, s4, s5⟩
      go_simp
      with_reducible rfl
    rotate_left
    · simp only [Act.put, List.setIfInBounds_toArray, List.set_cons_zero, List.set_cons_succ, i64_w, i32_w]
      rfl
    refine pure_ (i := 7) (N := some 63) (v := ?_) (a' := ?_) #[true, true, true, true, true, true, true, true, false, false, false, false, false, false] rfl rfl (by kernel_rfl) (fun _ _ _ h => h) (Or.inl ⟨by rfl, ?_⟩) ?_ ?_
    rotate_left
    · intro w'
      go_simp
      with_reducible rfl
    rotate_left
    · simp only [Act.put, List.setIfInBounds_toArray, List.set_cons_zero, List.set_cons_succ, i64_w, i32_w]
      rfl
    refine pure_ (i := 8) (N := some 64) (v := ?_) (a' := ?_) #[true, true, true, true, true, true, true, true, true, false, false, false, false, false] rfl rfl (by kernel_rfl) (fun _ _ _ h => h) (Or.inl ⟨by rfl, ?_⟩) ?_ ?_
    rotate_left
    · intro w'
      go_simp
      with_reducible rfl
    rotate_left
    · simp only [Act.put, List.setIfInBounds_toArray, List.set_cons_zero, List.set_cons_succ, i64_w, i32_w]
      rfl
    refine take_ (i := 9) (N := some 65) (v := ?_) (a' := ?_) #[true, true, true, true, true, true, true, true, true, true, false, false, false, false] rfl rfl (by kernel_rfl) (fun _ _ _ h => h) (Or.inl ⟨by rfl, ?_⟩) hHeld ?_ ?_
    rotate_left
    · rintro w' ⟨s0, s1, s2, s3, s4, s5⟩
      go_simp
      with_reducible rfl
    rotate_left
    · simp only [Act.put, List.setIfInBounds_toArray, List.set_cons_zero, List.set_cons_succ, i64_w, i32_w]
      rfl
    refine pure_ (i := 10) (N := some 66) (v := ?_) (a' := ?_) #[true, true, true, true, true, true, true, true, true, true, true, false, false, false] rfl rfl (by kernel_rfl) (fun _ _ _ h => h) (Or.inl ⟨by rfl, ?_⟩) ?_ ?_
    rotate_left
    · intro w'
      go_simp
      with_reducible rfl
    rotate_left
    · simp only [Act.put, List.setIfInBounds_toArray, List.set_cons_zero, List.set_cons_succ, i64_w, i32_w]
      rfl
    refine take_ (i := 11) (N := some 67) (v := ?_) (a' := ?_) #[true, true, true, true, true, true, true, true, true, true, true, true, false, false] rfl rfl (by kernel_rfl) (fun _ _ _ h => h) (Or.inl ⟨by rfl, ?_⟩) hHeld ?_ ?_
    rotate_left
    · rintro w' ⟨s0, s1, s2, s3, s4, s5⟩
      go_simp
      with_reducible rfl
    rotate_left
    · simp only [Act.put, List.setIfInBounds_toArray, List.set_cons_zero, List.set_cons_succ, i64_w, i32_w]
      rfl
    refine one_ (i := 12) (N := some 68) #[true, true, true, true, true, true, true, true, true, true, true, true, true, false] rfl rfl (by kernel_rfl) (by decide) (fun K hK => ?_)
    refine call_ 44 #[.int .i64 size, .int .i64 sym] (by rfl) rfl ?_ ?_
    · have he := enters_ (P := Tryd.prog) Tryd.func44 (by kernel_rfl) rfl #[.int .i64 size, .int .i64 sym] w1.drew
      unfold execOp
      simp [resolve, Deferred.ofValue, invoke, Act.eval, he]
    refine (refsym_calls size sym w1.drew HSZ.out).mono ?_
    rintro e w6 ⟨rfl, hw⟩
    refine ⟨_, rfl, ?_⟩
    subst hw
    refine hK.out _ _ hHeld (fun hHeld6 => ?_)
    clear hK K hHeld
    refine norm_ (a' := ?_) ?_ ?_
    rotate_left
    · show Act.put _ (some 68) _ = _
      simp only [Act.put, List.setIfInBounds_toArray, List.set_cons_zero, List.set_cons_succ, i64_w, i32_w]
      rfl
    refine pure_ (i := 13) (N := some 69) (v := ?_) (a' := ?_) #[true, true, true, true, true, true, true, true, true, true, true, true, true, true] rfl rfl (by kernel_rfl) (fun _ _ _ h => h) (Or.inl ⟨by rfl, ?_⟩) ?_ ?_
    rotate_left
    · intro w'
      go_simp
      with_reducible rfl
    rotate_left
    · simp only [Act.put, List.setIfInBounds_toArray, List.set_cons_zero, List.set_cons_succ, i64_w, i32_w]
      rfl
    refine done_ (by kernel_rfl) ?_
    obtain ⟨Y, hY⟩ : ∃ Y, Y = symN size sym := ⟨_, rfl⟩
    rw [← hY] at HR ⊢
    clear hY
    by_cases hq : X + long = Y
    · have HR2 := Lib.hid (HR.out.1 hq)
      have c_q : (X + long == Y) = true := beq_iff_eq.2 hq
      have c_r : (X + long != Y) = false := bne_eq_false_iff_eq.2 hq
      clear hq
      go_wp2
      go_ret
      exact ⟨0, rfl, ⟨fun _ => HR2.out, fun _ => rfl⟩, hHeld6.2.2.2.2.2⟩
    · have HR2 : Hid (¬ PlanOk size sym blocks long short) := Lib.hid (fun h => hq (HR.out.2 h))
      have c_q : (X + long == Y) = false := beq_eq_false_iff_ne.2 hq
      have c_r : (X + long != Y) = true := bne_iff_ne.2 hq
      clear hq
      go_wp2
      go_ret
      exact ⟨2, rfl, ⟨fun h => (by cases h), fun h => absurd h HR2.out⟩, hHeld6.2.2.2.2.2⟩
  have HR : Hid (blocks * short + long = symN size sym ↔ PlanOk size sym blocks long short) := Lib.hid ⟨fun h => ⟨by omega, by omega, by omega, by omega, by omega, by split <;> omega, h⟩, fun h => h.2.2.2.2.2.2⟩
  have HSZ : Hid (0 ≤ size ∧ size ≤ 4294967295 ∧ 1 ≤ sym) := Lib.hid (by omega)
  obtain ⟨X, hX⟩ : ∃ X, X = blocks * short := ⟨_, rfl⟩
  have hX2 : 0 ≤ X ∧ X ≤ 16 * 128 := by rw [hX]; exact ⟨Int.mul_nonneg (by omega) (by omega), Int.mul_le_mul (by omega) (by omega) (by omega) (by omega)⟩
  have hwX : wrap64 (blocks * short) = X := by rw [← hX]; exact w64 ⟨by omega, by omega⟩
  have hwY : wrap64 (X + long) = X + long := w64 ⟨by omega, by omega⟩
  rw [← hX] at HR
  clear hX hX2
  have f_p1 : decide (size < 0) = false := decide_eq_false h_p1
  have f_p2 : decide (sym < 1) = false := decide_eq_false h_p2
  have f_p3 : decide (64 < sym) = false := decide_eq_false h_p3
  have f_q1 : decide (blocks < 1) = false := decide_eq_false h_q1
  have f_q2 : decide (16 < blocks) = false := decide_eq_false h_q2
  have f_q3 : decide (long < 0) = false := decide_eq_false h_q3
  have f_q4 : decide (blocks ≤ long) = false := decide_eq_false h_q4
  have f_q5 : decide (short < 1) = false := decide_eq_false h_q5
  have f_q6 : decide (128 < short) = false := decide_eq_false h_q6
  have f_q7 : decide (0 < long) = false := decide_eq_false h_q7
  clear h_p1 h_p2 h_p3 h_q1 h_q2 h_q3 h_q4 h_q5 h_q6 h_q7
  go_enter Tryd.func23, Tryd.ntmps23
  go_upto_region 5 with (first
    | ((with_reducible refine gate_dst (N := 1) rfl ?_); refine wp_boxPl rfl (.tmp 0) rfl rfl ?_; intro w1 hP hB; have HB := Lib.hid hB; obtain ⟨s0, s1, s2, s3, s4⟩ := Wire.cell5 hP; clear hP hB))
  refine start_ (n := 14) (S := fun w' => w'.cell? ⟨w.heap.size, 0, none⟩ = some (.int .i64 size) ∧ w'.cell? ⟨w.heap.size, 1, none⟩ = some (.int .i64 sym) ∧ w'.cell? ⟨w.heap.size, 2, none⟩ = some (.int .i64 blocks) ∧ w'.cell? ⟨w.heap.size, 3, none⟩ = some (.int .i64 long) ∧ w'.cell? ⟨w.heap.size, 4, none⟩ = some (.int .i64 short) ∧ Below w.heap.size w w') (ds := []) #[false, false, false, false, false, false, false, false, false, false, false, false, false, false] (by kernel_rfl) rfl rfl ⟨s0, s1, s2, s3, s4, HB.out.drew⟩ (fun hHeld => ?_)
  refine pure_ (i := 0) (N := some 56) (v := ?_) (a' := ?_) #[true, false, false, false, false, false, false, false, false, false, false, false, false, false] rfl rfl (by kernel_rfl) (fun _ _ _ h => h) (Or.inl ⟨by rfl, ?_⟩) ?_ ?_
  rotate_left
  · intro w'
    go_simp
    with_reducible rfl
  rotate_left
  · simp only [Act.put, List.setIfInBounds_toArray, List.set_cons_zero, List.set_cons_succ, i64_w, i32_w]
    rfl
  refine take_ (i := 1) (N := some 57) (v := ?_) (a' := ?_) #[true, true, false, false, false, false, false, false, false, false, false, false, false, false] rfl rfl (by kernel_rfl) (fun _ _ _ h => h) (Or.inl ⟨by rfl, ?_⟩) hHeld ?_ ?_
  rotate_left
  · rintro w' ⟨s0, s1, s2, s3, s4, s5⟩
    go_simp
    with_reducible rfl
  rotate_left
  · simp only [Act.put, List.setIfInBounds_toArray, List.set_cons_zero, List.set_cons_succ, i64_w, i32_w]
    rfl
  refine pure_ (i := 2) (N := some 58) (v := ?_) (a' := ?_) #[true, true, true, false, false, false, false, false, false, false, false, false, false, false] rfl rfl (by kernel_rfl) (fun _ _ _ h => h) (Or.inl ⟨by rfl, ?_⟩) ?_ ?_
  rotate_left
  · intro w'
    go_simp
    with_reducible rfl
  rotate_left
  · simp only [Act.put, List.setIfInBounds_toArray, List.set_cons_zero, List.set_cons_succ, i64_w, i32_w]
    rfl
  refine take_ (i := 3) (N := some 59) (v := ?_) (a' := ?_) #[true, true, true, true, false, false, false, false, false, false, false, false, false, false] rfl rfl (by kernel_rfl) (fun _ _ _ h => h) (Or.inl ⟨by rfl, ?_⟩) hHeld ?_ ?_
  rotate_left
  · rintro w' ⟨s0, s1, s2, s3, s4, s5⟩
    go_simp
    with_reducible rfl
  rotate_left
  · simp only [Act.put, List.setIfInBounds_toArray, List.set_cons_zero, List.set_cons_succ, i64_w, i32_w]
    rfl
  refine pure_ (i := 4) (N := some 60) (v := ?_) (a' := ?_) #[true, true, true, true, true, false, false, false, false, false, false, false, false, false] rfl rfl (by kernel_rfl) (fun _ _ _ h => h) (Or.inl ⟨by rfl, ?_⟩) ?_ ?_
  rotate_left
  · intro w'
    go_simp
    with_reducible rfl
  rotate_left
  · simp only [Act.put, List.setIfInBounds_toArray, List.set_cons_zero, List.set_cons_succ, i64_w, i32_w]
    rfl
  refine pure_ (i := 5) (N := some 61) (v := ?_) (a' := ?_) #[true, true, true, true, true, true, false, false, false, false, false, false, false, false] rfl rfl (by kernel_rfl) (fun _ _ _ h => h) (Or.inl ⟨by rfl, ?_⟩) ?_ ?_
  rotate_left
  · intro w'
    go_simp
    with_reducible rfl
  rotate_left
  · simp only [Act.put, List.setIfInBounds_toArray, List.set_cons_zero, List.set_cons_succ, i64_w, i32_w]
    rfl
  refine take_ (i := 6) (N := some 62) (v := ?_) (a' := ?_) #[true, true, true, true, true, true, true, false, false, false, false, false, false, false] rfl rfl (by kernel_rfl) (fun _ _ _ h => h) (Or.inl ⟨by rfl, ?_⟩) hHeld ?_ ?_
  rotate_left
  · rintro w' ⟨s0, s1, s2, s3, s4, s5⟩
    go_simp
    with_reducible rfl
  rotate_left
  · simp only [Act.put, List.setIfInBounds_toArray, List.set_cons_zero, List.set_cons_succ, i64_w, i32_w]
    rfl
  refine pure_ (i := 7) (N := some 63) (v := ?_) (a' := ?_) #[true, true, true, true, true, true, true, true, false, false, false, false, false, false] rfl rfl (by kernel_rfl) (fun _ _ _ h => h) (Or.inl ⟨by rfl, ?_⟩) ?_ ?_
  rotate_left
  · intro w'
    go_simp
    with_reducible rfl
  rotate_left
  · simp only [Act.put, List.setIfInBounds_toArray, List.set_cons_zero, List.set_cons_succ, i64_w, i32_w]
    rfl
  refine pure_ (i := 8) (N := some 64) (v := ?_) (a' := ?_) #[true, true, true, true, true, true, true, true, true, false, false, false, false, false] rfl rfl (by kernel_rfl) (fun _ _ _ h => h) (Or.inl ⟨by rfl, ?_⟩) ?_ ?_
  rotate_left
  · intro w'
    go_simp
    with_reducible rfl
  rotate_left
  · simp only [Act.put, List.setIfInBounds_toArray, List.set_cons_zero, List.set_cons_succ, i64_w, i32_w]
    rfl
  refine take_ (i := 9) (N := some 65) (v := ?_) (a' := ?_) #[true, true, true, true, true, true, true, true, true, true, false, false, false, false] rfl rfl (by kernel_rfl) (fun _ _ _ h => h) (Or.inl ⟨by rfl, ?_⟩) hHeld ?_ ?_
  rotate_left
  · rintro w' ⟨s0, s1, s2, s3, s4, s5⟩
    go_simp
    with_reducible rfl
  rotate_left
  · simp only [Act.put, List.setIfInBounds_toArray, List.set_cons_zero, List.set_cons_succ, i64_w, i32_w]
    rfl
  refine pure_ (i := 10) (N := some 66) (v := ?_) (a' := ?_) #[true, true, true, true, true, true, true, true, true, true, true, false, false, false] rfl rfl (by kernel_rfl) (fun _ _ _ h => h) (Or.inl ⟨by rfl, ?_⟩) ?_ ?_
  rotate_left
  · intro w'
    go_simp
    with_reducible rfl
  rotate_left
  · simp only [Act.put, List.setIfInBounds_toArray, List.set_cons_zero, List.set_cons_succ, i64_w, i32_w]
    rfl
  refine take_ (i := 11) (N := some 67) (v := ?_) (a' := ?_) #[true, true, true, true, true, true, true, true, true, true, true, true, false, false] rfl rfl (by kernel_rfl) (fun _ _ _ h => h) (Or.inl ⟨by rfl, ?_⟩) hHeld ?_ ?_
  rotate_left
  · rintro w' ⟨s0, s1, s2, s3, s4, s5⟩
    go_simp
    with_reducible rfl
  rotate_left
  · simp only [Act.put, List.setIfInBounds_toArray, List.set_cons_zero, List.set_cons_succ, i64_w, i32_w]
    rfl
  refine one_ (i := 12) (N := some 68) #[true, true, true, true, true, true, true, true, true, true, true, true, true, false] rfl rfl (by kernel_rfl) (by decide) (fun K hK => ?_)
  refine call_ 44 #[.int .i64 size, .int .i64 sym] (by rfl) rfl ?_ ?_
  · have he := enters_ (P := Tryd.prog) Tryd.func44 (by kernel_rfl) rfl #[.int .i64 size, .int .i64 sym] w1.drew
    unfold execOp
    simp [resolve, Deferred.ofValue, invoke, Act.eval, he]
  refine (refsym_calls size sym w1.drew HSZ.out).mono ?_
  rintro e w6 ⟨rfl, hw⟩
  refine ⟨_, rfl, ?_⟩
  subst hw
  refine hK.out _ _ hHeld (fun hHeld6 => ?_)
  clear hK K hHeld
  refine norm_ (a' := ?_) ?_ ?_
  rotate_left
  · show Act.put _ (some 68) _ = _
    simp only [Act.put, List.setIfInBounds_toArray, List.set_cons_zero, List.set_cons_succ, i64_w, i32_w]
    rfl
  refine pure_ (i := 13) (N := some 69) (v := ?_) (a' := ?_) #[true, true, true, true, true, true, true, true, true, true, true, true, true, true] rfl rfl (by kernel_rfl) (fun _ _ _ h => h) (Or.inl ⟨by rfl, ?_⟩) ?_ ?_
  rotate_left
  · intro w'
    go_simp
    with_reducible rfl
  rotate_left
  · simp only [Act.put, List.setIfInBounds_toArray, List.set_cons_zero, List.set_cons_succ, i64_w, i32_w]
    rfl
  refine done_ (by kernel_rfl) ?_
  obtain ⟨Y, hY⟩ : ∃ Y, Y = symN size sym := ⟨_, rfl⟩
  rw [← hY] at HR ⊢
  clear hY
  by_cases hq : X + long = Y
  · have HR2 := Lib.hid (HR.out.1 hq)
    have c_q : (X + long == Y) = true := beq_iff_eq.2 hq
    have c_r : (X + long != Y) = false := bne_eq_false_iff_eq.2 hq
    clear hq
    go_wp2
    go_ret
    exact ⟨0, rfl, ⟨fun _ => HR2.out, fun _ => rfl⟩, hHeld6.2.2.2.2.2⟩
  · have HR2 : Hid (¬ PlanOk size sym blocks long short) := Lib.hid (fun h => hq (HR.out.2 h))
    have c_q : (X + long == Y) = false := beq_eq_false_iff_ne.2 hq
    have c_r : (X + long != Y) = true := bne_iff_ne.2 hq
    clear hq
    go_wp2
    go_ret
    exact ⟨2, rfl, ⟨fun h => (by cases h), fun h => absurd h HR2.out⟩, hHeld6.2.2.2.2.2⟩
end
section
open Go.RowKit Go.Deep Go.Proofs.YtfcofokbhhnfkaaDoor.Er Go.Proofs.YtfcofokbhhnfkaaDoorW.PrintWords Go.Proofs.YtfcofokbhhnfkaaDoorW.PrintLast Go.Proofs.YtfcofokbhhnfkaaDoorW.PrintMore
def HeadR (p : Pk) : Prop := (1 ≤ p.kind ∧ p.kind ≤ 2) ∧ (0 ≤ p.sess ∧ p.sess ≤ 65535) ∧ (0 ≤ p.layer ∧ p.layer ≤ 7) ∧ (0 ≤ p.tick ∧ p.tick ≤ 1099511627775)
instance (p : Pk) : Decidable (HeadR p) := by unfold HeadR; exact inferInstance
theorem head_all (p : Pk) : (headN p).all okN = decide (HeadR p) := by
  unfold headN okN HeadR
  simp only [List.all_cons, List.all_nil, Bool.and_true]
  rw [← Bool.decide_and, ← Bool.decide_and, ← Bool.decide_and]
theorem data_all {p : Pk} (h1 : -1 ≤ p.sync) (h2 : p.sync ≤ 7) (hb : I64 p.many) : (dataN p).all okN = decide (DataR p) := by
  unfold dataN okN
  simp only [List.all_cons, List.all_nil, Bool.and_true]
  rw [← Bool.decide_and, ← Bool.decide_and, ← Bool.decide_and, ← Bool.decide_and]
  refine decide_eq_decide.2 ?_
  unfold DataR
  rw [show wrap64 (p.sync + 1) = p.sync + 1 from w64 ⟨by omega, by omega⟩]
  constructor
  · rintro ⟨a1, a2, a3, a4, a5⟩
    rw [show wrap64 (p.many - 1) = p.many - 1 from w64 ⟨by omega, by omega⟩] at a3
    omega
  · rintro ⟨a1, a2, a3, a4, a5⟩
    rw [show wrap64 (p.many - 1) = p.many - 1 from w64 ⟨by omega, by omega⟩]
    omega
theorem ann_all {p : Pk} (h1 : p.layer = 0) (h2 : 2 ≤ p.base) (hb : PkB p) : (annN p).all okN = decide (AnnR p) := by
  have b1 := hb.size
  have b2 := hb.base
  unfold I64 at b1 b2
  unfold annN okN
  simp only [List.all_cons, List.all_nil, Bool.and_true]
  rw [← Bool.decide_and, ← Bool.decide_and, ← Bool.decide_and, ← Bool.decide_and]
  refine decide_eq_decide.2 ?_
  unfold AnnR
  rw [show wrap64 (p.base - 1) = p.base - 1 from w64 ⟨by omega, by omega⟩]
  omega
set_option maxHeartbeats 8000000 in
set_option maxRecDepth 100000 in
theorem ranged_calls (p : Pk) (u : Value) (w : World) (hu : u.cells = #[u]) (hb : PkB p) : Calls Tryd.prog 21 #[pkV p u] w fun e w' => e = .returned (.bool (decide (RangeOk p))) ∧ Below w.heap.size w w' := by
  have HU := Lib.hid hu
  have HB := Lib.hid hb
  obtain ⟨r, hr⟩ : ∃ r, r = decide (RangeOk p) := ⟨_, rfl⟩
  rw [← hr]
  by_cases h1 : HeadR p
  rotate_left
  · have HH : Hid ((headN p).all okN = false) := Lib.hid (by rw [head_all]; exact decide_eq_false h1)
    have HR : Hid (r = false) := Lib.hid (hr.trans (decide_eq_false (fun h => h1 (by
      obtain ⟨a1, a2, a3, a4⟩ := h
      exact ⟨by rcases a4 with q | q <;> omega, a1, a2, a3⟩))))
    clear hr h1 hu hb
    go_enter Tryd.func21, Tryd.ntmps21
    go_wp2_with (first
      | ((with_reducible refine gate_dst (N := 1) rfl ?_); refine wp_box rfl (.tmp 0) rfl rfl HU.out ?_; intro w2 hP hB hs; have H2 := Lib.hid (SB.mk hP hB); clear hP hB hs)
      | ((with_reducible refine gate_dst (N := 3) rfl ?_); refine wp_ldpk rfl (.tmp 1) rfl rfl H2.out.P ?_)
      | (go_at_call 41; refine (head_calls p u _ HU.out).mono ?_; rintro e w3 ⟨g3, c3, rfl, hN, hb⟩; have H3 := Lib.hid (And.intro (H2.out.below hb) hN); clear hN hb H2)
      | (go_at_call 40; refine (fits_calls _ g3 c3 (headN p) H3.out.2 (show 4 ≤ 1000 by decide)).mono ?_; rw [HH.out]; rintro e w4 ⟨rfl, hb⟩; have H4 := Lib.hid (H3.out.1.below hb); clear hb H3))
    go_ret
    exact ⟨by rw [HR.out]; rfl, H4.out.B⟩
  have HH : Hid ((headN p).all okN = true) := Lib.hid (by rw [head_all]; exact decide_eq_true h1)
  have hro : RangeOk p ↔ (p.kind = 1 ∧ DataR p ∨ p.kind = 2 ∧ AnnR p) := ⟨fun h => h.2.2.2, fun h => ⟨h1.2.1, h1.2.2.1, h1.2.2.2, h⟩⟩
  by_cases hk : p.kind = 1
  · have hro2 : RangeOk p ↔ DataR p := hro.trans ⟨fun h => h.elim (fun q => q.2) (fun q => by omega), fun h => .inl ⟨hk, h⟩⟩
    by_cases hs1 : -1 ≤ p.sync
    rotate_left
    · have HR : Hid (r = false) := Lib.hid (hr.trans (decide_eq_false (fun h => hs1 (hro2.1 h).1.1)))
      have d1 : decide (-1 ≤ p.sync) = false := decide_eq_false hs1
      have HK := Lib.hid hk
      clear hr h1 hu hb hro hro2 hs1 hk
      go_enter Tryd.func21, Tryd.ntmps21
      go_upto_region 3 with (first
        | ((with_reducible refine gate_dst (N := 1) rfl ?_); refine wp_box rfl (.tmp 0) rfl rfl HU.out ?_; intro w2 hP hB hs; have H2 := Lib.hid (SB.mk hP hB); clear hP hB hs)
        | ((with_reducible refine gate_dst (N := 3) rfl ?_); refine wp_ldpk rfl (.tmp 1) rfl rfl H2.out.P ?_)
        | (go_at_call 41; refine (head_calls p u _ HU.out).mono ?_; rintro e w3 ⟨g3, c3, rfl, hN, hb⟩; have H3 := Lib.hid (And.intro (H2.out.below hb) hN); clear hN hb H2)
        | (go_at_call 40; refine (fits_calls _ g3 c3 (headN p) H3.out.2 (show 4 ≤ 1000 by decide)).mono ?_; rw [HH.out]; rintro e w4 ⟨rfl, hb⟩; have H4 := Lib.hid (H3.out.1.below hb); clear hb H3))
      have s0 : w4.cell? ⟨w.heap.size, 0, none⟩ = some (.int .i64 1) := (blk_cell H4.out.P 0).trans (congrArg (fun z => some (Value.int .i64 z)) HK.out)
      have s2 : w4.cell? ⟨w.heap.size, 2, none⟩ = some (.int .i64 p.layer) := (blk_cell H4.out.P 2).trans rfl
      have s5 : w4.cell? ⟨w.heap.size, 5, none⟩ = some (.int .i64 p.sync) := (blk_cell H4.out.P 5).trans rfl
      have s18 : w4.cell? ⟨w.heap.size, 18, none⟩ = some (.int .i64 p.base) := (blk_cell H4.out.P 18).trans rfl
      go_wp2
      go_ret
      exact ⟨by rw [HR.out]; rfl, H4.out.B⟩
    by_cases hs2 : p.sync ≤ 7
    rotate_left
    · have HR : Hid (r = false) := Lib.hid (hr.trans (decide_eq_false (fun h => hs2 (hro2.1 h).1.2)))
      have d1 : decide (-1 ≤ p.sync) = true := decide_eq_true hs1
      have d2 : decide (p.sync ≤ 7) = false := decide_eq_false hs2
      have HK := Lib.hid hk
      clear hr h1 hu hb hro hro2 hs1 hs2 hk
      go_enter Tryd.func21, Tryd.ntmps21
      go_upto_region 3 with (first
        | ((with_reducible refine gate_dst (N := 1) rfl ?_); refine wp_box rfl (.tmp 0) rfl rfl HU.out ?_; intro w2 hP hB hs; have H2 := Lib.hid (SB.mk hP hB); clear hP hB hs)
        | ((with_reducible refine gate_dst (N := 3) rfl ?_); refine wp_ldpk rfl (.tmp 1) rfl rfl H2.out.P ?_)
        | (go_at_call 41; refine (head_calls p u _ HU.out).mono ?_; rintro e w3 ⟨g3, c3, rfl, hN, hb⟩; have H3 := Lib.hid (And.intro (H2.out.below hb) hN); clear hN hb H2)
        | (go_at_call 40; refine (fits_calls _ g3 c3 (headN p) H3.out.2 (show 4 ≤ 1000 by decide)).mono ?_; rw [HH.out]; rintro e w4 ⟨rfl, hb⟩; have H4 := Lib.hid (H3.out.1.below hb); clear hb H3))
      have s0 : w4.cell? ⟨w.heap.size, 0, none⟩ = some (.int .i64 1) := (blk_cell H4.out.P 0).trans (congrArg (fun z => some (Value.int .i64 z)) HK.out)
      have s2 : w4.cell? ⟨w.heap.size, 2, none⟩ = some (.int .i64 p.layer) := (blk_cell H4.out.P 2).trans rfl
      have s5 : w4.cell? ⟨w.heap.size, 5, none⟩ = some (.int .i64 p.sync) := (blk_cell H4.out.P 5).trans rfl
      have s18 : w4.cell? ⟨w.heap.size, 18, none⟩ = some (.int .i64 p.base) := (blk_cell H4.out.P 18).trans rfl
      go_wp2
      go_ret
      exact ⟨by rw [HR.out]; rfl, H4.out.B⟩
    have HR : Hid (r = (dataN p).all okN) := Lib.hid (by rw [hr, data_all hs1 hs2 hb.many]; exact decide_eq_decide.2 hro2)
    have d1 : decide (-1 ≤ p.sync) = true := decide_eq_true hs1
    have d2 : decide (p.sync ≤ 7) = true := decide_eq_true hs2
    have HK := Lib.hid hk
    clear hr h1 hu hb hro hro2 hs1 hs2 hk
    go_enter Tryd.func21, Tryd.ntmps21
    go_upto_region 3 with (first
      | ((with_reducible refine gate_dst (N := 1) rfl ?_); refine wp_box rfl (.tmp 0) rfl rfl HU.out ?_; intro w2 hP hB hs; have H2 := Lib.hid (SB.mk hP hB); clear hP hB hs)
      | ((with_reducible refine gate_dst (N := 3) rfl ?_); refine wp_ldpk rfl (.tmp 1) rfl rfl H2.out.P ?_)
      | (go_at_call 41; refine (head_calls p u _ HU.out).mono ?_; rintro e w3 ⟨g3, c3, rfl, hN, hb⟩; have H3 := Lib.hid (And.intro (H2.out.below hb) hN); clear hN hb H2)
      | (go_at_call 40; refine (fits_calls _ g3 c3 (headN p) H3.out.2 (show 4 ≤ 1000 by decide)).mono ?_; rw [HH.out]; rintro e w4 ⟨rfl, hb⟩; have H4 := Lib.hid (H3.out.1.below hb); clear hb H3))
    have s0 : w4.cell? ⟨w.heap.size, 0, none⟩ = some (.int .i64 1) := (blk_cell H4.out.P 0).trans (congrArg (fun z => some (Value.int .i64 z)) HK.out)
    have s2 : w4.cell? ⟨w.heap.size, 2, none⟩ = some (.int .i64 p.layer) := (blk_cell H4.out.P 2).trans rfl
    have s5 : w4.cell? ⟨w.heap.size, 5, none⟩ = some (.int .i64 p.sync) := (blk_cell H4.out.P 5).trans rfl
    have s18 : w4.cell? ⟨w.heap.size, 18, none⟩ = some (.int .i64 p.base) := (blk_cell H4.out.P 18).trans rfl
    go_wp2_with (first
      | ((with_reducible refine gate_dst (N := 19) rfl ?_); refine wp_ldpk_want (by rfl) (.tmp 1) rfl rfl H4.out.P ?_)
      | (go_at_call 42; refine (dataN_calls p u _ HU.out).mono ?_; rintro e w5 ⟨g5, c5, rfl, hN, hb⟩; have H5 := Lib.hid (And.intro (H4.out.below hb) hN); clear hN hb H4)
      | (go_at_call 40; refine (fits_calls _ g5 c5 (dataN p) H5.out.2 (show 5 ≤ 1000 by decide)).mono ?_; rw [← HR.out]; rintro e w6 ⟨rfl, hb⟩; have H6 := Lib.hid (H5.out.1.below hb); clear hb H5))
    go_ret
    exact ⟨rfl, H6.out.B⟩
  · have hk2 : p.kind = 2 := by have := h1.1; omega
    have hro2 : RangeOk p ↔ AnnR p := hro.trans ⟨fun h => h.elim (fun q => by omega) (fun q => q.2), fun h => .inr ⟨hk2, h⟩⟩
    have HK := Lib.hid hk2
    by_cases hs1 : p.layer = 0
    rotate_left
    · have HR : Hid (r = false) := Lib.hid (hr.trans (decide_eq_false (fun h => hs1 (hro2.1 h).1)))
      have d1 : (p.layer == 0) = false := beq_eq_false_iff_ne.2 hs1
      clear hr h1 hu hb hro hro2 hs1 hk hk2
      go_enter Tryd.func21, Tryd.ntmps21
      go_upto_region 3 with (first
        | ((with_reducible refine gate_dst (N := 1) rfl ?_); refine wp_box rfl (.tmp 0) rfl rfl HU.out ?_; intro w2 hP hB hs; have H2 := Lib.hid (SB.mk hP hB); clear hP hB hs)
        | ((with_reducible refine gate_dst (N := 3) rfl ?_); refine wp_ldpk rfl (.tmp 1) rfl rfl H2.out.P ?_)
        | (go_at_call 41; refine (head_calls p u _ HU.out).mono ?_; rintro e w3 ⟨g3, c3, rfl, hN, hb⟩; have H3 := Lib.hid (And.intro (H2.out.below hb) hN); clear hN hb H2)
        | (go_at_call 40; refine (fits_calls _ g3 c3 (headN p) H3.out.2 (show 4 ≤ 1000 by decide)).mono ?_; rw [HH.out]; rintro e w4 ⟨rfl, hb⟩; have H4 := Lib.hid (H3.out.1.below hb); clear hb H3))
      have s0 : w4.cell? ⟨w.heap.size, 0, none⟩ = some (.int .i64 2) := (blk_cell H4.out.P 0).trans (congrArg (fun z => some (Value.int .i64 z)) HK.out)
      have s2 : w4.cell? ⟨w.heap.size, 2, none⟩ = some (.int .i64 p.layer) := (blk_cell H4.out.P 2).trans rfl
      have s5 : w4.cell? ⟨w.heap.size, 5, none⟩ = some (.int .i64 p.sync) := (blk_cell H4.out.P 5).trans rfl
      have s18 : w4.cell? ⟨w.heap.size, 18, none⟩ = some (.int .i64 p.base) := (blk_cell H4.out.P 18).trans rfl
      go_wp2
      go_ret
      exact ⟨by rw [HR.out]; rfl, H4.out.B⟩
    by_cases hs2 : 2 ≤ p.base
    rotate_left
    · have HR : Hid (r = false) := Lib.hid (hr.trans (decide_eq_false (fun h => hs2 (hro2.1 h).2.2.2.2.1.1)))
      have d1 : (p.layer == 0) = true := beq_iff_eq.2 hs1
      have d2 : decide (2 ≤ p.base) = false := decide_eq_false hs2
      clear hr h1 hu hb hro hro2 hs1 hs2 hk hk2
      go_enter Tryd.func21, Tryd.ntmps21
      go_upto_region 3 with (first
        | ((with_reducible refine gate_dst (N := 1) rfl ?_); refine wp_box rfl (.tmp 0) rfl rfl HU.out ?_; intro w2 hP hB hs; have H2 := Lib.hid (SB.mk hP hB); clear hP hB hs)
        | ((with_reducible refine gate_dst (N := 3) rfl ?_); refine wp_ldpk rfl (.tmp 1) rfl rfl H2.out.P ?_)
        | (go_at_call 41; refine (head_calls p u _ HU.out).mono ?_; rintro e w3 ⟨g3, c3, rfl, hN, hb⟩; have H3 := Lib.hid (And.intro (H2.out.below hb) hN); clear hN hb H2)
        | (go_at_call 40; refine (fits_calls _ g3 c3 (headN p) H3.out.2 (show 4 ≤ 1000 by decide)).mono ?_; rw [HH.out]; rintro e w4 ⟨rfl, hb⟩; have H4 := Lib.hid (H3.out.1.below hb); clear hb H3))
      have s0 : w4.cell? ⟨w.heap.size, 0, none⟩ = some (.int .i64 2) := (blk_cell H4.out.P 0).trans (congrArg (fun z => some (Value.int .i64 z)) HK.out)
      have s2 : w4.cell? ⟨w.heap.size, 2, none⟩ = some (.int .i64 p.layer) := (blk_cell H4.out.P 2).trans rfl
      have s5 : w4.cell? ⟨w.heap.size, 5, none⟩ = some (.int .i64 p.sync) := (blk_cell H4.out.P 5).trans rfl
      have s18 : w4.cell? ⟨w.heap.size, 18, none⟩ = some (.int .i64 p.base) := (blk_cell H4.out.P 18).trans rfl
      go_wp2
      go_ret
      exact ⟨by rw [HR.out]; rfl, H4.out.B⟩
    have HR : Hid (r = (annN p).all okN) := Lib.hid (by rw [hr, ann_all hs1 hs2 hb]; exact decide_eq_decide.2 hro2)
    have d1 : (p.layer == 0) = true := beq_iff_eq.2 hs1
    have d2 : decide (2 ≤ p.base) = true := decide_eq_true hs2
    clear hr h1 hu hb hro hro2 hs1 hs2 hk hk2
    go_enter Tryd.func21, Tryd.ntmps21
    go_upto_region 3 with (first
      | ((with_reducible refine gate_dst (N := 1) rfl ?_); refine wp_box rfl (.tmp 0) rfl rfl HU.out ?_; intro w2 hP hB hs; have H2 := Lib.hid (SB.mk hP hB); clear hP hB hs)
      | ((with_reducible refine gate_dst (N := 3) rfl ?_); refine wp_ldpk rfl (.tmp 1) rfl rfl H2.out.P ?_)
      | (go_at_call 41; refine (head_calls p u _ HU.out).mono ?_; rintro e w3 ⟨g3, c3, rfl, hN, hb⟩; have H3 := Lib.hid (And.intro (H2.out.below hb) hN); clear hN hb H2)
      | (go_at_call 40; refine (fits_calls _ g3 c3 (headN p) H3.out.2 (show 4 ≤ 1000 by decide)).mono ?_; rw [HH.out]; rintro e w4 ⟨rfl, hb⟩; have H4 := Lib.hid (H3.out.1.below hb); clear hb H3))
    have s0 : w4.cell? ⟨w.heap.size, 0, none⟩ = some (.int .i64 2) := (blk_cell H4.out.P 0).trans (congrArg (fun z => some (Value.int .i64 z)) HK.out)
    have s2 : w4.cell? ⟨w.heap.size, 2, none⟩ = some (.int .i64 p.layer) := (blk_cell H4.out.P 2).trans rfl
    have s5 : w4.cell? ⟨w.heap.size, 5, none⟩ = some (.int .i64 p.sync) := (blk_cell H4.out.P 5).trans rfl
    have s18 : w4.cell? ⟨w.heap.size, 18, none⟩ = some (.int .i64 p.base) := (blk_cell H4.out.P 18).trans rfl
    go_wp2_with (first
      | ((with_reducible refine gate_dst (N := 32) rfl ?_); refine wp_ldpk_want (by rfl) (.tmp 1) rfl rfl H4.out.P ?_)
      | (go_at_call 43; refine (ann_calls p u _ HU.out).mono ?_; rintro e w5 ⟨g5, c5, rfl, hN, hb⟩; have H5 := Lib.hid (And.intro (H4.out.below hb) hN); clear hN hb H4)
      | (go_at_call 40; refine (fits_calls _ g5 c5 (annN p) H5.out.2 (show 5 ≤ 1000 by decide)).mono ?_; rw [← HR.out]; rintro e w6 ⟨rfl, hb⟩; have H6 := Lib.hid (H5.out.1.below hb); clear hb H5))
    go_ret
    exact ⟨rfl, H6.out.B⟩
end
section
open Go.RowKit Go.Deep Go.Proofs.YtfcofokbhhnfkaaDoor.Er Go.Proofs.YtfcofokbhhnfkaaDoorW.PrintWords Go.Proofs.YtfcofokbhhnfkaaDoorW.PrintLast Go.Proofs.YtfcofokbhhnfkaaDoorW.PrintMore
structure CS (w : World) (rb pb : Nat) (q : Pk) (v : Value) (W : World) : Prop where
  R : PkAt W rb pk0 (.slice none 0 0)
  Q : PkAt W pb q v
  B : Below w.heap.size w W
  h1 : w.heap.size ≤ rb
  h2 : rb < pb
theorem CS.below {w : World} {rb pb : Nat} {q : Pk} {v : Value} {W W' : World} (h : CS w rb pb q v W) (hb : Below W.heap.size W W') : CS w rb pb q v W' := ⟨h.R.below hb, h.Q.below hb, h.B.trans (hb.mono h.B.size), h.h1, h.h2⟩
theorem CS.put {w : World} {rb pb : Nat} {q : Pk} {v : Value} {W : World} (h : CS w rb pb q v W) (j : Nat) (u : Value) (q' : Pk) (v' : Value) (hc : (pkC q v).set j u = pkC q' v') : CS w rb pb q' v' (W.setCell ⟨pb, j, none⟩ u) := by
  have a1 := h.h1; have a2 := h.h2
  refine ⟨blk_far h.R (p := ⟨pb, j, none⟩) (show rb ≠ pb by omega) u, ?_, (Only.set W pb j u).below h.B (by omega), a1, a2⟩
  have := blk_set h.Q j u
  rw [List.setIfInBounds_toArray, hc] at this
  exact this
theorem CS.box {w W W1 W' : World} {rb pb : Nat} {q : Pk} {v : Value} (hR : PkAt W rb pk0 (.slice none 0 0)) (hB : Below w.heap.size w W) (h1 : w.heap.size ≤ rb) (hpb : pb = W.heap.size) (hb : Below W.heap.size W W1) (ho : Only W1 W' pb) (hp : PkAt W' pb q v) : CS w rb pb q v W' := by
  have hlt := lt_of hR
  have hW := hB.size
  have hb' : Below W.heap.size W W' := ho.below hb (by omega)
  exact ⟨hR.below hb', hp, hB.trans (hb'.mono hW), h1, by omega⟩
theorem CS.stPl {w : World} {rb pb : Nat} {q : Pk} {v : Value} {W : World} (h : CS w rb pb q v W) {ops : Array Oper} {rest : List Oper} {o : Oper} {a : Act} {Q : Exit → Act → World → Prop} (size sym blocks long short : Int) (hgd : o.guard = none) {x : Tmp} {y : Operand} (ho : o.op = .store 24 (.tmp x) y) (hN : o.dst = none)
    (hx : a.eval (.tmp x) = .pointer (some ⟨pb, 11, none⟩)) (hy : a.eval y = planV size sym blocks long short)
    (k : ∀ w' : World, Hid (CS w rb pb { q with size := size, sym := sym, blocks := blocks, long := long, short := short } v w') → wpList Tryd.prog ops Q rest a w') : wpList Tryd.prog ops Q (o :: rest) a W := by
  have hrun : (execOp a.eval o).run Tryd.prog W = .ok .skip (W.setCells pb 11 [.int .i64 size, .int .i64 sym, .int .i64 blocks, .int .i64 long, .int .i64 short]) := by
    have := run_store_run (P := Tryd.prog) 24 (planV size sym blocks long short) [.int .i64 size, .int .i64 sym, .int .i64 blocks, .int .i64 long, .int .i64 short] h.Q rfl (by kernel_rfl) (by simp [pkC]) (by intro z hz; simp at hz; rcases hz with rfl | rfl | rfl | rfl | rfl <;> rfl) (o := 11)
    unfold execOp
    simp only [ho, hx, hy, Sem.run_bind, this, Result.andThen_ok, Sem.run_pure]
  refine store_event hgd ho hN hrun ?_
  rintro w' rfl
  obtain ⟨s1, s2, s3, s4⟩ := setCells_same pb [.int .i64 size, .int .i64 sym, .int .i64 blocks, .int .i64 long, .int .i64 short] 11 W
  have hO : Only W (W.setCells pb 11 [.int .i64 size, .int .i64 sym, .int .i64 blocks, .int .i64 long, .int .i64 short]) pb := ⟨s1, s2, s3, s4, fun k hk => setCells_far _ _ k hk⟩
  have a1 := h.h1; have a2 := h.h2
  refine k _ (Lib.hid ⟨h.R.only hO (by omega), ?_, hO.below h.B (by omega), a1, a2⟩)
  obtain ⟨cur, c1, c2, c3⟩ := setCells_row [.int .i64 size, .int .i64 sym, .int .i64 blocks, .int .i64 long, .int .i64 short] 11 W _ h.Q (by simp [pkC])
  unfold PkAt
  rw [c1]
  rw [show cur = (pkC { q with size := size, sym := sym, blocks := blocks, long := long, short := short } v).toArray from Array.toList_inj.1 (c3.trans rfl)]
/-- A packet with what its kind has alone. -/
def bareP (p : Pk) : Pk := if p.kind = 1 then { pk0 with kind := p.kind, sess := p.sess, layer := p.layer, tick := p.tick, burst := p.burst, sync := p.sync, many := p.many, place := p.place, block := p.block, esi := p.esi, data := p.data } else { pk0 with kind := p.kind, sess := p.sess, layer := p.layer, tick := p.tick, size := p.size, sym := p.sym, blocks := p.blocks, long := p.long, short := p.short, layers := p.layers, esis := p.esis, base := p.base, len := p.len }
def bareV (p : Pk) (u : Value) : Value := if p.kind = 1 then u else .slice none 0 0
end
section
open Go.RowKit Go.Deep Go.Proofs.YtfcofokbhhnfkaaDoor.Er Go.Proofs.YtfcofokbhhnfkaaDoorW.PrintWords Go.Proofs.YtfcofokbhhnfkaaDoorW.PrintLast Go.Proofs.YtfcofokbhhnfkaaDoorW.PrintMore
set_option maxHeartbeats 8000000 in
set_option maxRecDepth 100000 in
theorem bare_calls (p : Pk) (A : Option Addr) (L c : Nat) (w : World) : Calls Tryd.prog 22 #[pkV p (.slice A L c)] w fun e w' => e = .returned (pkV (bareP p) (bareV p (.slice A L c))) ∧ Below w.heap.size w w' := by
  obtain ⟨kind, sess, layer, tick, burst, sync, many, place, block, esi, data, size, sym, blocks, long, short, layers, esis, base, len⟩ := p
  by_cases hk : kind = 1
  · skip
    have f_k : (kind == 1) = true := beq_iff_eq.2 hk
    have HBP : Hid (bareP (Pk.mk kind sess layer tick burst sync many place block esi data size sym blocks long short layers esis base len) = Pk.mk kind sess layer tick burst sync many place block esi data 0 0 0 0 0 0 0 0 0 ∧ bareV (Pk.mk kind sess layer tick burst sync many place block esi data size sym blocks long short layers esis base len) (.slice A L c) = (.slice A L c)) := Lib.hid ⟨if_pos hk, if_pos hk⟩
    clear hk
    go_enter Tryd.func22, Tryd.ntmps22
    go_upto_region 2 with (first
      | ((with_reducible refine gate_dst (N := 1) rfl ?_); refine wp_box (p := Pk.mk kind sess layer tick burst sync many place block esi data size sym blocks long short layers esis base len) rfl (.tmp 0) rfl rfl rfl ?_; intro w1 hP hB hs; have H1 := Lib.hid (And.intro hP (And.intro hB hs)); clear hP hB hs)
      | ((with_reducible refine gate_dst (N := 2) rfl ?_); refine wp_allocPk rfl rfl ?_; intro w2 hP hB hs; have H2 := Lib.hid (And.intro (H1.out.1.below hB) (And.intro hP (H1.out.2.1.trans (hB.mono H1.out.2.1.size)))); clear hP hB hs; have s0 : w2.cell? ⟨w.heap.size, 0, none⟩ = some (.int .i64 kind) := (blk_cell H2.out.1 0).trans rfl; have s1 : w2.cell? ⟨w.heap.size, 1, none⟩ = some (.int .i64 sess) := (blk_cell H2.out.1 1).trans rfl; have s2 : w2.cell? ⟨w.heap.size, 2, none⟩ = some (.int .i64 layer) := (blk_cell H2.out.1 2).trans rfl; have s3 : w2.cell? ⟨w.heap.size, 3, none⟩ = some (.int .i64 tick) := (blk_cell H2.out.1 3).trans rfl)
      | ((with_reducible refine gate_dst (N := 3) rfl ?_); refine wp_allocPk rfl rfl ?_; intro w3 hP hB hs; have H3 := Lib.hid (And.intro hP (And.intro hB hs)); clear hP hB hs)
      | ((with_reducible refine gate_store (t := 26) (p := 3) rfl ?_)
         refine wp_stpk (p := Pk.mk kind sess layer tick false 0 0 0 0 0 [] 0 0 0 0 0 0 0 0 0) (A := none) (L := 0) (c := 0) rfl rfl rfl rfl H3.out.1 rfl ?_
         intro w4 hP hO
         have HC0 := Lib.hid (CS.box (w := w) H2.out.2.1 H2.out.2.2 (by have := H1.out.2.2; omega) rfl H3.out.2.1 hO hP)
         have HP0 : Hid (PkAt w4 w.heap.size (Pk.mk kind sess layer tick burst sync many place block esi data size sym blocks long short layers esis base len) (.slice A L c)) := Lib.hid (H2.out.1.below (hO.below H3.out.2.1 (Nat.le_refl _)))
         clear hP hO))
    have HLT : Hid (w.heap.size < w1.heap.size ∧ w1.heap.size < w2.heap.size) := Lib.hid ⟨by have := H1.out.2.2; omega, HC0.out.h2⟩
    clear s0 s1 s2 s3 H3 H2 H1
    have s0 : w4.cell? ⟨w.heap.size, 0, none⟩ = some (.int .i64 kind) := (blk_cell HP0.out 0).trans rfl
    go_upto_region 3 with (fail)
    clear s0
    have l4 : w4.cell? ⟨w.heap.size, 4, none⟩ = some (.bool burst) := (blk_cell HP0.out 4).trans rfl
    have t4 : w4.cell? ⟨w2.heap.size, 4, none⟩ = some (.bool false) := (blk_cell HC0.out.Q 4).trans rfl
    have f4 := blk_frozen HC0.out.Q 4
    go_upto_region 4 with (fail)
    have HC1 := Lib.hid (HC0.out.put 4 (.bool burst) (Pk.mk kind sess layer tick burst 0 0 0 0 0 [] 0 0 0 0 0 0 0 0 0) (.slice none 0 0) rfl)
    have HP1 := Lib.hid (HP0.out.only (Only.set w4 w2.heap.size 4 (.bool burst)) (by have := HLT.out; omega))
    clear l4 t4 f4
    generalize (w4.setCell ⟨w2.heap.size, 4, none⟩ (.bool burst)) = x1 at HC1 HP1 ⊢
    clear HC0 HP0
    have l5 : x1.cell? ⟨w.heap.size, 5, none⟩ = some (.int .i64 sync) := (blk_cell HP1.out 5).trans rfl
    have t5 : x1.cell? ⟨w2.heap.size, 5, none⟩ = some (.int .i64 0) := (blk_cell HC1.out.Q 5).trans rfl
    have f5 := blk_frozen HC1.out.Q 5
    go_upto_region 5 with (fail)
    have HC2 := Lib.hid (HC1.out.put 5 (.int .i64 sync) (Pk.mk kind sess layer tick burst sync 0 0 0 0 [] 0 0 0 0 0 0 0 0 0) (.slice none 0 0) rfl)
    have HP2 := Lib.hid (HP1.out.only (Only.set x1 w2.heap.size 5 (.int .i64 sync)) (by have := HLT.out; omega))
    clear l5 t5 f5
    generalize (x1.setCell ⟨w2.heap.size, 5, none⟩ (.int .i64 sync)) = x2 at HC2 HP2 ⊢
    clear HC1 HP1
    have l6 : x2.cell? ⟨w.heap.size, 6, none⟩ = some (.int .i64 many) := (blk_cell HP2.out 6).trans rfl
    have t6 : x2.cell? ⟨w2.heap.size, 6, none⟩ = some (.int .i64 0) := (blk_cell HC2.out.Q 6).trans rfl
    have f6 := blk_frozen HC2.out.Q 6
    go_upto_region 6 with (fail)
    have HC3 := Lib.hid (HC2.out.put 6 (.int .i64 many) (Pk.mk kind sess layer tick burst sync many 0 0 0 [] 0 0 0 0 0 0 0 0 0) (.slice none 0 0) rfl)
    have HP3 := Lib.hid (HP2.out.only (Only.set x2 w2.heap.size 6 (.int .i64 many)) (by have := HLT.out; omega))
    clear l6 t6 f6
    generalize (x2.setCell ⟨w2.heap.size, 6, none⟩ (.int .i64 many)) = x3 at HC3 HP3 ⊢
    clear HC2 HP2
    have l7 : x3.cell? ⟨w.heap.size, 7, none⟩ = some (.int .i64 place) := (blk_cell HP3.out 7).trans rfl
    have t7 : x3.cell? ⟨w2.heap.size, 7, none⟩ = some (.int .i64 0) := (blk_cell HC3.out.Q 7).trans rfl
    have f7 := blk_frozen HC3.out.Q 7
    go_upto_region 7 with (fail)
    have HC4 := Lib.hid (HC3.out.put 7 (.int .i64 place) (Pk.mk kind sess layer tick burst sync many place 0 0 [] 0 0 0 0 0 0 0 0 0) (.slice none 0 0) rfl)
    have HP4 := Lib.hid (HP3.out.only (Only.set x3 w2.heap.size 7 (.int .i64 place)) (by have := HLT.out; omega))
    clear l7 t7 f7
    generalize (x3.setCell ⟨w2.heap.size, 7, none⟩ (.int .i64 place)) = x4 at HC4 HP4 ⊢
    clear HC3 HP3
    have l8 : x4.cell? ⟨w.heap.size, 8, none⟩ = some (.int .i64 block) := (blk_cell HP4.out 8).trans rfl
    have t8 : x4.cell? ⟨w2.heap.size, 8, none⟩ = some (.int .i64 0) := (blk_cell HC4.out.Q 8).trans rfl
    have f8 := blk_frozen HC4.out.Q 8
    go_upto_region 8 with (fail)
    have HC5 := Lib.hid (HC4.out.put 8 (.int .i64 block) (Pk.mk kind sess layer tick burst sync many place block 0 [] 0 0 0 0 0 0 0 0 0) (.slice none 0 0) rfl)
    have HP5 := Lib.hid (HP4.out.only (Only.set x4 w2.heap.size 8 (.int .i64 block)) (by have := HLT.out; omega))
    clear l8 t8 f8
    generalize (x4.setCell ⟨w2.heap.size, 8, none⟩ (.int .i64 block)) = x5 at HC5 HP5 ⊢
    clear HC4 HP4
    have l9 : x5.cell? ⟨w.heap.size, 9, none⟩ = some (.int .i64 esi) := (blk_cell HP5.out 9).trans rfl
    have t9 : x5.cell? ⟨w2.heap.size, 9, none⟩ = some (.int .i64 0) := (blk_cell HC5.out.Q 9).trans rfl
    have f9 := blk_frozen HC5.out.Q 9
    go_upto_region 9 with (fail)
    have HC6 := Lib.hid (HC5.out.put 9 (.int .i64 esi) (Pk.mk kind sess layer tick burst sync many place block esi [] 0 0 0 0 0 0 0 0 0) (.slice none 0 0) rfl)
    have HP6 := Lib.hid (HP5.out.only (Only.set x5 w2.heap.size 9 (.int .i64 esi)) (by have := HLT.out; omega))
    clear l9 t9 f9
    generalize (x5.setCell ⟨w2.heap.size, 9, none⟩ (.int .i64 esi)) = x6 at HC6 HP6 ⊢
    clear HC5 HP5
    have l10 : x6.cell? ⟨w.heap.size, 10, none⟩ = some (.slice A L c) := (blk_cell HP6.out 10).trans rfl
    have t10 : x6.cell? ⟨w2.heap.size, 10, none⟩ = some (.slice none 0 0) := (blk_cell HC6.out.Q 10).trans rfl
    have f10 := blk_frozen HC6.out.Q 10
    go_upto_region 10 with (fail)
    have HC7 := Lib.hid (HC6.out.put 10 (.slice A L c) (Pk.mk kind sess layer tick burst sync many place block esi data 0 0 0 0 0 0 0 0 0) (.slice A L c) rfl)
    have HP7 := Lib.hid (HP6.out.only (Only.set x6 w2.heap.size 10 (.slice A L c)) (by have := HLT.out; omega))
    clear l10 t10 f10
    generalize (x6.setCell ⟨w2.heap.size, 10, none⟩ (.slice A L c)) = x7 at HC7 HP7 ⊢
    clear HC6 HP6
    go_wp2_with (first
      | ((with_reducible refine gate_dst (N := 37) rfl ?_); refine wp_ldpk rfl (.tmp 3) rfl rfl HC7.out.Q ?_)
      | ((with_reducible refine gate_store (t := 26) (p := 2) rfl ?_)
         refine wp_stpk (p := Pk.mk kind sess layer tick burst sync many place block esi data 0 0 0 0 0 0 0 0 0) (A := A) (L := L) (c := c) rfl rfl rfl rfl HC7.out.R rfl ?_
         intro y4 hP hO
         have HE4 := Lib.hid (And.intro hP hO)
         clear hP hO))
    (try simp only [Exit.inBlock, Exit.then])
    refine bodyPost_ret (results_c1 rfl _ _ w1.heap.size _ _ _ _ rfl HE4.out.1 Tryd.underlying26 rfl (show (Tryd.prog.info? 26).map (·.size) = some 20 by kernel_rfl)) rfl ?_
    exact ⟨by rw [HBP.out.1, HBP.out.2]; rfl, HE4.out.2.below HC7.out.B HC7.out.h1⟩
  · skip
    have f_k : (kind == 1) = false := beq_eq_false_iff_ne.2 hk
    have HBP : Hid (bareP (Pk.mk kind sess layer tick burst sync many place block esi data size sym blocks long short layers esis base len) = Pk.mk kind sess layer tick false 0 0 0 0 0 [] size sym blocks long short layers esis base len ∧ bareV (Pk.mk kind sess layer tick burst sync many place block esi data size sym blocks long short layers esis base len) (.slice A L c) = (.slice none 0 0)) := Lib.hid ⟨if_neg hk, if_neg hk⟩
    clear hk
    go_enter Tryd.func22, Tryd.ntmps22
    go_upto_region 2 with (first
      | ((with_reducible refine gate_dst (N := 1) rfl ?_); refine wp_box (p := Pk.mk kind sess layer tick burst sync many place block esi data size sym blocks long short layers esis base len) rfl (.tmp 0) rfl rfl rfl ?_; intro w1 hP hB hs; have H1 := Lib.hid (And.intro hP (And.intro hB hs)); clear hP hB hs)
      | ((with_reducible refine gate_dst (N := 2) rfl ?_); refine wp_allocPk rfl rfl ?_; intro w2 hP hB hs; have H2 := Lib.hid (And.intro (H1.out.1.below hB) (And.intro hP (H1.out.2.1.trans (hB.mono H1.out.2.1.size)))); clear hP hB hs; have s0 : w2.cell? ⟨w.heap.size, 0, none⟩ = some (.int .i64 kind) := (blk_cell H2.out.1 0).trans rfl; have s1 : w2.cell? ⟨w.heap.size, 1, none⟩ = some (.int .i64 sess) := (blk_cell H2.out.1 1).trans rfl; have s2 : w2.cell? ⟨w.heap.size, 2, none⟩ = some (.int .i64 layer) := (blk_cell H2.out.1 2).trans rfl; have s3 : w2.cell? ⟨w.heap.size, 3, none⟩ = some (.int .i64 tick) := (blk_cell H2.out.1 3).trans rfl)
      | ((with_reducible refine gate_dst (N := 3) rfl ?_); refine wp_allocPk rfl rfl ?_; intro w3 hP hB hs; have H3 := Lib.hid (And.intro hP (And.intro hB hs)); clear hP hB hs)
      | ((with_reducible refine gate_store (t := 26) (p := 3) rfl ?_)
         refine wp_stpk (p := Pk.mk kind sess layer tick false 0 0 0 0 0 [] 0 0 0 0 0 0 0 0 0) (A := none) (L := 0) (c := 0) rfl rfl rfl rfl H3.out.1 rfl ?_
         intro w4 hP hO
         have HC0 := Lib.hid (CS.box (w := w) H2.out.2.1 H2.out.2.2 (by have := H1.out.2.2; omega) rfl H3.out.2.1 hO hP)
         have HP0 : Hid (PkAt w4 w.heap.size (Pk.mk kind sess layer tick burst sync many place block esi data size sym blocks long short layers esis base len) (.slice A L c)) := Lib.hid (H2.out.1.below (hO.below H3.out.2.1 (Nat.le_refl _)))
         clear hP hO))
    have HLT : Hid (w.heap.size < w1.heap.size ∧ w1.heap.size < w2.heap.size) := Lib.hid ⟨by have := H1.out.2.2; omega, HC0.out.h2⟩
    clear s0 s1 s2 s3 H3 H2 H1
    have s0 : w4.cell? ⟨w.heap.size, 0, none⟩ = some (.int .i64 kind) := (blk_cell HP0.out 0).trans rfl
    go_upto_region 11 with (fail)
    clear s0
    have l11 : w4.cell? ⟨w.heap.size, 11, none⟩ = some (.int .i64 size) := (blk_cell HP0.out 11).trans rfl
    have t11 : w4.cell? ⟨w2.heap.size, 11, none⟩ = some (.int .i64 0) := (blk_cell HC0.out.Q 11).trans rfl
    have f11 := blk_frozen HC0.out.Q 11
    have l12 : w4.cell? ⟨w.heap.size, 12, none⟩ = some (.int .i64 sym) := (blk_cell HP0.out 12).trans rfl
    have t12 : w4.cell? ⟨w2.heap.size, 12, none⟩ = some (.int .i64 0) := (blk_cell HC0.out.Q 12).trans rfl
    have f12 := blk_frozen HC0.out.Q 12
    have l13 : w4.cell? ⟨w.heap.size, 13, none⟩ = some (.int .i64 blocks) := (blk_cell HP0.out 13).trans rfl
    have t13 : w4.cell? ⟨w2.heap.size, 13, none⟩ = some (.int .i64 0) := (blk_cell HC0.out.Q 13).trans rfl
    have f13 := blk_frozen HC0.out.Q 13
    have l14 : w4.cell? ⟨w.heap.size, 14, none⟩ = some (.int .i64 long) := (blk_cell HP0.out 14).trans rfl
    have t14 : w4.cell? ⟨w2.heap.size, 14, none⟩ = some (.int .i64 0) := (blk_cell HC0.out.Q 14).trans rfl
    have f14 := blk_frozen HC0.out.Q 14
    have l15 : w4.cell? ⟨w.heap.size, 15, none⟩ = some (.int .i64 short) := (blk_cell HP0.out 15).trans rfl
    have t15 : w4.cell? ⟨w2.heap.size, 15, none⟩ = some (.int .i64 0) := (blk_cell HC0.out.Q 15).trans rfl
    have f15 := blk_frozen HC0.out.Q 15
    go_upto_region 12 with (fail)
    have HC1 := Lib.hid (((((HC0.out.put 11 (.int .i64 size) (Pk.mk kind sess layer tick false 0 0 0 0 0 [] size 0 0 0 0 0 0 0 0) (.slice none 0 0) rfl).put 12 (.int .i64 sym) (Pk.mk kind sess layer tick false 0 0 0 0 0 [] size sym 0 0 0 0 0 0 0) (.slice none 0 0) rfl).put 13 (.int .i64 blocks) (Pk.mk kind sess layer tick false 0 0 0 0 0 [] size sym blocks 0 0 0 0 0 0) (.slice none 0 0) rfl).put 14 (.int .i64 long) (Pk.mk kind sess layer tick false 0 0 0 0 0 [] size sym blocks long 0 0 0 0 0) (.slice none 0 0) rfl).put 15 (.int .i64 short) (Pk.mk kind sess layer tick false 0 0 0 0 0 [] size sym blocks long short 0 0 0 0) (.slice none 0 0) rfl)
    have HP1 := Lib.hid (((((HP0.out.only (Only.set w4 w2.heap.size 11 (.int .i64 size)) (by have := HLT.out; omega)).only (Only.set (w4.setCell ⟨w2.heap.size, 11, none⟩ (.int .i64 size)) w2.heap.size 12 (.int .i64 sym)) (by have := HLT.out; omega)).only (Only.set ((w4.setCell ⟨w2.heap.size, 11, none⟩ (.int .i64 size)).setCell ⟨w2.heap.size, 12, none⟩ (.int .i64 sym)) w2.heap.size 13 (.int .i64 blocks)) (by have := HLT.out; omega)).only (Only.set (((w4.setCell ⟨w2.heap.size, 11, none⟩ (.int .i64 size)).setCell ⟨w2.heap.size, 12, none⟩ (.int .i64 sym)).setCell ⟨w2.heap.size, 13, none⟩ (.int .i64 blocks)) w2.heap.size 14 (.int .i64 long)) (by have := HLT.out; omega)).only (Only.set ((((w4.setCell ⟨w2.heap.size, 11, none⟩ (.int .i64 size)).setCell ⟨w2.heap.size, 12, none⟩ (.int .i64 sym)).setCell ⟨w2.heap.size, 13, none⟩ (.int .i64 blocks)).setCell ⟨w2.heap.size, 14, none⟩ (.int .i64 long)) w2.heap.size 15 (.int .i64 short)) (by have := HLT.out; omega))
    clear l11 t11 f11 l12 t12 f12 l13 t13 f13 l14 t14 f14 l15 t15 f15
    generalize (((((w4.setCell ⟨w2.heap.size, 11, none⟩ (.int .i64 size)).setCell ⟨w2.heap.size, 12, none⟩ (.int .i64 sym)).setCell ⟨w2.heap.size, 13, none⟩ (.int .i64 blocks)).setCell ⟨w2.heap.size, 14, none⟩ (.int .i64 long)).setCell ⟨w2.heap.size, 15, none⟩ (.int .i64 short)) = x1 at HC1 HP1 ⊢
    clear HC0 HP0
    have l16 : x1.cell? ⟨w.heap.size, 16, none⟩ = some (.int .i64 layers) := (blk_cell HP1.out 16).trans rfl
    have t16 : x1.cell? ⟨w2.heap.size, 16, none⟩ = some (.int .i64 0) := (blk_cell HC1.out.Q 16).trans rfl
    have f16 := blk_frozen HC1.out.Q 16
    go_upto_region 13 with (fail)
    have HC2 := Lib.hid (HC1.out.put 16 (.int .i64 layers) (Pk.mk kind sess layer tick false 0 0 0 0 0 [] size sym blocks long short layers 0 0 0) (.slice none 0 0) rfl)
    have HP2 := Lib.hid (HP1.out.only (Only.set x1 w2.heap.size 16 (.int .i64 layers)) (by have := HLT.out; omega))
    clear l16 t16 f16
    generalize (x1.setCell ⟨w2.heap.size, 16, none⟩ (.int .i64 layers)) = x2 at HC2 HP2 ⊢
    clear HC1 HP1
    have l17 : x2.cell? ⟨w.heap.size, 17, none⟩ = some (.int .i64 esis) := (blk_cell HP2.out 17).trans rfl
    have t17 : x2.cell? ⟨w2.heap.size, 17, none⟩ = some (.int .i64 0) := (blk_cell HC2.out.Q 17).trans rfl
    have f17 := blk_frozen HC2.out.Q 17
    go_upto_region 14 with (fail)
    have HC3 := Lib.hid (HC2.out.put 17 (.int .i64 esis) (Pk.mk kind sess layer tick false 0 0 0 0 0 [] size sym blocks long short layers esis 0 0) (.slice none 0 0) rfl)
    have HP3 := Lib.hid (HP2.out.only (Only.set x2 w2.heap.size 17 (.int .i64 esis)) (by have := HLT.out; omega))
    clear l17 t17 f17
    generalize (x2.setCell ⟨w2.heap.size, 17, none⟩ (.int .i64 esis)) = x3 at HC3 HP3 ⊢
    clear HC2 HP2
    have l18 : x3.cell? ⟨w.heap.size, 18, none⟩ = some (.int .i64 base) := (blk_cell HP3.out 18).trans rfl
    have t18 : x3.cell? ⟨w2.heap.size, 18, none⟩ = some (.int .i64 0) := (blk_cell HC3.out.Q 18).trans rfl
    have f18 := blk_frozen HC3.out.Q 18
    go_upto_region 15 with (fail)
    have HC4 := Lib.hid (HC3.out.put 18 (.int .i64 base) (Pk.mk kind sess layer tick false 0 0 0 0 0 [] size sym blocks long short layers esis base 0) (.slice none 0 0) rfl)
    have HP4 := Lib.hid (HP3.out.only (Only.set x3 w2.heap.size 18 (.int .i64 base)) (by have := HLT.out; omega))
    clear l18 t18 f18
    generalize (x3.setCell ⟨w2.heap.size, 18, none⟩ (.int .i64 base)) = x4 at HC4 HP4 ⊢
    clear HC3 HP3
    have l19 : x4.cell? ⟨w.heap.size, 19, none⟩ = some (.int .i64 len) := (blk_cell HP4.out 19).trans rfl
    have t19 : x4.cell? ⟨w2.heap.size, 19, none⟩ = some (.int .i64 0) := (blk_cell HC4.out.Q 19).trans rfl
    have f19 := blk_frozen HC4.out.Q 19
    go_upto_region 16 with (fail)
    have HC5 := Lib.hid (HC4.out.put 19 (.int .i64 len) (Pk.mk kind sess layer tick false 0 0 0 0 0 [] size sym blocks long short layers esis base len) (.slice none 0 0) rfl)
    have HP5 := Lib.hid (HP4.out.only (Only.set x4 w2.heap.size 19 (.int .i64 len)) (by have := HLT.out; omega))
    clear l19 t19 f19
    generalize (x4.setCell ⟨w2.heap.size, 19, none⟩ (.int .i64 len)) = x5 at HC5 HP5 ⊢
    clear HC4 HP4
    go_wp2_with (first
      | ((with_reducible refine gate_dst (N := 53) rfl ?_); refine wp_ldpk rfl (.tmp 3) rfl rfl HC5.out.Q ?_)
      | ((with_reducible refine gate_store (t := 26) (p := 2) rfl ?_)
         refine wp_stpk (p := Pk.mk kind sess layer tick false 0 0 0 0 0 [] size sym blocks long short layers esis base len) (A := none) (L := 0) (c := 0) rfl rfl rfl rfl HC5.out.R rfl ?_
         intro y4 hP hO
         have HE4 := Lib.hid (And.intro hP hO)
         clear hP hO))
    (try simp only [Exit.inBlock, Exit.then])
    refine bodyPost_ret (results_c1 rfl _ _ w1.heap.size _ _ _ _ rfl HE4.out.1 Tryd.underlying26 rfl (show (Tryd.prog.info? 26).map (·.size) = some 20 by kernel_rfl)) rfl ?_
    exact ⟨by rw [HBP.out.1, HBP.out.2]; rfl, HE4.out.2.below HC5.out.B HC5.out.h1⟩
end
section
open Go.RowKit Go.Deep Go.Proofs.YtfcofokbhhnfkaaDoor.Er Go.Proofs.YtfcofokbhhnfkaaDoorW.PrintWords Go.Proofs.YtfcofokbhhnfkaaDoorW.PrintLast Go.Proofs.YtfcofokbhhnfkaaDoorW.PrintMore
theorem bare_data {p : Pk} (h : p.kind = 1) : p = bareP p ↔ (p.size = 0 ∧ p.sym = 0 ∧ p.blocks = 0 ∧ p.long = 0 ∧ p.short = 0) ∧ p.layers = 0 ∧ p.esis = 0 ∧ p.base = 0 ∧ p.len = 0 := by
  obtain ⟨kind, sess, layer, tick, burst, sync, many, place, block, esi, data, size, sym, blocks, long, short, layers, esis, base, len⟩ := p
  simp only at h
  unfold bareP pk0
  rw [if_pos h]
  simp only [Pk.mk.injEq]
  simp [and_assoc]
theorem bare_ann {p : Pk} (h : ¬ p.kind = 1) : p = bareP p ↔ p.burst = false ∧ p.sync = 0 ∧ p.many = 0 ∧ p.place = 0 ∧ p.block = 0 ∧ p.esi = 0 ∧ p.data = [] := by
  obtain ⟨kind, sess, layer, tick, burst, sync, many, place, block, esi, data, size, sym, blocks, long, short, layers, esis, base, len⟩ := p
  simp only at h
  unfold bareP pk0
  rw [if_neg h]
  simp only [Pk.mk.injEq]
  simp
theorem why_r {p : Pk} (h : ¬ RangeOk p) : whyP p = 1 := by unfold whyP; rw [if_neg h]
theorem why_b {p : Pk} (h : RangeOk p) (hb : ¬ p = bareP p) : whyP p = 2 := by
  unfold whyP
  rw [if_pos h]
  by_cases k : p.kind = 1
  · rw [if_pos k, if_neg (fun f => hb ((bare_data k).2 f.2))]
  · rw [if_neg k, if_neg (fun f => hb ((bare_ann k).2 ⟨f.1, f.2.1, f.2.2.1, f.2.2.2.1, f.2.2.2.2.1, f.2.2.2.2.2.1, f.2.2.2.2.2.2.1⟩))]
theorem why_d {p : Pk} (h : RangeOk p) (hb : p = bareP p) (k : p.kind = 1) : whyP p = if 1 ≤ p.data.length ∧ p.data.length ≤ 64 then 0 else 2 := by
  unfold whyP
  rw [if_pos h, if_pos k]
  by_cases c : 1 ≤ p.data.length ∧ p.data.length ≤ 64
  · rw [if_pos c, if_pos ⟨c, (bare_data k).1 hb⟩]
  · rw [if_neg c, if_neg (fun f => c f.1)]
theorem why_a {p : Pk} (h : RangeOk p) (hb : p = bareP p) (k : ¬ p.kind = 1) : whyP p = if PlanOk p.size p.sym p.blocks p.long p.short then 0 else 2 := by
  unfold whyP
  rw [if_pos h, if_neg k]
  obtain ⟨a1, a2, a3, a4, a5, a6, a7⟩ := (bare_ann k).1 hb
  by_cases c : PlanOk p.size p.sym p.blocks p.long p.short
  · rw [if_pos c, if_pos ⟨a1, a2, a3, a4, a5, a6, a7, c⟩]
  · rw [if_neg c, if_neg (fun f => c f.2.2.2.2.2.2.2)]
set_option maxHeartbeats 8000000 in
set_option maxRecDepth 100000 in
theorem rcheck_calls (p : Pk) (u : Value) (w : World) (hp : RdB (fun k => k < w.heap.size) w u p.data) (hb : PkB p) : Calls Tryd.prog 10 #[pkV p u] w fun e w' => e = .returned (.int .i64 (whyP p)) ∧ Below w.heap.size w w' := by
  have HU := Lib.hid (cells_of hp)
  have HPB := Lib.hid hb
  have HP := Lib.hid hp
  have HBV : Hid (RdB (fun k => k < w.heap.size) w (bareV p u) (bareP p).data) := Lib.hid (by
    unfold bareV bareP
    by_cases k : p.kind = 1
    · rw [if_pos k, if_pos k]; exact hp
    · rw [if_neg k, if_neg k]; exact ⟨none, 0, rfl, Nat.le_refl _, (show 0 ≤ 140737488355328 by decide), (fun x hx => by cases hx), fun e => absurd rfl e⟩)
  obtain ⟨A, c, rfl, _⟩ := hp
  obtain ⟨L, hL⟩ : ∃ L, L = p.data.length := ⟨_, rfl⟩
  have HLN := Lib.hid hL
  rw [← hL] at HU HP HBV ⊢
  obtain ⟨n, hn⟩ : ∃ n, n = whyP p := ⟨_, rfl⟩
  rw [← hn]
  clear hL
  by_cases hr : RangeOk p
  rotate_left
  · skip
    have HR : Hid (decide (RangeOk p) = false) := Lib.hid (decide_eq_false hr)
    have HN : Hid (n = 1) := Lib.hid (hn.trans (why_r hr))
    clear hr hn hb
    go_enter Tryd.func10, Tryd.ntmps10
    go_wp2_with (first
      | ((with_reducible refine gate_dst (N := 1) rfl ?_); refine wp_box rfl (.tmp 0) rfl rfl HU.out ?_; intro w2 hP hB hs; have H2 := Lib.hid (SB.mk hP hB); clear hP hB hs)
      | ((with_reducible refine gate_dst (N := 3) rfl ?_); refine wp_ldpk rfl (.tmp 1) rfl rfl H2.out.P ?_)
      | (go_at_call 21; refine (ranged_calls p _ _ HU.out HPB.out).mono ?_; rw [HR.out]; rintro e w4 ⟨rfl, hb⟩; have H4 := Lib.hid (H2.out.below hb); clear hb H2))
    go_ret
    exact ⟨by rw [HN.out]; rfl, H4.out.B⟩
  have HR : Hid (decide (RangeOk p) = true) := Lib.hid (decide_eq_true hr)
  by_cases hq : p = bareP p
  rotate_left
  · skip
    have HEQ : Hid (decide (p = bareP p) = false) := Lib.hid (decide_eq_false hq)
    have HN : Hid (n = 2) := Lib.hid (hn.trans (why_b hr hq))
    clear hr hn hb hq
    go_enter Tryd.func10, Tryd.ntmps10
    go_upto_region 3 with (first
      | ((with_reducible refine gate_dst (N := 1) rfl ?_); refine wp_box rfl (.tmp 0) rfl rfl HU.out ?_; intro w2 hP hB hs; have H2 := Lib.hid (SB.mk hP hB); clear hP hB hs)
      | ((with_reducible refine gate_dst (N := 3) rfl ?_); refine wp_ldpk rfl (.tmp 1) rfl rfl H2.out.P ?_)
      | (go_at_call 21; refine (ranged_calls p _ _ HU.out HPB.out).mono ?_; rw [HR.out]; rintro e w4 ⟨rfl, hb⟩; have H4 := Lib.hid (H2.out.below hb); clear hb H2))
    refine start_ (n := 5) (S := fun w' => SB w w.heap.size p (.slice A L c) w') (ds := []) #[false, false, false, false, false] (by kernel_rfl) rfl rfl H4.out.drew (fun hHeld => ?_)
    refine take_ (i := 0) (N := some 6) (v := pkV p (.slice A L c)) #[true, false, false, false, false] rfl rfl (by kernel_rfl) (fun _ _ _ h => h) (Or.inl ⟨by rfl, fun w' hs => run_ldpk (.tmp 1) rfl rfl hs.P⟩) hHeld rfl ?_
    refine norm_ (a' := ?_) ?_ ?_
    rotate_left
    · show Act.put _ (some 6) _ = _
      simp only [Act.put, List.setIfInBounds_toArray, List.set_cons_zero, List.set_cons_succ, i64_w, i32_w]
      rfl
    refine take_ (i := 1) (N := some 7) (v := pkV p (.slice A L c)) #[true, true, false, false, false] rfl rfl (by kernel_rfl) (fun _ _ _ h => h) (Or.inl ⟨by rfl, fun w' hs => run_ldpk (.tmp 1) rfl rfl hs.P⟩) hHeld rfl ?_
    refine norm_ (a' := ?_) ?_ ?_
    rotate_left
    · show Act.put _ (some 7) _ = _
      simp only [Act.put, List.setIfInBounds_toArray, List.set_cons_zero, List.set_cons_succ, i64_w, i32_w]
      rfl
    refine one_ (i := 2) (N := some 8) #[true, true, true, false, false] rfl rfl (by kernel_rfl) (by decide) (fun K hK => ?_)
    refine call_ 22 #[pkV p (.slice A L c)] (by rfl) rfl ?_ ?_
    · have he := enters_ (P := Tryd.prog) Tryd.func22 (by kernel_rfl) rfl #[pkV p (.slice A L c)] w4.drew
      unfold execOp
      simp [resolve, Deferred.ofValue, invoke, Act.eval, he]
    refine (bare_calls p A L c w4.drew).mono ?_
    rintro e w5 ⟨rfl, hb⟩
    refine ⟨_, rfl, ?_⟩
    have hH5x := hHeld.below hb
    clear hb
    refine hK.out _ _ hH5x (fun hH5 => ?_)
    clear hK K hHeld
    refine norm_ (a' := ?_) ?_ ?_
    rotate_left
    · show Act.put _ (some 8) _ = _
      simp only [Act.put, List.setIfInBounds_toArray, List.set_cons_zero, List.set_cons_succ, i64_w, i32_w]
      rfl
    refine one_ (i := 3) (N := some 9) #[true, true, true, true, false] rfl rfl (by kernel_rfl) (by decide) (fun K hK => ?_)
    refine call_ 16 #[pkV p (.slice A L c), pkV (bareP p) (bareV p (.slice A L c))] (by rfl) rfl ?_ ?_
    · have he := enters_ (P := Tryd.prog) Tryd.func16 (by kernel_rfl) rfl #[pkV p (.slice A L c), pkV (bareP p) (bareV p (.slice A L c))] w5
      unfold execOp
      simp [resolve, Deferred.ofValue, invoke, Act.eval, he]
    refine (SamR_calls (D := fun k => k < w.heap.size) (D' := fun k => k < w.heap.size) p (bareP p) (.slice A L c) (bareV p (.slice A L c)) w5 (HP.out.at0 hH5.B) (HBV.out.at0 hH5.B) (fun k hk => Nat.lt_of_lt_of_le hk hH5.B.size) (fun k hk => Nat.lt_of_lt_of_le hk hH5.B.size)).mono ?_
    rw [HEQ.out]
    rintro e w6 ⟨rfl, hb⟩
    refine ⟨_, rfl, ?_⟩
    have hH6x := hH5.below hb
    clear hb
    refine hK.out _ _ hH6x (fun hH6 => ?_)
    clear hK K hH5
    refine norm_ (a' := ?_) ?_ ?_
    rotate_left
    · show Act.put _ (some 9) _ = _
      simp only [Act.put, List.setIfInBounds_toArray, List.set_cons_zero, List.set_cons_succ, i64_w, i32_w]
      rfl
    refine pure_ (i := 4) (N := some 10) (v := ?_) (a' := ?_) #[true, true, true, true, true] rfl rfl (by kernel_rfl) (fun _ _ _ h => h) (Or.inl ⟨by rfl, ?_⟩) ?_ ?_
    rotate_left
    · intro w'
      go_simp
      with_reducible rfl
    rotate_left
    · simp only [Act.put, List.setIfInBounds_toArray, List.set_cons_zero, List.set_cons_succ, i64_w, i32_w]
      rfl
    refine done_ (by kernel_rfl) ?_
    go_wp2
    go_ret
    exact ⟨by rw [HN.out]; rfl, hH6.B⟩
  have HEQ : Hid (decide (p = bareP p) = true) := Lib.hid (decide_eq_true hq)
  by_cases hk : p.kind = 1
  · have HK := Lib.hid hk
    have hw := hn.trans (why_d hr hq hk)
    rw [← HLN.out] at hw
    by_cases h1 : (L : Int) < 1
    · skip
      have d1 : decide ((L : Int) < 1) = true := decide_eq_true h1
      have HN : Hid (n = 2) := Lib.hid (hw.trans (if_neg (by omega)))
      clear hr hn hb hq hk hw h1
      go_enter Tryd.func10, Tryd.ntmps10
      go_upto_region 3 with (first
        | ((with_reducible refine gate_dst (N := 1) rfl ?_); refine wp_box rfl (.tmp 0) rfl rfl HU.out ?_; intro w2 hP hB hs; have H2 := Lib.hid (SB.mk hP hB); clear hP hB hs)
        | ((with_reducible refine gate_dst (N := 3) rfl ?_); refine wp_ldpk rfl (.tmp 1) rfl rfl H2.out.P ?_)
        | (go_at_call 21; refine (ranged_calls p _ _ HU.out HPB.out).mono ?_; rw [HR.out]; rintro e w4 ⟨rfl, hb⟩; have H4 := Lib.hid (H2.out.below hb); clear hb H2))
      refine start_ (n := 5) (S := fun w' => SB w w.heap.size p (.slice A L c) w') (ds := []) #[false, false, false, false, false] (by kernel_rfl) rfl rfl H4.out.drew (fun hHeld => ?_)
      refine take_ (i := 0) (N := some 6) (v := pkV p (.slice A L c)) #[true, false, false, false, false] rfl rfl (by kernel_rfl) (fun _ _ _ h => h) (Or.inl ⟨by rfl, fun w' hs => run_ldpk (.tmp 1) rfl rfl hs.P⟩) hHeld rfl ?_
      refine norm_ (a' := ?_) ?_ ?_
      rotate_left
      · show Act.put _ (some 6) _ = _
        simp only [Act.put, List.setIfInBounds_toArray, List.set_cons_zero, List.set_cons_succ, i64_w, i32_w]
        rfl
      refine take_ (i := 1) (N := some 7) (v := pkV p (.slice A L c)) #[true, true, false, false, false] rfl rfl (by kernel_rfl) (fun _ _ _ h => h) (Or.inl ⟨by rfl, fun w' hs => run_ldpk (.tmp 1) rfl rfl hs.P⟩) hHeld rfl ?_
      refine norm_ (a' := ?_) ?_ ?_
      rotate_left
      · show Act.put _ (some 7) _ = _
        simp only [Act.put, List.setIfInBounds_toArray, List.set_cons_zero, List.set_cons_succ, i64_w, i32_w]
        rfl
      refine one_ (i := 2) (N := some 8) #[true, true, true, false, false] rfl rfl (by kernel_rfl) (by decide) (fun K hK => ?_)
      refine call_ 22 #[pkV p (.slice A L c)] (by rfl) rfl ?_ ?_
      · have he := enters_ (P := Tryd.prog) Tryd.func22 (by kernel_rfl) rfl #[pkV p (.slice A L c)] w4.drew
        unfold execOp
        simp [resolve, Deferred.ofValue, invoke, Act.eval, he]
      refine (bare_calls p A L c w4.drew).mono ?_
      rintro e w5 ⟨rfl, hb⟩
      refine ⟨_, rfl, ?_⟩
      have hH5x := hHeld.below hb
      clear hb
      refine hK.out _ _ hH5x (fun hH5 => ?_)
      clear hK K hHeld
      refine norm_ (a' := ?_) ?_ ?_
      rotate_left
      · show Act.put _ (some 8) _ = _
        simp only [Act.put, List.setIfInBounds_toArray, List.set_cons_zero, List.set_cons_succ, i64_w, i32_w]
        rfl
      refine one_ (i := 3) (N := some 9) #[true, true, true, true, false] rfl rfl (by kernel_rfl) (by decide) (fun K hK => ?_)
      refine call_ 16 #[pkV p (.slice A L c), pkV (bareP p) (bareV p (.slice A L c))] (by rfl) rfl ?_ ?_
      · have he := enters_ (P := Tryd.prog) Tryd.func16 (by kernel_rfl) rfl #[pkV p (.slice A L c), pkV (bareP p) (bareV p (.slice A L c))] w5
        unfold execOp
        simp [resolve, Deferred.ofValue, invoke, Act.eval, he]
      refine (SamR_calls (D := fun k => k < w.heap.size) (D' := fun k => k < w.heap.size) p (bareP p) (.slice A L c) (bareV p (.slice A L c)) w5 (HP.out.at0 hH5.B) (HBV.out.at0 hH5.B) (fun k hk => Nat.lt_of_lt_of_le hk hH5.B.size) (fun k hk => Nat.lt_of_lt_of_le hk hH5.B.size)).mono ?_
      rw [HEQ.out]
      rintro e w6 ⟨rfl, hb⟩
      refine ⟨_, rfl, ?_⟩
      have hH6x := hH5.below hb
      clear hb
      refine hK.out _ _ hH6x (fun hH6 => ?_)
      clear hK K hH5
      refine norm_ (a' := ?_) ?_ ?_
      rotate_left
      · show Act.put _ (some 9) _ = _
        simp only [Act.put, List.setIfInBounds_toArray, List.set_cons_zero, List.set_cons_succ, i64_w, i32_w]
        rfl
      refine pure_ (i := 4) (N := some 10) (v := ?_) (a' := ?_) #[true, true, true, true, true] rfl rfl (by kernel_rfl) (fun _ _ _ h => h) (Or.inl ⟨by rfl, ?_⟩) ?_ ?_
      rotate_left
      · intro w'
        go_simp
        with_reducible rfl
      rotate_left
      · simp only [Act.put, List.setIfInBounds_toArray, List.set_cons_zero, List.set_cons_succ, i64_w, i32_w]
        rfl
      refine done_ (by kernel_rfl) ?_
      have s0 : w6.cell? ⟨w.heap.size, 0, none⟩ = some (.int .i64 1) := (blk_cell hH6.P 0).trans (congrArg (fun z => some (Value.int .i64 z)) HK.out)
      have s10 : w6.cell? ⟨w.heap.size, 10, none⟩ = some (.slice A L c) := (blk_cell hH6.P 10).trans rfl
      go_wp2
      go_ret
      exact ⟨by rw [HN.out]; rfl, hH6.B⟩
    have d1 : decide ((L : Int) < 1) = false := decide_eq_false h1
    by_cases h2 : 64 < (L : Int)
    · skip
      have d2 : decide (64 < (L : Int)) = true := decide_eq_true h2
      have HN : Hid (n = 2) := Lib.hid (hw.trans (if_neg (by omega)))
      clear hr hn hb hq hk hw h1 h2
      go_enter Tryd.func10, Tryd.ntmps10
      go_upto_region 3 with (first
        | ((with_reducible refine gate_dst (N := 1) rfl ?_); refine wp_box rfl (.tmp 0) rfl rfl HU.out ?_; intro w2 hP hB hs; have H2 := Lib.hid (SB.mk hP hB); clear hP hB hs)
        | ((with_reducible refine gate_dst (N := 3) rfl ?_); refine wp_ldpk rfl (.tmp 1) rfl rfl H2.out.P ?_)
        | (go_at_call 21; refine (ranged_calls p _ _ HU.out HPB.out).mono ?_; rw [HR.out]; rintro e w4 ⟨rfl, hb⟩; have H4 := Lib.hid (H2.out.below hb); clear hb H2))
      refine start_ (n := 5) (S := fun w' => SB w w.heap.size p (.slice A L c) w') (ds := []) #[false, false, false, false, false] (by kernel_rfl) rfl rfl H4.out.drew (fun hHeld => ?_)
      refine take_ (i := 0) (N := some 6) (v := pkV p (.slice A L c)) #[true, false, false, false, false] rfl rfl (by kernel_rfl) (fun _ _ _ h => h) (Or.inl ⟨by rfl, fun w' hs => run_ldpk (.tmp 1) rfl rfl hs.P⟩) hHeld rfl ?_
      refine norm_ (a' := ?_) ?_ ?_
      rotate_left
      · show Act.put _ (some 6) _ = _
        simp only [Act.put, List.setIfInBounds_toArray, List.set_cons_zero, List.set_cons_succ, i64_w, i32_w]
        rfl
      refine take_ (i := 1) (N := some 7) (v := pkV p (.slice A L c)) #[true, true, false, false, false] rfl rfl (by kernel_rfl) (fun _ _ _ h => h) (Or.inl ⟨by rfl, fun w' hs => run_ldpk (.tmp 1) rfl rfl hs.P⟩) hHeld rfl ?_
      refine norm_ (a' := ?_) ?_ ?_
      rotate_left
      · show Act.put _ (some 7) _ = _
        simp only [Act.put, List.setIfInBounds_toArray, List.set_cons_zero, List.set_cons_succ, i64_w, i32_w]
        rfl
      refine one_ (i := 2) (N := some 8) #[true, true, true, false, false] rfl rfl (by kernel_rfl) (by decide) (fun K hK => ?_)
      refine call_ 22 #[pkV p (.slice A L c)] (by rfl) rfl ?_ ?_
      · have he := enters_ (P := Tryd.prog) Tryd.func22 (by kernel_rfl) rfl #[pkV p (.slice A L c)] w4.drew
        unfold execOp
        simp [resolve, Deferred.ofValue, invoke, Act.eval, he]
      refine (bare_calls p A L c w4.drew).mono ?_
      rintro e w5 ⟨rfl, hb⟩
      refine ⟨_, rfl, ?_⟩
      have hH5x := hHeld.below hb
      clear hb
      refine hK.out _ _ hH5x (fun hH5 => ?_)
      clear hK K hHeld
      refine norm_ (a' := ?_) ?_ ?_
      rotate_left
      · show Act.put _ (some 8) _ = _
        simp only [Act.put, List.setIfInBounds_toArray, List.set_cons_zero, List.set_cons_succ, i64_w, i32_w]
        rfl
      refine one_ (i := 3) (N := some 9) #[true, true, true, true, false] rfl rfl (by kernel_rfl) (by decide) (fun K hK => ?_)
      refine call_ 16 #[pkV p (.slice A L c), pkV (bareP p) (bareV p (.slice A L c))] (by rfl) rfl ?_ ?_
      · have he := enters_ (P := Tryd.prog) Tryd.func16 (by kernel_rfl) rfl #[pkV p (.slice A L c), pkV (bareP p) (bareV p (.slice A L c))] w5
        unfold execOp
        simp [resolve, Deferred.ofValue, invoke, Act.eval, he]
      refine (SamR_calls (D := fun k => k < w.heap.size) (D' := fun k => k < w.heap.size) p (bareP p) (.slice A L c) (bareV p (.slice A L c)) w5 (HP.out.at0 hH5.B) (HBV.out.at0 hH5.B) (fun k hk => Nat.lt_of_lt_of_le hk hH5.B.size) (fun k hk => Nat.lt_of_lt_of_le hk hH5.B.size)).mono ?_
      rw [HEQ.out]
      rintro e w6 ⟨rfl, hb⟩
      refine ⟨_, rfl, ?_⟩
      have hH6x := hH5.below hb
      clear hb
      refine hK.out _ _ hH6x (fun hH6 => ?_)
      clear hK K hH5
      refine norm_ (a' := ?_) ?_ ?_
      rotate_left
      · show Act.put _ (some 9) _ = _
        simp only [Act.put, List.setIfInBounds_toArray, List.set_cons_zero, List.set_cons_succ, i64_w, i32_w]
        rfl
      refine pure_ (i := 4) (N := some 10) (v := ?_) (a' := ?_) #[true, true, true, true, true] rfl rfl (by kernel_rfl) (fun _ _ _ h => h) (Or.inl ⟨by rfl, ?_⟩) ?_ ?_
      rotate_left
      · intro w'
        go_simp
        with_reducible rfl
      rotate_left
      · simp only [Act.put, List.setIfInBounds_toArray, List.set_cons_zero, List.set_cons_succ, i64_w, i32_w]
        rfl
      refine done_ (by kernel_rfl) ?_
      have s0 : w6.cell? ⟨w.heap.size, 0, none⟩ = some (.int .i64 1) := (blk_cell hH6.P 0).trans (congrArg (fun z => some (Value.int .i64 z)) HK.out)
      have s10 : w6.cell? ⟨w.heap.size, 10, none⟩ = some (.slice A L c) := (blk_cell hH6.P 10).trans rfl
      go_wp2
      go_ret
      exact ⟨by rw [HN.out]; rfl, hH6.B⟩
    have d2 : decide (64 < (L : Int)) = false := decide_eq_false h2
    have HN : Hid (n = 0) := Lib.hid (hw.trans (if_pos (by omega)))
    clear hr hn hb hq hk hw h1 h2
    go_enter Tryd.func10, Tryd.ntmps10
    go_upto_region 3 with (first
      | ((with_reducible refine gate_dst (N := 1) rfl ?_); refine wp_box rfl (.tmp 0) rfl rfl HU.out ?_; intro w2 hP hB hs; have H2 := Lib.hid (SB.mk hP hB); clear hP hB hs)
      | ((with_reducible refine gate_dst (N := 3) rfl ?_); refine wp_ldpk rfl (.tmp 1) rfl rfl H2.out.P ?_)
      | (go_at_call 21; refine (ranged_calls p _ _ HU.out HPB.out).mono ?_; rw [HR.out]; rintro e w4 ⟨rfl, hb⟩; have H4 := Lib.hid (H2.out.below hb); clear hb H2))
    refine start_ (n := 5) (S := fun w' => SB w w.heap.size p (.slice A L c) w') (ds := []) #[false, false, false, false, false] (by kernel_rfl) rfl rfl H4.out.drew (fun hHeld => ?_)
    refine take_ (i := 0) (N := some 6) (v := pkV p (.slice A L c)) #[true, false, false, false, false] rfl rfl (by kernel_rfl) (fun _ _ _ h => h) (Or.inl ⟨by rfl, fun w' hs => run_ldpk (.tmp 1) rfl rfl hs.P⟩) hHeld rfl ?_
    refine norm_ (a' := ?_) ?_ ?_
    rotate_left
    · show Act.put _ (some 6) _ = _
      simp only [Act.put, List.setIfInBounds_toArray, List.set_cons_zero, List.set_cons_succ, i64_w, i32_w]
      rfl
    refine take_ (i := 1) (N := some 7) (v := pkV p (.slice A L c)) #[true, true, false, false, false] rfl rfl (by kernel_rfl) (fun _ _ _ h => h) (Or.inl ⟨by rfl, fun w' hs => run_ldpk (.tmp 1) rfl rfl hs.P⟩) hHeld rfl ?_
    refine norm_ (a' := ?_) ?_ ?_
    rotate_left
    · show Act.put _ (some 7) _ = _
      simp only [Act.put, List.setIfInBounds_toArray, List.set_cons_zero, List.set_cons_succ, i64_w, i32_w]
      rfl
    refine one_ (i := 2) (N := some 8) #[true, true, true, false, false] rfl rfl (by kernel_rfl) (by decide) (fun K hK => ?_)
    refine call_ 22 #[pkV p (.slice A L c)] (by rfl) rfl ?_ ?_
    · have he := enters_ (P := Tryd.prog) Tryd.func22 (by kernel_rfl) rfl #[pkV p (.slice A L c)] w4.drew
      unfold execOp
      simp [resolve, Deferred.ofValue, invoke, Act.eval, he]
    refine (bare_calls p A L c w4.drew).mono ?_
    rintro e w5 ⟨rfl, hb⟩
    refine ⟨_, rfl, ?_⟩
    have hH5x := hHeld.below hb
    clear hb
    refine hK.out _ _ hH5x (fun hH5 => ?_)
    clear hK K hHeld
    refine norm_ (a' := ?_) ?_ ?_
    rotate_left
    · show Act.put _ (some 8) _ = _
      simp only [Act.put, List.setIfInBounds_toArray, List.set_cons_zero, List.set_cons_succ, i64_w, i32_w]
      rfl
    refine one_ (i := 3) (N := some 9) #[true, true, true, true, false] rfl rfl (by kernel_rfl) (by decide) (fun K hK => ?_)
    refine call_ 16 #[pkV p (.slice A L c), pkV (bareP p) (bareV p (.slice A L c))] (by rfl) rfl ?_ ?_
    · have he := enters_ (P := Tryd.prog) Tryd.func16 (by kernel_rfl) rfl #[pkV p (.slice A L c), pkV (bareP p) (bareV p (.slice A L c))] w5
      unfold execOp
      simp [resolve, Deferred.ofValue, invoke, Act.eval, he]
    refine (SamR_calls (D := fun k => k < w.heap.size) (D' := fun k => k < w.heap.size) p (bareP p) (.slice A L c) (bareV p (.slice A L c)) w5 (HP.out.at0 hH5.B) (HBV.out.at0 hH5.B) (fun k hk => Nat.lt_of_lt_of_le hk hH5.B.size) (fun k hk => Nat.lt_of_lt_of_le hk hH5.B.size)).mono ?_
    rw [HEQ.out]
    rintro e w6 ⟨rfl, hb⟩
    refine ⟨_, rfl, ?_⟩
    have hH6x := hH5.below hb
    clear hb
    refine hK.out _ _ hH6x (fun hH6 => ?_)
    clear hK K hH5
    refine norm_ (a' := ?_) ?_ ?_
    rotate_left
    · show Act.put _ (some 9) _ = _
      simp only [Act.put, List.setIfInBounds_toArray, List.set_cons_zero, List.set_cons_succ, i64_w, i32_w]
      rfl
    refine pure_ (i := 4) (N := some 10) (v := ?_) (a' := ?_) #[true, true, true, true, true] rfl rfl (by kernel_rfl) (fun _ _ _ h => h) (Or.inl ⟨by rfl, ?_⟩) ?_ ?_
    rotate_left
    · intro w'
      go_simp
      with_reducible rfl
    rotate_left
    · simp only [Act.put, List.setIfInBounds_toArray, List.set_cons_zero, List.set_cons_succ, i64_w, i32_w]
      rfl
    refine done_ (by kernel_rfl) ?_
    have s0 : w6.cell? ⟨w.heap.size, 0, none⟩ = some (.int .i64 1) := (blk_cell hH6.P 0).trans (congrArg (fun z => some (Value.int .i64 z)) HK.out)
    have s10 : w6.cell? ⟨w.heap.size, 10, none⟩ = some (.slice A L c) := (blk_cell hH6.P 10).trans rfl
    go_wp2
    go_ret
    exact ⟨by rw [HN.out]; rfl, hH6.B⟩
  · have hk2 : p.kind = 2 := hr.2.2.2.elim (fun q => absurd q.1 hk) (fun q => q.1)
    have HK := Lib.hid hk2
    have hw := hn.trans (why_a hr hq hk)
    have HSZ : Hid (p.size ≤ 4294967295) := Lib.hid (hr.2.2.2.elim (fun q => absurd q.1 hk) (fun q => by have := q.2.2.1; omega))
    have HW := Lib.hid hw
    clear hr hn hb hq hk hk2 hw
    go_enter Tryd.func10, Tryd.ntmps10
    go_upto_region 3 with (first
      | ((with_reducible refine gate_dst (N := 1) rfl ?_); refine wp_box rfl (.tmp 0) rfl rfl HU.out ?_; intro w2 hP hB hs; have H2 := Lib.hid (SB.mk hP hB); clear hP hB hs)
      | ((with_reducible refine gate_dst (N := 3) rfl ?_); refine wp_ldpk rfl (.tmp 1) rfl rfl H2.out.P ?_)
      | (go_at_call 21; refine (ranged_calls p _ _ HU.out HPB.out).mono ?_; rw [HR.out]; rintro e w4 ⟨rfl, hb⟩; have H4 := Lib.hid (H2.out.below hb); clear hb H2))
    refine start_ (n := 5) (S := fun w' => SB w w.heap.size p (.slice A L c) w') (ds := []) #[false, false, false, false, false] (by kernel_rfl) rfl rfl H4.out.drew (fun hHeld => ?_)
    refine take_ (i := 0) (N := some 6) (v := pkV p (.slice A L c)) #[true, false, false, false, false] rfl rfl (by kernel_rfl) (fun _ _ _ h => h) (Or.inl ⟨by rfl, fun w' hs => run_ldpk (.tmp 1) rfl rfl hs.P⟩) hHeld rfl ?_
    refine norm_ (a' := ?_) ?_ ?_
    rotate_left
    · show Act.put _ (some 6) _ = _
      simp only [Act.put, List.setIfInBounds_toArray, List.set_cons_zero, List.set_cons_succ, i64_w, i32_w]
      rfl
    refine take_ (i := 1) (N := some 7) (v := pkV p (.slice A L c)) #[true, true, false, false, false] rfl rfl (by kernel_rfl) (fun _ _ _ h => h) (Or.inl ⟨by rfl, fun w' hs => run_ldpk (.tmp 1) rfl rfl hs.P⟩) hHeld rfl ?_
    refine norm_ (a' := ?_) ?_ ?_
    rotate_left
    · show Act.put _ (some 7) _ = _
      simp only [Act.put, List.setIfInBounds_toArray, List.set_cons_zero, List.set_cons_succ, i64_w, i32_w]
      rfl
    refine one_ (i := 2) (N := some 8) #[true, true, true, false, false] rfl rfl (by kernel_rfl) (by decide) (fun K hK => ?_)
    refine call_ 22 #[pkV p (.slice A L c)] (by rfl) rfl ?_ ?_
    · have he := enters_ (P := Tryd.prog) Tryd.func22 (by kernel_rfl) rfl #[pkV p (.slice A L c)] w4.drew
      unfold execOp
      simp [resolve, Deferred.ofValue, invoke, Act.eval, he]
    refine (bare_calls p A L c w4.drew).mono ?_
    rintro e w5 ⟨rfl, hb⟩
    refine ⟨_, rfl, ?_⟩
    have hH5x := hHeld.below hb
    clear hb
    refine hK.out _ _ hH5x (fun hH5 => ?_)
    clear hK K hHeld
    refine norm_ (a' := ?_) ?_ ?_
    rotate_left
    · show Act.put _ (some 8) _ = _
      simp only [Act.put, List.setIfInBounds_toArray, List.set_cons_zero, List.set_cons_succ, i64_w, i32_w]
      rfl
    refine one_ (i := 3) (N := some 9) #[true, true, true, true, false] rfl rfl (by kernel_rfl) (by decide) (fun K hK => ?_)
    refine call_ 16 #[pkV p (.slice A L c), pkV (bareP p) (bareV p (.slice A L c))] (by rfl) rfl ?_ ?_
    · have he := enters_ (P := Tryd.prog) Tryd.func16 (by kernel_rfl) rfl #[pkV p (.slice A L c), pkV (bareP p) (bareV p (.slice A L c))] w5
      unfold execOp
      simp [resolve, Deferred.ofValue, invoke, Act.eval, he]
    refine (SamR_calls (D := fun k => k < w.heap.size) (D' := fun k => k < w.heap.size) p (bareP p) (.slice A L c) (bareV p (.slice A L c)) w5 (HP.out.at0 hH5.B) (HBV.out.at0 hH5.B) (fun k hk => Nat.lt_of_lt_of_le hk hH5.B.size) (fun k hk => Nat.lt_of_lt_of_le hk hH5.B.size)).mono ?_
    rw [HEQ.out]
    rintro e w6 ⟨rfl, hb⟩
    refine ⟨_, rfl, ?_⟩
    have hH6x := hH5.below hb
    clear hb
    refine hK.out _ _ hH6x (fun hH6 => ?_)
    clear hK K hH5
    refine norm_ (a' := ?_) ?_ ?_
    rotate_left
    · show Act.put _ (some 9) _ = _
      simp only [Act.put, List.setIfInBounds_toArray, List.set_cons_zero, List.set_cons_succ, i64_w, i32_w]
      rfl
    refine pure_ (i := 4) (N := some 10) (v := ?_) (a' := ?_) #[true, true, true, true, true] rfl rfl (by kernel_rfl) (fun _ _ _ h => h) (Or.inl ⟨by rfl, ?_⟩) ?_ ?_
    rotate_left
    · intro w'
      go_simp
      with_reducible rfl
    rotate_left
    · simp only [Act.put, List.setIfInBounds_toArray, List.set_cons_zero, List.set_cons_succ, i64_w, i32_w]
      rfl
    refine done_ (by kernel_rfl) ?_
    have s0 : w6.cell? ⟨w.heap.size, 0, none⟩ = some (.int .i64 2) := (blk_cell hH6.P 0).trans (congrArg (fun z => some (Value.int .i64 z)) HK.out)
    have s10 : w6.cell? ⟨w.heap.size, 10, none⟩ = some (.slice A L c) := (blk_cell hH6.P 10).trans rfl
    have s11 : w6.cell? ⟨w.heap.size, 11, none⟩ = some (.int .i64 p.size) := (blk_cell hH6.P 11).trans rfl
    have s12 : w6.cell? ⟨w.heap.size, 12, none⟩ = some (.int .i64 p.sym) := (blk_cell hH6.P 12).trans rfl
    have s13 : w6.cell? ⟨w.heap.size, 13, none⟩ = some (.int .i64 p.blocks) := (blk_cell hH6.P 13).trans rfl
    have s14 : w6.cell? ⟨w.heap.size, 14, none⟩ = some (.int .i64 p.long) := (blk_cell hH6.P 14).trans rfl
    have s15 : w6.cell? ⟨w.heap.size, 15, none⟩ = some (.int .i64 p.short) := (blk_cell hH6.P 15).trans rfl
    go_wp2_with (first
      | (go_at_call 23
         refine (chk14R_calls p.size p.sym p.blocks p.long p.short _ HSZ.out).mono ?_
         rintro e w7 ⟨m, rfl, hm, hb⟩
         have H7 := Lib.hid (And.intro hm (hH6.B.trans (hb.mono hH6.B.size)))
         clear hm hb
         by_cases h0 : m = 0
         · subst h0
           have HN : Hid (n = 0) := Lib.hid (HW.out.trans (if_pos (H7.out.1.1 rfl)))
           go_wp2
           go_ret
           exact ⟨by rw [HN.out]; rfl, H7.out.2⟩
         · have HN : Hid (n = 2) := Lib.hid (HW.out.trans (if_neg (fun h => h0 (H7.out.1.2 h))))
           have e1 : (m != 0) = true := bne_iff_ne.2 h0
           have e2 : (m == 0) = false := beq_eq_false_iff_ne.2 h0
           clear h0
           go_wp2
           go_ret
           exact ⟨by rw [HN.out]; rfl, H7.out.2⟩))
end
end Go.Proofs.YtfcofokbhhnfkaaDoor.Byt
