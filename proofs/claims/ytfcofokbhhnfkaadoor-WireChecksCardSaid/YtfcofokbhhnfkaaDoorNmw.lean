/- geyserref16's head, data, announce and fits by their contracts. Conditions: numbers as memory holds them. -/
import Derived.Test.YtfcofokbhhnfkaaDoorBas
namespace Go.Proofs.YtfcofokbhhnfkaaDoor.Byt
set_option linter.unusedSimpArgs false
set_option linter.unusedVariables false
open Go.RowKit Go.Deep Go.Proofs.YtfcofokbhhnfkaaDoor.Er Go.Proofs.YtfcofokbhhnfkaaDoorW.PrintWords Go.Proofs.YtfcofokbhhnfkaaDoorW.PrintLast Go.Proofs.YtfcofokbhhnfkaaDoorW.PrintMore
structure Nm where
  n : Int
  sz : Int
  lo : Int
  hi : Int
def nmC (x : Nm) : List Value := [.int .i64 x.n, .int .i64 x.sz, .int .i64 x.lo, .int .i64 x.hi]
def nmsC (L : List Nm) : List Value := L.flatMap nmC
def NumAt (w : World) (g : Nat) (L : List Nm) : Prop := w.heap[g]? = some (.cells (nmsC L).toArray 109 (0, 0))
theorem NumAt.below {w w' : World} {g : Nat} {L : List Nm} (h : NumAt w g L) (hb : Below w.heap.size w w') : NumAt w' g L := (hb.block g (lt_of h)).trans h
theorem nmsC_at : ∀ (L : List Nm) (i j : Nat) (x : Nm), L[i]? = some x → j < 4 → (nmsC L)[i * 4 + j]? = (nmC x)[j]?
  | y :: L, 0, j, x, h, hj => by
    cases h
    show (nmC y ++ nmsC L)[0 * 4 + j]? = _
    rw [List.getElem?_append_left (by show 0 * 4 + j < 4; omega), Nat.zero_mul, Nat.zero_add]
  | y :: L, i + 1, j, x, h, hj => by
    show (nmC y ++ nmsC L)[(i + 1) * 4 + j]? = _
    rw [List.getElem?_append_right (by show 4 ≤ _; omega)]
    have := nmsC_at L i j x h hj
    rw [← this]
    congr 1
    show (i + 1) * 4 + j - 4 = i * 4 + j
    omega
theorem NumAt.cell {w : World} {g : Nat} {L : List Nm} (h : NumAt w g L) {i : Nat} {x : Nm} (hx : L[i]? = some x) (j : Nat) (hj : j < 4) : w.cell? ⟨g, i * 4 + j, none⟩ = (nmC x)[j]? := by
  rw [blk_cell h]
  simpa using nmsC_at L i j x hx hj
def okN (x : Nm) : Bool := decide (x.lo ≤ x.n ∧ x.n ≤ x.hi)
theorem all_snoc {L : List Nm} {i : Nat} {x : Nm} (h : (L.take i).all okN = true) (hx : L[i]? = some x) (hk : okN x = true) : (L.take (i + 1)).all okN = true := by
  rw [List.take_add_one, hx, List.all_append, h]
  simp [hk]
theorem all_no {L : List Nm} {i : Nat} {x : Nm} (hx : L[i]? = some x) (hk : okN x = false) : L.all okN = false := by
  rw [List.all_eq_false]
  exact ⟨x, List.mem_of_getElem? hx, by rw [hk]; decide⟩
set_option maxHeartbeats 4000000 in
set_option maxRecDepth 100000 in
theorem fits_calls (w : World) (g c : Nat) (L : List Nm) (hg : NumAt w g L) (hl : L.length ≤ 1000) :
    Calls Tryd.prog 40 #[.slice (some ⟨g, 0, none⟩) L.length c] w fun e w' => e = .returned (.bool (L.all okN)) ∧ Below w.heap.size w w' := by
  have HG := Lib.hid hg
  obtain ⟨m, hm⟩ : ∃ m, m = L.length := ⟨_, rfl⟩
  have HM := Lib.hid hm
  rw [← hm] at hl ⊢
  obtain ⟨r, hr⟩ : ∃ r, r = L.all okN := ⟨_, rfl⟩
  have HR := Lib.hid hr
  rw [← hr]
  clear hg hm hr
  go_enter Tryd.func40, Tryd.ntmps40
  go_wp2
  go_loopg [3] (m + 1) (fun kq v3 wr => ∃ i : Nat, v3 = .int .i64 i ∧ Hid (i ≤ m ∧ kq = m + 1 - i ∧ (L.take i).all okN = true) ∧ Hid (NumAt wr g L ∧ Below w.heap.size w wr))
  case atStart => exact ⟨0, rfl, Lib.hid ⟨by omega, by omega, by simp⟩, Lib.hid ⟨HG.out, Below.refl _ _⟩⟩
  case round =>
    obtain ⟨i, rfl, HI, HW⟩ := hrel
    by_cases hi : i < m
    · obtain ⟨x, hx⟩ : ∃ x, L[i]? = some x := ⟨L[i]'(by rw [← HM.out]; exact hi), List.getElem?_eq_getElem _⟩
      have c0 : wr.cell? ⟨g, i * 4, none⟩ = some (.int .i64 x.n) := HW.out.1.cell hx 0 (by decide)
      have c2 : wr.cell? ⟨g, i * 4 + 2, none⟩ = some (.int .i64 x.lo) := HW.out.1.cell hx 2 (by decide)
      have c3 : wr.cell? ⟨g, i * 4 + 3, none⟩ = some (.int .i64 x.hi) := HW.out.1.cell hx 3 (by decide)
      have hi' : (i : Int) < (m : Int) := by omega
      have HX := Lib.hid hx
      clear hx
      obtain ⟨n, sz, lo, hi_⟩ := x
      dsimp only at c0 c2 c3
      by_cases h1 : n < lo
      · have d1 : decide (n < lo) = true := decide_eq_true h1
        have HE : Hid (r = false) := Lib.hid (HR.out.trans (all_no HX.out (decide_eq_false (fun h => by have := h.1; simp only at this; omega))))
        clear h1
        go_wp2
        go_quiet (fail)
        go_wp2
        go_ret
        exact ⟨by rw [HE.out]; rfl, HW.out.2.trans (pw_below_drewN (Below.refl _ _) _)⟩
      · have d1 : decide (n < lo) = false := decide_eq_false h1
        by_cases h2 : hi_ < n
        · have d2 : decide (hi_ < n) = true := decide_eq_true h2
          have HE : Hid (r = false) := Lib.hid (HR.out.trans (all_no HX.out (decide_eq_false (fun h => by have := h.2; simp only at this; omega))))
          clear h1 h2
          go_wp2
          go_quiet (fail)
          go_wp2
          go_ret
          exact ⟨by rw [HE.out]; rfl, HW.out.2.trans (pw_below_drewN (Below.refl _ _) _)⟩
        · have d2 : decide (hi_ < n) = false := decide_eq_false h2
          have HN : Hid ((L.take (i + 1)).all okN = true) := Lib.hid (all_snoc HI.out.2.2 HX.out (decide_eq_true ⟨by simp only; omega, by simp only; omega⟩))
          clear h1 h2
          go_wp2
          go_quiet (fail)
          have HW2 : Hid (NumAt (wr.drewN nq) g L ∧ Below w.heap.size w (wr.drewN nq)) := Lib.hid ⟨HW.out.1, pw_below_drewN HW.out.2 _⟩
          generalize wr.drewN nq = w2 at HW2 ⊢
          clear c0 c2 c3 HW
          go_wp2
          go_roundg (m - i)
          case measure => have := HI.out; omega
          case rel => exact ⟨i + 1, by go_num, Lib.hid ⟨by omega, by omega, HN.out⟩, HW2⟩
    · have HE : Hid (r = true) := Lib.hid (HR.out.trans (by
        have := HI.out.2.2
        rw [List.take_of_length_le (by have := HM.out; have := HI.out; omega)] at this
        exact this))
      go_wp2
      go_ret
      exact ⟨by rw [HE.out]; rfl, HW.out.2⟩
/-- What head, data and announce list. -/
def headN (p : Pk) : List Nm := [⟨p.kind, 1, 1, 2⟩, ⟨p.sess, 2, 0, 65535⟩, ⟨p.layer, 1, 0, 7⟩, ⟨p.tick, 5, 0, 1099511627775⟩]
def dataN (p : Pk) : List Nm := [⟨wrap64 (p.sync + 1), 1, 0, 8⟩, ⟨p.many, 2, 1, 4096⟩, ⟨p.place, 2, 0, wrap64 (p.many - 1)⟩, ⟨p.block, 1, 0, 15⟩, ⟨p.esi, 2, 0, 65535⟩]
def annN (p : Pk) : List Nm := [⟨p.size, 4, -9223372036854775808, 4294967295⟩, ⟨p.layers, 1, 1, 8⟩, ⟨p.esis, 2, 1, 65536⟩, ⟨p.base, 2, 2, 4096⟩, ⟨p.len, 2, 1, wrap64 (p.base - 1)⟩]
def NumR (w : World) (L : List Nm) (e : Ending) (w' : World) : Prop := ∃ g c, e = .returned (.slice (some ⟨g, 0, none⟩) L.length c) ∧ NumAt w' g L ∧ Below w.heap.size w w'
set_option maxHeartbeats 4000000 in
set_option maxRecDepth 100000 in
theorem head_calls (p : Pk) (u : Value) (w : World) (hu : u.cells = #[u]) : Calls Tryd.prog 41 #[pkV p u] w (NumR w (headN p)) := by
  obtain ⟨kind, sess, layer, tick, burst, sync, many, place, block, esi, data, size, sym, blocks, long, short, layers, esis, base, len⟩ := p
  go_enter Tryd.func41, Tryd.ntmps41
  go_wp2_with (first
    | ((with_reducible refine gate_dst (N := 1) rfl ?_); refine wp_box rfl (.tmp 0) rfl rfl hu ?_; intro w2 hP hB hs; obtain ⟨s0, s1, s2, s3, s4, s5, s6, s7, s8, s9, s10, s11, s12, s13, s14, s15, s16, s17, s18, s19⟩ := Wire.cell20 (w := w2) (g := w.heap.size) hP; have HB := Lib.hid hB; clear hP hB hs))
  go_ret
  exact ⟨_, _, rfl, heap_new _ _, HB.out.trans (((Below.refl _ _).alloc (Nat.le_refl _) _).mono HB.out.size)⟩
set_option maxHeartbeats 4000000 in
set_option maxRecDepth 100000 in
theorem dataN_calls (p : Pk) (u : Value) (w : World) (hu : u.cells = #[u]) : Calls Tryd.prog 42 #[pkV p u] w (NumR w (dataN p)) := by
  obtain ⟨kind, sess, layer, tick, burst, sync, many, place, block, esi, data, size, sym, blocks, long, short, layers, esis, base, len⟩ := p
  go_enter Tryd.func42, Tryd.ntmps42
  go_wp2_with (first
    | ((with_reducible refine gate_dst (N := 1) rfl ?_); refine wp_box rfl (.tmp 0) rfl rfl hu ?_; intro w2 hP hB hs; obtain ⟨s0, s1, s2, s3, s4, s5, s6, s7, s8, s9, s10, s11, s12, s13, s14, s15, s16, s17, s18, s19⟩ := Wire.cell20 (w := w2) (g := w.heap.size) hP; have HB := Lib.hid hB; clear hP hB hs))
  go_ret
  exact ⟨_, _, rfl, heap_new _ _, HB.out.trans (((Below.refl _ _).alloc (Nat.le_refl _) _).mono HB.out.size)⟩
set_option maxHeartbeats 4000000 in
set_option maxRecDepth 100000 in
theorem ann_calls (p : Pk) (u : Value) (w : World) (hu : u.cells = #[u]) : Calls Tryd.prog 43 #[pkV p u] w (NumR w (annN p)) := by
  obtain ⟨kind, sess, layer, tick, burst, sync, many, place, block, esi, data, size, sym, blocks, long, short, layers, esis, base, len⟩ := p
  go_enter Tryd.func43, Tryd.ntmps43
  go_wp2_with (first
    | ((with_reducible refine gate_dst (N := 1) rfl ?_); refine wp_box rfl (.tmp 0) rfl rfl hu ?_; intro w2 hP hB hs; obtain ⟨s0, s1, s2, s3, s4, s5, s6, s7, s8, s9, s10, s11, s12, s13, s14, s15, s16, s17, s18, s19⟩ := Wire.cell20 (w := w2) (g := w.heap.size) hP; have HB := Lib.hid hB; clear hP hB hs))
  go_ret
  exact ⟨_, _, rfl, heap_new _ _, HB.out.trans (((Below.refl _ _).alloc (Nat.le_refl _) _).mono HB.out.size)⟩
end Go.Proofs.YtfcofokbhhnfkaaDoor.Byt
