/- THE DOCUMENT'S NET AS A VALUE: read-only rows of hosts, of ticks, of items. Conditions: none. A copy of the document's hosts' row. Conditions: none. Whole structs in their own blocks, one step each: boxes, loads, stores. Conditions: none. geyserref22.with by its contract. Conditions: a net of at most 16 hosts. geyserref22.Join, Leave, Graft, Capacity, queue by their contracts. Conditions: a net of at most 16 hosts. geyserref22.Graft, Capacity, queue, Place by their contracts. Conditions: a net of at most 16 hosts. -/
import Derived.Test.YtpfpdbbgiimnmaaDoorActs
namespace Go.Proofs.YtpfpdbbgiimnmaaDoor.Net
set_option linter.unusedSimpArgs false
set_option linter.unusedVariables false
section
open Go.RowKit Go.Deep Go.Proofs.YtpfpdbbgiimnmaaDoor.Er Go.Proofs.YtpfpdbbgiimnmaaDoor.Mod Go.Proofs.YtpfpdbbgiimnmaaDoorW.PrintWords Go.Proofs.YtpfpdbbgiimnmaaDoorW.PrintLast
/-- The ticks from which layers come. -/
def FRef (w : World) (v : Value) (f : Nat → Int) : Prop := ∃ b c cur, v = .slice (some ⟨b, 0, none⟩) 8 c ∧ 8 ≤ c ∧ w.heap[b]? = some (.cells cur 3 (0, 0)) ∧ ∀ j, j < 8 → cur[j]? = some (Value.int .i64 (f j))
def itR (x : It) : List Value := [.string (strOfNums x.b), .int .i64 x.due, .bool x.sp]
/-- A queue. -/
def QRef (w : World) (v : Value) (q : List It) : Prop := ∃ A c, v = .slice A q.length c ∧ q.length ≤ c ∧ (q ≠ [] → ∃ b cur, A = some ⟨b, 0, none⟩ ∧ w.heap[b]? = some (.cells cur 116 (0, 0)) ∧ ∀ i x j, q[i]? = some x → j < 3 → cur[i * 3 + j]? = (itR x)[j]?)
/-- A host's seven cells: fv where its ticks lie, qv where its queue. -/
def hoR (x : Ho) (fv qv : Value) : List Value := [.bool x.there, .int .i64 x.level, fv, .int .i64 x.graft, .int .i64 x.cap, .int .i64 x.got, qv]
def HRef (w : World) (x : Ho) (fv qv : Value) : Prop := FRef w fv x.fro ∧ QRef w qv x.q
/-- The hosts' row. -/
def LRef (w : World) (v : Value) (s : Nt) : Prop := ∃ b c cur, v = .slice (some ⟨b, 0, none⟩) s.n c ∧ s.n ≤ c ∧ w.heap[b]? = some (.cells cur 89 (0, 0)) ∧ ∀ k, k < s.n → ∃ fv qv, HRef w (s.h k) fv qv ∧ ∀ j, j < 7 → cur[k * 7 + j]? = (hoR (s.h k) fv qv)[j]?
def NRef (w : World) (v : Value) (s : Nt) : Prop := ∃ lv, v = .agg #[.int .i64 s.now, lv] ∧ LRef w lv s
/-- What keeps the document's net: whatever writes no block of its types. -/
def RKeep (w w' : World) : Prop := ∀ (b : Nat) (cur : Array Value) (t : TypeId), w.heap[b]? = some (Obj.cells cur t (0, 0)) → (t = 3 ∨ t = 116 ∨ t = 89) → w'.heap[b]? = w.heap[b]?
theorem RKeep.of_below {w w' : World} (h : Below w.heap.size w w') : RKeep w w' := fun b cur t hc _ => h.block b (lt_of hc)
theorem FRef.keep {w w' : World} {v : Value} {f : Nat → Int} (h : FRef w v f) (k : RKeep w w') : FRef w' v f := by
  obtain ⟨b, c, cur, e, h1, h2, h3⟩ := h
  exact ⟨b, c, cur, e, h1, (k b cur _ h2 (.inl rfl)).trans h2, h3⟩
theorem QRef.keep {w w' : World} {v : Value} {q : List It} (h : QRef w v q) (k : RKeep w w') : QRef w' v q := by
  obtain ⟨A, c, e, h1, h2⟩ := h
  refine ⟨A, c, e, h1, fun hne => ?_⟩
  obtain ⟨b, cur, e2, h3, h4⟩ := h2 hne
  exact ⟨b, cur, e2, (k b cur _ h3 (.inr (.inl rfl))).trans h3, h4⟩
theorem HRef.keep {w w' : World} {x : Ho} {fv qv : Value} (h : HRef w x fv qv) (k : RKeep w w') : HRef w' x fv qv := ⟨h.1.keep k, h.2.keep k⟩
theorem LRef.keep {w w' : World} {v : Value} {s : Nt} (h : LRef w v s) (k : RKeep w w') : LRef w' v s := by
  obtain ⟨b, c, cur, e, h1, h2, h3⟩ := h
  refine ⟨b, c, cur, e, h1, (k b cur _ h2 (.inr (.inr rfl))).trans h2, fun i hi => ?_⟩
  obtain ⟨fv, qv, h4, h5⟩ := h3 i hi
  exact ⟨fv, qv, h4.keep k, h5⟩
theorem NRef.keep {w w' : World} {v : Value} {s : Nt} (h : NRef w v s) (k : RKeep w w') : NRef w' v s := by
  obtain ⟨lv, e, h1⟩ := h
  exact ⟨lv, e, h1.keep k⟩
theorem NRef.below {w w' : World} {v : Value} {s : Nt} (h : NRef w v s) (hb : Below w.heap.size w w') : NRef w' v s := h.keep (.of_below hb)
theorem NRef.parts {w : World} {v : Value} {s : Nt} (h : NRef w v s) : ∃ b c, v = .agg #[.int .i64 s.now, .slice (some ⟨b, 0, none⟩) s.n c] ∧ s.n ≤ c ∧ LRef w (.slice (some ⟨b, 0, none⟩) s.n c) s := by
  obtain ⟨lv, e, hl⟩ := h
  have hl2 := hl
  obtain ⟨b, c, cur, rfl, h1, h2, h3⟩ := hl
  exact ⟨b, c, e, h1, hl2⟩
set_option maxHeartbeats 4000000 in
theorem is_calls {w : World} {v : Value} {s : Nt} (h : NRef w v s) (hn : s.n ≤ 16) (i : Int) : Calls Tryd.prog 46 #[v, .int .i64 i] w fun e w' => e = .returned (.bool (decide (s.at i = 0))) ∧ Below w.heap.size w w' := by
  obtain ⟨b, c, rfl, hc, _⟩ := h.parts
  obtain ⟨n, hnn⟩ : ∃ n, n = s.n := ⟨_, rfl⟩
  obtain ⟨now, hnow⟩ : ∃ z, z = s.now := ⟨_, rfl⟩
  obtain ⟨r, hr⟩ : ∃ r, r = decide (s.at i = 0) := ⟨_, rfl⟩
  have hr2 : r = decide ((if i < 0 ∨ (n : Int) ≤ i then (1 : Int) else 0) = 0) := by rw [hr, hnn]; rfl
  rw [← hr, ← hnn, ← hnow]
  rw [← hnn] at hn hc
  clear hr hnn hnow h
  by_cases h1 : 0 ≤ i
  · have d1 : decide (0 ≤ i) = true := decide_eq_true h1
    by_cases h2 : i < (n : Int)
    · have d2 : decide (i < (n : Int)) = true := decide_eq_true h2
      have HE : Hid (r = true) := Lib.hid (by rw [hr2, if_neg (by omega)]; rfl)
      clear h1 h2 hr2
      go_enter Tryd.func46, Tryd.ntmps46
      go_wp2
      go_ret
      exact ⟨by rw [HE.out]; rfl, (Below.refl _ _).alloc (Nat.le_refl _) _⟩
    · have d2 : decide (i < (n : Int)) = false := decide_eq_false h2
      have HE : Hid (r = false) := Lib.hid (by rw [hr2, if_pos (by omega)]; rfl)
      clear h1 h2 hr2
      go_enter Tryd.func46, Tryd.ntmps46
      go_wp2
      go_ret
      exact ⟨by rw [HE.out]; rfl, (Below.refl _ _).alloc (Nat.le_refl _) _⟩
  · have d1 : decide (0 ≤ i) = false := decide_eq_false h1
    have HE : Hid (r = false) := Lib.hid (by rw [hr2, if_pos (by omega)]; rfl)
    clear h1 hr2
    go_enter Tryd.func46, Tryd.ntmps46
    go_wp2
    go_ret
    exact ⟨by rw [HE.out]; rfl, (Below.refl _ _).alloc (Nat.le_refl _) _⟩
end
section
open Go.RowKit Go.Deep Go.Proofs.YtpfpdbbgiimnmaaDoor.Er Go.Proofs.YtpfpdbbgiimnmaaDoor.Mod Go.Proofs.YtpfpdbbgiimnmaaDoorW.PrintWords Go.Proofs.YtpfpdbbgiimnmaaDoorW.PrintLast
def hoZ : Value := .agg #[.bool false, .int .i64 0, .slice none 0 0, .int .i64 0, .int .i64 0, .int .i64 0, .slice none 0 0]
theorem infoRH : (Tryd.prog.info? 89).map (fun i => (i.zero, i.size, i.bytes)) = some (some hoZ, 7, 88) := by kernel_rfl
set_option maxRecDepth 100000 in
theorem host_copy {w : World} {n c b : Nat} {cs : List Value} (hn : 1 ≤ n ∧ n ≤ 16) (hl : cs.length = n * 7) (hc : ∀ (j : Nat) (u : Value), cs[j]? = some u → w.cell? ((⟨b, 0, none⟩ : Addr).add j) = some u) (h1 : ∀ u ∈ cs, u.oneCell' = true) (hle : n ≤ c) (ty : TypeId) (g : Addr) :
    ∃ v' w', (Builtin.append_ #[38, 38] ty #[.slice (some g) 0 0, .slice (some ⟨b, 0, none⟩) n c]).run Tryd.prog w = .ok v' w' ∧ Below w.heap.size w w' ∧ ∃ b' c' cur, v' = .slice (some ⟨b', 0, none⟩) n c' ∧ w.heap.size ≤ b' ∧ n ≤ c' ∧ w'.heap[b']? = some (.cells cur 89 (0, 0)) ∧ cur.toList.take (n * 7) = cs ∧ n * 7 ≤ cur.size := by
  obtain ⟨i, hi, hz0, hz1, hz2⟩ := info_parts infoRH
  obtain ⟨v', w', hr, ho, hg⟩ := run_append_arg_grows (P := Tryd.prog) w 38 ty 89 i hoZ 7 88 Tryd.underlying38 hi hz0 hz1 hz2 rfl (by decide) g 0 0 [] rfl (by simp) ⟨b, 0, none⟩ n c cs (by simpa using hl) hc (by omega) (by simp only [maxLen]; omega) (by omega)
  refine ⟨v', w', hr, ⟨hg.os, hg.tape, hg.output, hg.size, fun k hk => hg.block k hk (by simp)⟩, ?_⟩
  rcases ho.2 with ⟨_, e⟩ | ⟨b', cap, cur, e, hb, hcur, k1, k2, k3, k4⟩
  · omega
  · rw [Nat.zero_add] at e k1 k4
    exact ⟨b', cap, cur, e, hb, k1, hcur, by rw [k4, List.nil_append], by rw [k3]; omega⟩
end
section
open Go.RowKit Go.Deep Go.Proofs.YtpfpdbbgiimnmaaDoor.Er Go.Proofs.YtpfpdbbgiimnmaaDoor.Mod Go.Proofs.YtpfpdbbgiimnmaaDoorW.PrintWords Go.Proofs.YtpfpdbbgiimnmaaDoorW.PrintLast
theorem results_c1 {P : Program} {fn : Func} {p : Tmp} {ty : TypeId} (h : fn.results = #[.cell p ty]) (tmps : Array Value) (w : World) (g : Nat) (t : TypeId) (cs : Array Value) (fr : Nat × Nat) (d : TypeDesc)
    (hp : tmps.getD p undef = .pointer (some ⟨g, 0, none⟩)) (hg : w.heap[g]? = some (.cells cs t fr))
    (hu : P.underlying ty = some d) (hd : (match d with | .struct _ | .array _ _ => true | _ => false) = true) (hi : (P.info? ty).map (·.size) = some cs.size) :
    (results fn tmps).run P w = .ok (.agg cs) w := by
  have hp' : tmps[p]?.getD undef = .pointer (some ⟨g, 0, none⟩) := by simpa using hp
  simp [results, h, hp', asAddr, run_loadVar_row w g t ty cs fr d hg hu hd hi]
/-- A block of cells. -/
def Bk (w : World) (g t : Nat) (cs : List Value) : Prop := w.heap[g]? = some (.cells cs.toArray t (0, 0))
theorem Bk.lt {w : World} {g t : Nat} {cs : List Value} (h : Bk w g t cs) : g < w.heap.size := lt_of h
theorem Bk.below {w w' : World} {g t : Nat} {cs : List Value} (h : Bk w g t cs) (hb : Below w.heap.size w w') : Bk w' g t cs := (hb.block g h.lt).trans h
theorem Bk.cell {w : World} {g t : Nat} {cs : List Value} (h : Bk w g t cs) (j : Nat) : w.cell? ⟨g, j, none⟩ = cs[j]? := (blk_cell h j).trans (by simp)
theorem Bk.frozen {w : World} {g t : Nat} {cs : List Value} (h : Bk w g t cs) (j : Nat) : w.frozen? ⟨g, j, none⟩ = false := blk_frozen h j
theorem Bk.set {w : World} {g t : Nat} {cs : List Value} (h : Bk w g t cs) (j : Nat) (u : Value) : Bk (w.setCell ⟨g, j, none⟩ u) g t (cs.set j u) := by
  have := blk_set h j u
  rw [List.setIfInBounds_toArray] at this
  exact this
theorem Bk.far {w : World} {g t : Nat} {cs : List Value} (h : Bk w g t cs) {g' : Nat} (hne : g ≠ g') (j : Nat) (u : Value) : Bk (w.setCell ⟨g', j, none⟩ u) g t cs := blk_far h (p := ⟨g', j, none⟩) hne u
/-- Blocks of one's own, the last one first. -/
structure Bs (w0 w : World) (bs : List (Nat × Nat × List Value)) : Prop where
  B : Below w0.heap.size w0 w
  bk : ∀ b ∈ bs, Bk w b.1 b.2.1 b.2.2 ∧ w0.heap.size ≤ b.1
  ap : bs.Pairwise (fun a b => b.1 < a.1)
theorem Bs.start (w : World) : Bs w w [] := ⟨Below.refl _ _, (fun _ h => nomatch h), List.Pairwise.nil⟩
theorem Bs.below {w0 w w' : World} {bs : List (Nat × Nat × List Value)} (h : Bs w0 w bs) (hb : Below w.heap.size w w') : Bs w0 w' bs := ⟨h.B.trans (hb.mono h.B.size), fun b hm => ⟨(h.bk b hm).1.below hb, (h.bk b hm).2⟩, h.ap⟩
theorem Bs.add {w0 w w' : World} {bs : List (Nat × Nat × List Value)} (h : Bs w0 w bs) {g t : Nat} {cs : List Value} (hg : w.heap.size ≤ g) (hb : Below w.heap.size w w') (hk : Bk w' g t cs) : Bs w0 w' ((g, t, cs) :: bs) := by
  have h' := h.below hb
  refine ⟨h'.B, fun b hm => ?_, List.Pairwise.cons (fun b hm => Nat.lt_of_lt_of_le (h.bk b hm).1.lt hg) h.ap⟩
  rcases List.mem_cons.1 hm with rfl | hm
  · exact ⟨hk, Nat.le_trans h.B.size hg⟩
  · exact h'.bk b hm
theorem Bs.get {w0 w : World} {bs : List (Nat × Nat × List Value)} (h : Bs w0 w bs) (k : Nat) {g t : Nat} {cs : List Value} (hk : bs[k]? = some (g, t, cs)) : Bk w g t cs := (h.bk _ (List.mem_of_getElem? hk)).1
theorem Bs.ne {w0 w : World} {bs : List (Nat × Nat × List Value)} (h : Bs w0 w bs) {i j : Nat} {a b : Nat × Nat × List Value} (hi : bs[i]? = some a) (hj : bs[j]? = some b) (hne : i ≠ j) : a.1 ≠ b.1 := by
  obtain ⟨hi1, rfl⟩ := List.getElem?_eq_some_iff.1 hi
  obtain ⟨hj1, rfl⟩ := List.getElem?_eq_some_iff.1 hj
  rcases Nat.lt_or_ge i j with hl | hl
  · have := (List.pairwise_iff_getElem.1 h.ap) i j hi1 hj1 hl; omega
  · have := (List.pairwise_iff_getElem.1 h.ap) j i hj1 hi1 (by omega); omega
/-- One block of them is written anew. -/
theorem Bs.put {w0 w w' : World} {bs : List (Nat × Nat × List Value)} (h : Bs w0 w bs) (k : Nat) {g t : Nat} {cs cs' : List Value} (hk : bs[k]? = some (g, t, cs)) (hs : w'.heap.size = w.heap.size) (ho : w'.os = w.os ∧ w'.tape = w.tape ∧ w'.output = w.output) (hfar : ∀ i, i ≠ g → w'.heap[i]? = w.heap[i]?) (hn : Bk w' g t cs') : Bs w0 w' (bs.set k (g, t, cs')) := by
  have hg : w0.heap.size ≤ g := (h.bk _ (List.mem_of_getElem? hk)).2
  refine ⟨⟨ho.1.trans h.B.os, ho.2.1.trans h.B.tape, ho.2.2.trans h.B.output, by rw [hs]; exact h.B.size, fun i hi => (hfar i (by omega)).trans (h.B.block i hi)⟩, fun b hm => ?_, ?_⟩
  · obtain ⟨i, hi⟩ := List.getElem?_of_mem hm
    rw [List.getElem?_set] at hi
    by_cases e : k = i
    · rw [if_pos e] at hi
      split at hi
      · cases hi; exact ⟨hn, hg⟩
      · cases hi
    · rw [if_neg e] at hi
      have hne : b.1 ≠ g := h.ne hi hk (fun h => e h.symm)
      have hb := h.bk b (List.mem_of_getElem? hi)
      exact ⟨(hfar b.1 hne).trans hb.1, hb.2⟩
  · rw [List.pairwise_iff_getElem]
    intro i j hi hj hlt
    rw [List.length_set] at hi hj
    have hk1 : k < bs.length := (List.getElem?_eq_some_iff.1 hk).1
    have hkv : bs[k] = (g, t, cs) := (List.getElem?_eq_some_iff.1 hk).2
    have key := (List.pairwise_iff_getElem.1 h.ap) i j hi hj hlt
    rw [List.getElem_set, List.getElem_set]
    split
    · rename_i e
      split
      · rename_i e2; rename_i e; omega
      · rename_i e2; subst e; rw [hkv] at key; exact key
    · split
      · rename_i e; subst e; rw [hkv] at key; exact key
      · exact key
theorem Bs.set {w0 w : World} {bs : List (Nat × Nat × List Value)} (h : Bs w0 w bs) (k : Nat) {g t : Nat} {cs : List Value} (hk : bs[k]? = some (g, t, cs)) (j : Nat) (u : Value) : Bs w0 (w.setCell ⟨g, j, none⟩ u) (bs.set k (g, t, cs.set j u)) :=
  h.put k hk (by simp) ⟨rfl, rfl, rfl⟩ (fun i hi => Below.heap_setCell w ⟨g, j, none⟩ u i hi) ((h.get k hk).set j u)
section
variable {ops : Array Oper} {rest : List Oper} {o : Oper} {a : Act} {Q : Exit → Act → World → Prop} {W : World}
theorem one_cells {v : Value} (h : v.oneCell' = true) : v.cells = #[v] := by cases v <;> first | rfl | simp [Value.oneCell'] at h
theorem wp_bx {w0 : World} {bs : List (Nat × Nat × List Value)} (hB : Bs w0 W bs) (hgd : o.guard = none) {t : Nat} {cs : List Value} (x : Operand) (ho : o.op = .box t x) (hx : a.eval x = .agg cs.toArray)
    (k : ∀ g w1, Below W.heap.size W w1 → Hid (Bs w0 w1 ((g, t, cs) :: bs)) → wpList Tryd.prog ops Q rest (a.put o.dst (.pointer (some ⟨g, 0, none⟩))) w1) : wpList Tryd.prog ops Q (o :: rest) a W := by
  have hrun : (execOp a.eval o).run Tryd.prog W = .ok (.value (.pointer (some ⟨W.heap.size, 0, none⟩))) (W.alloc (.cells cs.toArray t (0, 0))) := by
    unfold execOp
    simp only [ho, hx]
    first | (go_simp; done) | (go_simp; rfl)
  have hb : Below W.heap.size W (W.alloc (.cells cs.toArray t (0, 0))) := below_alloc (Below.refl _ _) _
  exact Kd.event_run hgd hrun (k _ _ hb (Lib.hid (hB.add (Nat.le_refl _) hb (blk_new W _))))
theorem wp_al {w0 : World} {bs : List (Nat × Nat × List Value)} (hB : Bs w0 W bs) (hgd : o.guard = none) {t : Nat} {cs : List Value} (ho : o.op = .alloc t) (hr : ∀ W : World, (Instr.alloc t true (.tuple #[])).run Tryd.prog W = .ok (.pointer (some ⟨W.heap.size, 0, none⟩)) (W.alloc (.cells cs.toArray t (0, 0))))
    (k : ∀ g w1, Below W.heap.size W w1 → Hid (Bs w0 w1 ((g, t, cs) :: bs)) → wpList Tryd.prog ops Q rest (a.put o.dst (.pointer (some ⟨g, 0, none⟩))) w1) : wpList Tryd.prog ops Q (o :: rest) a W := by
  have hrun : (execOp a.eval o).run Tryd.prog W = .ok (.value (.pointer (some ⟨W.heap.size, 0, none⟩))) (W.alloc (.cells cs.toArray t (0, 0))) := by
    unfold execOp
    simp only [ho, Sem.run_bind, hr W, Result.andThen_ok, Sem.run_pure]
  have hb : Below W.heap.size W (W.alloc (.cells cs.toArray t (0, 0))) := below_alloc (Below.refl _ _) _
  exact Kd.event_run hgd hrun (k _ _ hb (Lib.hid (hB.add (Nat.le_refl _) hb (blk_new W _))))
theorem wp_ld {w0 : World} {bs : List (Nat × Nat × List Value)} (hB : Bs w0 W bs) (i : Nat) (hgd : o.guard = none) {g t : Nat} {cs : List Value} {fl : Array Field} (hi : bs[i]? = some (g, t, cs)) (x : Operand) (ho : o.op = .load t x) (hx : a.eval x = .pointer (some ⟨g, 0, none⟩)) (hu : Tryd.prog.underlying t = some (.struct fl)) (hn : (Tryd.prog.info? t).map (·.size) = some cs.length)
    (k : wpList Tryd.prog ops Q rest (a.put o.dst (.agg cs.toArray)) W) : wpList Tryd.prog ops Q (o :: rest) a W := by
  have hl := run_loadVar_row W g t t cs.toArray (0, 0) _ (hB.get i hi) hu rfl (by simpa using hn)
  have hrun : (execOp a.eval o).run Tryd.prog W = .ok (.value (.agg cs.toArray)) W := by
    unfold execOp
    simp only [ho, hx, Instr.loadAt, Instr.sureAddr, Sem.run_bind, Sem.run_pure, Result.andThen_ok, hl]
  exact Kd.event_run hgd hrun k
theorem wp_ldk {g t : Nat} {cs : List Value} {fl : Array Field} (hk : Bk W g t cs) (hgd : o.guard = none) (x : Operand) (ho : o.op = .load t x) (hx : a.eval x = .pointer (some ⟨g, 0, none⟩)) (hu : Tryd.prog.underlying t = some (.struct fl)) (hn : (Tryd.prog.info? t).map (·.size) = some cs.length)
    (k : wpList Tryd.prog ops Q rest (a.put o.dst (.agg cs.toArray)) W) : wpList Tryd.prog ops Q (o :: rest) a W := by
  have hl := run_loadVar_row W g t t cs.toArray (0, 0) _ hk hu rfl (by simpa using hn)
  have hrun : (execOp a.eval o).run Tryd.prog W = .ok (.value (.agg cs.toArray)) W := by
    unfold execOp
    simp only [ho, hx, Instr.loadAt, Instr.sureAddr, Sem.run_bind, Sem.run_pure, Result.andThen_ok, hl]
  exact Kd.event_run hgd hrun k
theorem setCells_blk (w : World) (g : Nat) : ∀ (seg : List Value) (o : Nat), (w.setCells g o seg).heap.size = w.heap.size ∧ (w.setCells g o seg).os = w.os ∧ (w.setCells g o seg).tape = w.tape ∧ (w.setCells g o seg).output = w.output ∧ ∀ k, k ≠ g → (w.setCells g o seg).heap[k]? = w.heap[k]? := by
  intro seg o
  obtain ⟨s1, s2, s3, s4⟩ := setCells_same g seg o w
  exact ⟨s4, s1, s2, s3, fun k hk => setCells_far seg o k hk⟩
theorem Bk.seg {w : World} {g t : Nat} {cs : List Value} (h : Bk w g t cs) (seg : List Value) (o : Nat) (hl : o + seg.length ≤ cs.length) : Bk (w.setCells g o seg) g t (cs.take o ++ seg ++ cs.drop (o + seg.length)) := by
  obtain ⟨cur, c1, c2, c3⟩ := setCells_row seg o w _ h (by simpa using hl)
  unfold Bk
  rw [c1]
  rw [show cur = (cs.take o ++ seg ++ cs.drop (o + seg.length)).toArray from Array.toList_inj.1 c3]
/-- A struct is stored whole, from cell q on. -/
theorem wp_st {w0 : World} {bs : List (Nat × Nat × List Value)} (hB : Bs w0 W bs) (i : Nat) (hgd : o.guard = none) {g t t' q : Nat} {cs seg : List Value} (hi : bs[i]? = some (g, t', cs)) {x : Tmp} {y : Operand} (ho : o.op = .store t (.tmp x) y) (hN : o.dst = none) (hx : a.eval (.tmp x) = .pointer (some ⟨g, q, none⟩)) (hy : a.eval y = .agg seg.toArray) (hn : (Tryd.prog.info? t).map (·.size) = some seg.length) (hl : q + seg.length ≤ cs.length) (h1 : ∀ z ∈ seg, z.oneCell' = true)
    (k : ∀ w1, Hid (Bs w0 w1 (bs.set i (g, t', cs.take q ++ seg ++ cs.drop (q + seg.length)))) → Hid (Bk W g t' cs ∧ ∀ i, i ≠ g → w1.heap[i]? = W.heap[i]?) → wpList Tryd.prog ops Q rest a w1) : wpList Tryd.prog ops Q (o :: rest) a W := by
  have hg := hB.get i hi
  have hrun : (execOp a.eval o).run Tryd.prog W = .ok .skip (W.setCells g q seg) := by
    have := run_store_run (P := Tryd.prog) t (.agg seg.toArray) seg hg (by simp [Value.cells]) hn (o := q) (by simpa using hl) h1
    unfold execOp
    simp only [ho, hx, hy, Sem.run_bind, this, Result.andThen_ok, Sem.run_pure]
  obtain ⟨s1, s2, s3, s4, s5⟩ := setCells_blk W g seg q
  exact store_event hgd ho hN hrun (fun w' e => k w' (Lib.hid (e ▸ hB.put i hi s1 ⟨s2, s3, s4⟩ s5 (hg.seg seg q hl))) (Lib.hid ⟨hg, fun i hi => e ▸ s5 i hi⟩))
theorem NRef.st {W W1 : World} {v : Value} {s : Nt} {g : Nat} {cs : List Value} (h : NRef W v s) (hf : Bk W g 40 cs ∧ ∀ i, i ≠ g → W1.heap[i]? = W.heap[i]?) : NRef W1 v s :=
  h.keep (fun b cur t hc ht => hf.2 b (fun e => by
    subst e
    have := hf.1
    unfold Bk at this
    rw [hc] at this
    cases this
    rcases ht with h | h | h <;> exact absurd h (by decide)))
end
theorem al_T (W : World) : (Instr.alloc 40 true (.tuple #[])).run Tryd.prog W = .ok (.pointer (some ⟨W.heap.size, 0, none⟩)) (W.alloc (.cells [Value.int .i64 0, .slice none 0 0].toArray 40 (0, 0))) := by first | (go_simp; done) | (go_simp; rfl)
theorem al_H (W : World) : (Instr.alloc 89 true (.tuple #[])).run Tryd.prog W = .ok (.pointer (some ⟨W.heap.size, 0, none⟩)) (W.alloc (.cells [Value.bool false, .int .i64 0, .slice none 0 0, .int .i64 0, .int .i64 0, .int .i64 0, .slice none 0 0].toArray 89 (0, 0))) := by first | (go_simp; done) | (go_simp; rfl)
end
section
open Go.RowKit Go.Deep Go.Proofs.YtpfpdbbgiimnmaaDoor.Er Go.Proofs.YtpfpdbbgiimnmaaDoor.Mod Go.Proofs.YtpfpdbbgiimnmaaDoorW.PrintWords Go.Proofs.YtpfpdbbgiimnmaaDoorW.PrintLast
theorem seven (l : List Value) (o : Nat) (h : o + 7 ≤ l.length) : ∃ u0 u1 u2 u3 u4 u5 u6 : Value, ∀ j, j < 7 → l[o + j]? = ([u0, u1, u2, u3, u4, u5, u6] : List Value)[j]? := by
  refine ⟨l[o], l[o + 1], l[o + 2], l[o + 3], l[o + 4], l[o + 5], l[o + 6], fun j hj => ?_⟩
  match j, hj with
  | 0, _ => exact List.getElem?_eq_getElem _
  | 1, _ => exact List.getElem?_eq_getElem _
  | 2, _ => exact List.getElem?_eq_getElem _
  | 3, _ => exact List.getElem?_eq_getElem _
  | 4, _ => exact List.getElem?_eq_getElem _
  | 5, _ => exact List.getElem?_eq_getElem _
  | 6, _ => exact List.getElem?_eq_getElem _
theorem Bs.seg {w0 w : World} {bs : List (Nat × Nat × List Value)} (h : Bs w0 w bs) (k : Nat) {g t : Nat} {cs : List Value} (hk : bs[k]? = some (g, t, cs)) (o : Nat) (seg : List Value) (hl : o + seg.length ≤ cs.length) : Bs w0 (w.setCells g o seg) (bs.set k (g, t, cs.take o ++ seg ++ cs.drop (o + seg.length))) := by
  obtain ⟨s1, s2, s3, s4, s5⟩ := setCells_blk w g seg o
  exact h.put k hk s1 ⟨s2, s3, s4⟩ s5 ((h.get k hk).seg seg o hl)
theorem list_at {f : Nat → List Value} (hf : ∀ k, (f k).length = 7) : ∀ (m k j : Nat), k < m → j < 7 → ((List.range m).flatMap f)[k * 7 + j]? = (f k)[j]?
  | 0, k, j, h, _ => by omega
  | m + 1, k, j, h, hj => by
    have hlen : ∀ m, ((List.range m).flatMap f).length = m * 7 := by
      intro m
      induction m with
      | zero => rfl
      | succ m ih => rw [List.range_succ, List.flatMap_append, List.length_append, ih]; simp [hf]; omega
    rw [List.range_succ, List.flatMap_append]
    by_cases e : k = m
    · subst e
      rw [List.getElem?_append_right (by rw [hlen]; omega), hlen, show k * 7 + j - k * 7 = j by omega]
      simp
    · rw [List.getElem?_append_left (by rw [hlen]; omega)]
      exact list_at hf m k j (by omega) hj
/-- The hosts' row as a list of cells. -/
theorem LRef.open_ {w : World} {v : Value} {s : Nt} (h : LRef w v s) : ∃ (b c : Nat) (cur : Array Value) (fv qv : Nat → Value), v = .slice (some ⟨b, 0, none⟩) s.n c ∧ s.n ≤ c ∧ w.heap[b]? = some (.cells cur 89 (0, 0)) ∧ (∀ k, k < s.n → HRef w (s.h k) (fv k) (qv k)) ∧ ∀ k j, k < s.n → j < 7 → cur[k * 7 + j]? = (hoR (s.h k) (fv k) (qv k))[j]? := by
  obtain ⟨b, c, cur, e, h1, h2, h3⟩ := h
  have h4 : ∀ k, ∃ p : Value × Value, k < s.n → HRef w (s.h k) p.1 p.2 ∧ ∀ j, j < 7 → cur[k * 7 + j]? = (hoR (s.h k) p.1 p.2)[j]? := fun k => by
    by_cases hk : k < s.n
    · obtain ⟨fv, qv, h5⟩ := h3 k hk
      exact ⟨(fv, qv), fun _ => h5⟩
    · exact ⟨(.slice none 0 0, .slice none 0 0), fun h => absurd h hk⟩
  exact ⟨b, c, cur, fun k => (Classical.choose (h4 k)).1, fun k => (Classical.choose (h4 k)).2, e, h1, h2, fun k hk => (Classical.choose_spec (h4 k) hk).1, fun k j hk hj => (Classical.choose_spec (h4 k) hk).2 j hj⟩
theorem hoR_one {x : Ho} {fv qv : Value} (h1 : fv.oneCell' = true) (h2 : qv.oneCell' = true) : ∀ u ∈ hoR x fv qv, u.oneCell' = true := by
  intro u hu
  simp only [hoR, List.mem_cons, List.not_mem_nil, or_false] at hu
  rcases hu with rfl | rfl | rfl | rfl | rfl | rfl | rfl <;> first | rfl | assumption
theorem HRef.one {w : World} {x : Ho} {fv qv : Value} (h : HRef w x fv qv) : fv.oneCell' = true ∧ qv.oneCell' = true := by
  obtain ⟨⟨_, _, _, rfl, _⟩, ⟨_, _, rfl, _⟩⟩ := h
  exact ⟨rfl, rfl⟩
theorem HRef.forms {w : World} {x : Ho} {fv qv : Value} (h : HRef w x fv qv) : ∃ FA fl fc QA ql qc, fv = .slice FA fl fc ∧ qv = .slice QA ql qc := by
  obtain ⟨⟨_, _, _, rfl, _⟩, ⟨_, _, rfl, _⟩⟩ := h
  exact ⟨_, _, _, _, _, _, rfl, rfl⟩
theorem HRef.below {w w' : World} {x : Ho} {fv qv : Value} (h : HRef w x fv qv) (hb : Below w.heap.size w w') : HRef w' x fv qv := h.keep (.of_below hb)
theorem put_row {w W : World} {s : Nt} {n b' c' i : Nat} {cs cu : List Value} {fs qs : Nat → Value} {x : Ho} {fv qv : Value} (hB : Below w.heap.size w W) (hbk : Bk W b' 89 (cu.take (i * 7) ++ hoR x fv qv ++ cu.drop (i * 7 + 7))) (hn : n = s.n) (hc : n ≤ c') (hi : i < s.n) (hca : ∀ k j, k < s.n → j < 7 → cs[k * 7 + j]? = (hoR (s.h k) (fs k) (qs k))[j]?) (hH : ∀ k, k < s.n → HRef w (s.h k) (fs k) (qs k)) (hx : HRef w x fv qv) (ht : cu.take (s.n * 7) = cs) (hl : s.n * 7 ≤ cu.length) : LRef W (.slice (some ⟨b', 0, none⟩) n c') (s.put i x) := by
  refine ⟨b', c', _, by rw [hn]; rfl, hn ▸ hc, hbk, fun k hk => ?_⟩
  have hk' : k < s.n := hk
  have h7 : (hoR x fv qv).length = 7 := rfl
  have hti : (cu.take (i * 7)).length = i * 7 := by rw [List.length_take]; omega
  by_cases e : k = i
  · subst e
    rw [show (s.put k x).h k = x from if_pos rfl]
    refine ⟨fv, qv, hx.below hB, fun j hj => ?_⟩
    rw [List.getElem?_toArray, List.append_assoc, List.getElem?_append_right (by omega), hti, show k * 7 + j - k * 7 = j by omega, List.getElem?_append_left (by omega)]
  · rw [show (s.put i x).h k = s.h k from if_neg e]
    refine ⟨fs k, qs k, (hH k hk').below hB, fun j hj => ?_⟩
    rw [← hca k j hk' hj, ← ht, List.getElem?_take, if_pos (by omega), List.getElem?_toArray]
    rcases Nat.lt_or_ge k i with h | h
    · rw [List.append_assoc, List.getElem?_append_left (by omega), List.getElem?_take, if_pos (by omega)]
    · rw [List.getElem?_append_right (by rw [List.length_append, hti, h7]; omega), List.getElem?_drop, List.length_append, hti, h7]
      congr 1; omega
/-- append([]Host{}, l...) in a plain region. -/
theorem wp_hcopy {ops : Array Oper} {rest : List Oper} {o : Oper} {a : Act} {Q : Exit → Act → World → Prop} {w : World} {b n c : Nat} {cs : List Value} {g : Addr} (hgd : o.guard = none) (s x : Operand) (ho : o.op = .call { callee := .builtin .append, args := #[s, x], argTypes := #[38, 38] }) (hs : a.eval s = .slice (some g) 0 0) (hx : a.eval x = .slice (some ⟨b, 0, none⟩) n c) (hn : 1 ≤ n ∧ n ≤ 16) (hl : cs.length = n * 7)
    (hc : ∀ (j : Nat) (u : Value), cs[j]? = some u → w.cell? ((⟨b, 0, none⟩ : Addr).add j) = some u) (h1 : ∀ u ∈ cs, u.oneCell' = true) (hle : n ≤ c)
    (k : ∀ (b' c' : Nat) (cur : List Value) (w' : World), Below w.heap.size w w' → Hid (w.heap.size ≤ b' ∧ n ≤ c') → Hid (Bk w' b' 89 cur) → Hid (cur.take (n * 7) = cs ∧ n * 7 ≤ cur.length) → wpList Tryd.prog ops Q rest (a.put o.dst (.slice (some ⟨b', 0, none⟩) n c')) w') : wpList Tryd.prog ops Q (o :: rest) a w := by
  obtain ⟨v8, w8, hr, hB, b', c', cur, rfl, hb, hc', hcur, ht, hsz⟩ := host_copy hn hl hc h1 hle o.type g
  refine wpList_plain hgd fun K hK => ?_
  unfold Oper.wp
  rw [run_app ho hs hx hr]
  exact hK _ _ (k b' c' cur.toList w8 hB (Lib.hid ⟨hb, hc'⟩) (Lib.hid hcur) (Lib.hid ⟨ht, by simpa using hsz⟩))
set_option maxHeartbeats 4000000 in
set_option maxRecDepth 100000 in
theorem with_calls {w : World} {v : Value} {s : Nt} (h : NRef w v s) (hn : s.n ≤ 16) (i : Nat) (hi : i < s.n) (x : Ho) (fv qv : Value) (hx : HRef w x fv qv) : Calls Tryd.prog 54 #[v, .int .i64 (i : Int), .agg #[.bool x.there, .int .i64 x.level, fv, .int .i64 x.graft, .int .i64 x.cap, .int .i64 x.got, qv]] w fun e w' => ∃ v', e = .returned v' ∧ NRef w' v' (s.put i x) ∧ Below w.heap.size w w' := by
  obtain ⟨FA, fl, fc, QA, ql, qc, rfl, rfl⟩ := hx.forms
  obtain ⟨lv, rfl, hl⟩ := h
  obtain ⟨b, c, cur, fs, qs, rfl, hc, hcur, hH, hcell⟩ := hl.open_
  obtain ⟨f1, q1⟩ := hx.one
  have HX := Lib.hid (And.intro hx (And.intro f1 q1))
  obtain ⟨cs, hcs⟩ : ∃ cs, cs = (List.range s.n).flatMap (fun k => hoR (s.h k) (fs k) (qs k)) := ⟨_, rfl⟩
  have hcl : cs.length = s.n * 7 := by
    rw [hcs]
    clear hcs hl hcell hH hi hn hc
    induction s.n with
    | zero => rfl
    | succ m ih => rw [List.range_succ, List.flatMap_append, List.length_append, ih]; simp [hoR]; omega
  have hca : ∀ k j, k < s.n → j < 7 → cs[k * 7 + j]? = (hoR (s.h k) (fs k) (qs k))[j]? := fun k j hk hj => by rw [hcs]; exact list_at (fun _ => rfl) _ _ _ hk hj
  have hco : ∀ (j : Nat) (u : Value), cs[j]? = some u → w.cell? ((⟨b, 0, none⟩ : Addr).add j) = some u := by
    intro j u hu
    have hj : j < s.n * 7 := by rw [← hcl]; exact (List.getElem?_eq_some_iff.1 hu).1
    have e1 := hca (j / 7) (j % 7) (by omega) (by omega)
    have e2 := hcell (j / 7) (j % 7) (by omega) (by omega)
    rw [show j / 7 * 7 + j % 7 = j by omega] at e1 e2
    have hadd : (⟨b, 0, none⟩ : Addr).add j = ⟨b, j, none⟩ := by unfold Addr.add; split <;> simp_all
    rw [hadd]
    have : cur[j]? = some u := by rw [e2, ← e1, hu]
    simpa [World.cell?, hcur] using this
  have ho : ∀ u ∈ cs, u.oneCell' = true := by
    intro u hu
    rw [hcs] at hu
    obtain ⟨k, hk, hu⟩ := List.mem_flatMap.1 hu
    obtain ⟨g1, g2⟩ := (hH k (List.mem_range.1 hk)).one
    exact hoR_one g1 g2 u hu
  have HC := Lib.hid (And.intro hcl (And.intro hca (And.intro hco (And.intro ho hH))))
  obtain ⟨n, hnn⟩ : ∃ n, n = s.n := ⟨_, rfl⟩
  have HN := Lib.hid hnn
  have HI := Lib.hid hi
  rw [← hnn] at hc hi ⊢
  have hn16 : n ≤ 16 := by omega
  obtain ⟨i0, i1⟩ : (0 : Int) ≤ (i : Int) ∧ (i : Int) < (n : Int) := by omega
  clear hcs hcl hca hco ho hcell hH hl hcur hx f1 q1 hnn hn
  go_enter Tryd.func54, Tryd.ntmps54
  go_upto_region 1 with (first
    | ((with_reducible refine gate_dst (N := 3) rfl ?_); refine wp_bx (Bs.start _) (t := 40) (cs := [.int .i64 s.now, .slice (some ⟨b, 0, none⟩) n c]) rfl (.tmp 0) rfl rfl ?_; intro g3 w1 hb1 HB1)
    | ((with_reducible refine gate_dst (N := 5) rfl ?_); refine wp_bx HB1.out (t := 89) (cs := [.bool x.there, .int .i64 x.level, .slice FA fl fc, .int .i64 x.graft, .int .i64 x.cap, .int .i64 x.got, .slice QA ql qc]) rfl (.tmp 2) rfl rfl ?_; intro g5 w2 hb2 HB2)
    | ((with_reducible refine gate_dst (N := 6) rfl ?_); refine wp_al HB2.out (t := 40) rfl rfl al_T ?_; intro g6 w3 hb3 HB3))
  have c30 : w3.cell? ⟨g3, 0, none⟩ = some (.int .i64 s.now) := (HB3.out.get 2 rfl).cell 0
  have c31 : w3.cell? ⟨g3, 1, none⟩ = some (.slice (some ⟨b, 0, none⟩) n c) := (HB3.out.get 2 rfl).cell 1
  have l3 : g3 < w3.heap.size := (HB3.out.get 2 rfl).lt
  clear hb1 hb2 hb3 HB1 HB2
  go_upto_region 2 with (first
    | (at_builtin; refine wp_hcopy rfl (.tmp 8) (.tmp 10) rfl rfl rfl ?c0 (by rw [HN.out]; exact HC.out.1) ?c1 HC.out.2.2.2.1 hc ?_))
  case c0 => omega
  case c1 => exact fun j u hu => (Below.cell (HB3.out.B.alloc HB3.out.B.size _) (World.block_lt_of_cell? w _ (HC.out.2.2.1 j u hu))).trans (HC.out.2.2.1 j u hu)
  intro b' c' cu w5 hB5 HBC HBK HCU
  have HB5 : Hid (Bs w w5 ((b', 89, cu) :: [(g6, 40, [.int .i64 0, .slice none 0 0]), (g5, 89, [.bool x.there, .int .i64 x.level, .slice FA fl fc, .int .i64 x.graft, .int .i64 x.cap, .int .i64 x.got, .slice QA ql qc]), (g3, 40, [.int .i64 s.now, .slice (some ⟨b, 0, none⟩) n c])])) := Lib.hid ((HB3.out.below (below_alloc (Below.refl _ _) (Obj.cells #[] 89))).add (by simpa using HBC.out.1) (by simpa using hB5) HBK.out)
  have HL5 := Lib.hid HBC.out.2
  clear hB5 HBC HBK c30 c31 l3 HB3
  have c30 : w5.cell? ⟨g3, 0, none⟩ = some (.int .i64 s.now) := (HB5.out.get 3 rfl).cell 0
  have d0 : decide ((0 : Int) ≤ (i : Int)) = true := decide_eq_true i0
  have d1 : decide ((i : Int) < (n : Int)) = true := decide_eq_true i1
  -- region 2
  have hbk5 : Bk w5 g5 89 (hoR x (.slice FA fl fc) (.slice QA ql qc)) := HB5.out.get 2 rfl
  have x0 : w5.cell? ⟨g5, 0, none⟩ = some (.bool x.there) := hbk5.cell 0
  have x1 : w5.cell? ⟨g5, 1, none⟩ = some (.int .i64 x.level) := hbk5.cell 1
  have x2 : w5.cell? ⟨g5, 2, none⟩ = some (.slice FA fl fc) := hbk5.cell 2
  have x3 : w5.cell? ⟨g5, 3, none⟩ = some (.int .i64 x.graft) := hbk5.cell 3
  have x4 : w5.cell? ⟨g5, 4, none⟩ = some (.int .i64 x.cap) := hbk5.cell 4
  have x5 : w5.cell? ⟨g5, 5, none⟩ = some (.int .i64 x.got) := hbk5.cell 5
  have x6 : w5.cell? ⟨g5, 6, none⟩ = some (.slice QA ql qc) := hbk5.cell 6
  obtain ⟨u0, u1, u2, u3, u4, u5, u6, hu⟩ : ∃ u0 u1 u2 u3 u4 u5 u6 : Value, ∀ j, j < 7 → cu[i * 7 + j]? = ([u0, u1, u2, u3, u4, u5, u6] : List Value)[j]? := seven cu (i * 7) (by have := HCU.out.2; omega)
  have hbk6 : Bk w5 b' 89 cu := HB5.out.get 0 rfl
  have y0 : w5.cell? ⟨b', i * 7, none⟩ = some u0 := (hbk6.cell _).trans (hu 0 (by omega))
  have y1 : w5.cell? ⟨b', i * 7 + 1, none⟩ = some u1 := (hbk6.cell _).trans (hu 1 (by omega))
  have y2 : w5.cell? ⟨b', i * 7 + 2, none⟩ = some u2 := (hbk6.cell _).trans (hu 2 (by omega))
  have y3 : w5.cell? ⟨b', i * 7 + 3, none⟩ = some u3 := (hbk6.cell _).trans (hu 3 (by omega))
  have y4 : w5.cell? ⟨b', i * 7 + 4, none⟩ = some u4 := (hbk6.cell _).trans (hu 4 (by omega))
  have y5 : w5.cell? ⟨b', i * 7 + 5, none⟩ = some u5 := (hbk6.cell _).trans (hu 5 (by omega))
  have y6 : w5.cell? ⟨b', i * 7 + 6, none⟩ = some u6 := (hbk6.cell _).trans (hu 6 (by omega))
  have z0 : w5.frozen? ⟨b', i * 7, none⟩ = false := hbk6.frozen _
  have z1 : w5.frozen? ⟨b', i * 7 + 1, none⟩ = false := hbk6.frozen _
  have z2 : w5.frozen? ⟨b', i * 7 + 2, none⟩ = false := hbk6.frozen _
  have z3 : w5.frozen? ⟨b', i * 7 + 3, none⟩ = false := hbk6.frozen _
  have z4 : w5.frozen? ⟨b', i * 7 + 4, none⟩ = false := hbk6.frozen _
  have z5 : w5.frozen? ⟨b', i * 7 + 5, none⟩ = false := hbk6.frozen _
  have z6 : w5.frozen? ⟨b', i * 7 + 6, none⟩ = false := hbk6.frozen _
  clear hu hbk5 hbk6
  go_upto_region 3 with (fail)
  have HB6 : Hid (Bs w (((((((w5.setCell ⟨b', i * 7, none⟩ (.bool x.there)).setCell ⟨b', i * 7 + 1, none⟩ (.int .i64 x.level)).setCell ⟨b', i * 7 + 2, none⟩ (.slice FA fl fc)).setCell ⟨b', i * 7 + 3, none⟩ (.int .i64 x.graft)).setCell ⟨b', i * 7 + 4, none⟩ (.int .i64 x.cap)).setCell ⟨b', i * 7 + 5, none⟩ (.int .i64 x.got)).setCell ⟨b', i * 7 + 6, none⟩ (.slice QA ql qc)) ((b', 89, cu.take (i * 7) ++ hoR x (.slice FA fl fc) (.slice QA ql qc) ++ cu.drop (i * 7 + 7)) :: [(g6, 40, [.int .i64 0, .slice none 0 0]), (g5, 89, [.bool x.there, .int .i64 x.level, .slice FA fl fc, .int .i64 x.graft, .int .i64 x.cap, .int .i64 x.got, .slice QA ql qc]), (g3, 40, [.int .i64 s.now, .slice (some ⟨b, 0, none⟩) n c])])) := Lib.hid (HB5.out.seg 0 rfl (i * 7) (hoR x (.slice FA fl fc) (.slice QA ql qc)) (by have := HCU.out.2; simp [hoR]; omega))
  clear x0 x1 x2 x3 x4 x5 x6 y0 y1 y2 y3 y4 y5 y6 z0 z1 z2 z3 z4 z5 z6 c30
  generalize (((((((w5.setCell ⟨b', i * 7, none⟩ (.bool x.there)).setCell ⟨b', i * 7 + 1, none⟩ (.int .i64 x.level)).setCell ⟨b', i * 7 + 2, none⟩ (.slice FA fl fc)).setCell ⟨b', i * 7 + 3, none⟩ (.int .i64 x.graft)).setCell ⟨b', i * 7 + 4, none⟩ (.int .i64 x.cap)).setCell ⟨b', i * 7 + 5, none⟩ (.int .i64 x.got)).setCell ⟨b', i * 7 + 6, none⟩ (.slice QA ql qc)) = w6 at HB6 ⊢
  clear HB5
  have x0 : w6.cell? ⟨g3, 0, none⟩ = some (.int .i64 s.now) := (HB6.out.get 3 rfl).cell 0
  go_wp2_with (first
    | ((with_reducible refine gate_store (t := 40) (p := 6) rfl ?_); refine wp_st HB6.out 1 rfl (q := 0) (seg := [.int .i64 s.now, .slice (some ⟨b', 0, none⟩) n c']) rfl rfl rfl rfl rfl (by kernel_rfl) (by simp) (by intro z hz; simp at hz; rcases hz with rfl | rfl <;> rfl) ?_; intro w7 HB7 hf; clear hf))
  (try simp only [Exit.inBlock, Exit.then])
  refine bodyPost_ret (results_c1 rfl _ _ g6 _ _ _ _ rfl (HB7.out.get 1 rfl) Tryd.underlying40 rfl (show (Tryd.prog.info? 40).map (·.size) = some 2 by kernel_rfl)) rfl ?_
  exact ⟨_, rfl, ⟨_, rfl, put_row HB7.out.B (HB7.out.get 0 rfl) HN.out HL5.out HI.out (HC.out.2.1) HC.out.2.2.2.2 HX.out.1 (by rw [← HN.out]; exact HCU.out.1) (by rw [← HN.out]; exact HCU.out.2)⟩, HB7.out.B⟩
end
section
open Go.RowKit Go.Deep Go.Proofs.YtpfpdbbgiimnmaaDoor.Er Go.Proofs.YtpfpdbbgiimnmaaDoor.Mod Go.Proofs.YtpfpdbbgiimnmaaDoorW.PrintWords Go.Proofs.YtpfpdbbgiimnmaaDoorW.PrintLast
theorem o_nil : ∀ z ∈ ([] : List Value), z.oneCell' = true := fun _ h => nomatch h
theorem o_cons {v : Value} {l : List Value} (h : v.oneCell' = true) (t : ∀ z ∈ l, z.oneCell' = true) : ∀ z ∈ v :: l, z.oneCell' = true := fun z hz => by
  rcases List.mem_cons.1 hz with rfl | hz
  · exact h
  · exact t z hz
theorem NRef.host {w : World} {v : Value} {s : Nt} (h : NRef w v s) {k : Nat} (hk : k < s.n) : ∃ b c FA fl fc QA ql qc, v = .agg #[.int .i64 s.now, .slice (some ⟨b, 0, none⟩) s.n c] ∧ s.n ≤ c ∧ b < w.heap.size ∧ HRef w (s.h k) (.slice FA fl fc) (.slice QA ql qc) ∧ ∀ j, j < 7 → w.cell? ⟨b, k * 7 + j, none⟩ = (hoR (s.h k) (.slice FA fl fc) (.slice QA ql qc))[j]? := by
  obtain ⟨lv, rfl, hl⟩ := h
  obtain ⟨b, c, cur, fs, qs, rfl, hc, hcur, hH, hcell⟩ := hl.open_
  obtain ⟨FA, fl, fc, QA, ql, qc, e1, e2⟩ := (hH k hk).forms
  refine ⟨b, c, FA, fl, fc, QA, ql, qc, rfl, hc, lt_of hcur, ?_, fun j hj => ?_⟩
  · rw [← e1, ← e2]; exact hH k hk
  · rw [← e1, ← e2, ← hcell k j hk hj]; simp [World.cell?, hcur]
theorem QRef.nil (w : World) : QRef w (.slice none 0 0) [] := ⟨none, 0, rfl, Nat.le_refl _, fun h => absurd rfl h⟩
theorem at_dec {s : Nt} {i : Int} (h : ¬ s.at i = 0) : decide (s.at i = 0) = false := decide_eq_false h
theorem at_dec1 {s : Nt} {k : Nat} (h : k < s.n) : decide (s.at (k : Int) = 0) = true := decide_eq_true (at_nat h)
set_option maxHeartbeats 8000000 in
set_option maxRecDepth 100000 in
theorem join_r {w : World} {v : Value} {s : Nt} (h : NRef w v s) (hn : s.n ≤ 16) (i : Int) : Calls Tryd.prog 36 #[v, .int .i64 i] w fun e w' => ∃ v', e = .returned (.tuple #[v', .int .i64 (s.joinE i)]) ∧ NRef w' v' (s.join i) ∧ Below w.heap.size w w' := by
  by_cases ha : s.at i = 0
  rotate_left
  · skip
    have hE : s.joinE i = 1 := (if_neg ha).trans (at_no ha).1
    have hS : s.join i = s := if_neg (by rw [hE]; decide)
    have HIs := Lib.hid (at_dec ha)
    rw [hE, hS]
    clear ha hE hS
    obtain ⟨b, c, rfl, hc, _⟩ := h.parts
    have HN := Lib.hid h
    have H16 := Lib.hid hn
    obtain ⟨n, hnn⟩ : ∃ n, n = s.n := ⟨_, rfl⟩
    obtain ⟨now, hnow⟩ : ∃ z, z = s.now := ⟨_, rfl⟩
    rw [← hnn, ← hnow] at HN ⊢
    rw [← hnn] at hc
    have HB0 := Lib.hid (Bs.start w)
    clear h hn hnn hnow
    go_enter Tryd.func36, Tryd.ntmps36
    go_wp2_with (first
      | ((with_reducible refine gate_dst (N := 2) rfl ?_); refine wp_bx HB0.out (t := 40) (cs := [.int .i64 now, .slice (some ⟨b, 0, none⟩) n c]) rfl (.tmp 0) rfl rfl ?_; intro g2 w1 hb HB1; clear hb HB0)
      | ((with_reducible refine gate_dst (N := 4) rfl ?_); refine wp_al HB1.out (t := 40) rfl rfl al_T ?_; intro g4 w2 hb HB2; clear hb HB1)
      | ((with_reducible refine gate_dst (N := 7) rfl ?_); refine wp_ld HB2.out 1 rfl rfl (.tmp 2) rfl rfl Tryd.underlying40 (by kernel_rfl) ?_)
      | (go_at_call 46; refine (is_calls (HN.out.below HB2.out.B) H16.out i).mono ?_; rintro e w3 ⟨rfl, hb⟩; rw [HIs.out]; have HB3 := Lib.hid (HB2.out.below hb); clear hb HB2)
      | ((with_reducible refine gate_dst (N := 11) rfl ?_); refine wp_ld HB3.out 1 rfl rfl (.tmp 2) rfl rfl Tryd.underlying40 (by kernel_rfl) ?_)
      | ((with_reducible refine gate_store (t := 40) (p := 4) rfl ?_); refine wp_st HB3.out 0 rfl (q := 0) (seg := [.int .i64 now, .slice (some ⟨b, 0, none⟩) n c]) rfl rfl rfl rfl rfl (by kernel_rfl) (Nat.le_refl _) (o_cons rfl (o_cons rfl o_nil)) ?_; intro w4 hq hf; have HB4 : Hid (Bs w w4 [(g4, 40, [.int .i64 now, .slice (some ⟨b, 0, none⟩) n c]), (g2, 40, [.int .i64 now, .slice (some ⟨b, 0, none⟩) n c])]) := hq; clear hq hf HB3))
    (try simp only [Exit.inBlock, Exit.then])
    refine bodyPost_ret (results_ct rfl _ _ g4 _ _ _ _ rfl (HB4.out.get 0 rfl) Tryd.underlying40 rfl (show (Tryd.prog.info? 40).map (·.size) = some 2 by kernel_rfl)) rfl ?_
    exact ⟨_, rfl, HN.out.below HB4.out.B, HB4.out.B⟩
  obtain ⟨k, rfl, hk⟩ := at_of ha
  have HIs := Lib.hid (at_dec1 hk)
  by_cases ht : (s.h k).there = true
  · skip
    have hE : s.joinE (k : Int) = 7 := (if_pos ha).trans (if_pos (by rw [Int.toNat_natCast]; exact ht))
    have hS : s.join (k : Int) = s := if_neg (by rw [hE]; decide)
    rw [hE, hS]
    clear ha hE hS
    obtain ⟨b, c, FA, fl, fc, QA, ql, qc, rfl, hc, hblt, hx, hrow⟩ := h.host hk
    have HN := Lib.hid h
    have H16 := Lib.hid hn
    have HK := Lib.hid hk
    have HX := Lib.hid hx
    have HR := Lib.hid (And.intro hblt hrow)
    obtain ⟨x, hxx⟩ : ∃ x, x = s.h k := ⟨_, rfl⟩
    have HXX := Lib.hid hxx
    rw [← hxx] at HX HR
    obtain ⟨n, hnn⟩ : ∃ n, n = s.n := ⟨_, rfl⟩
    obtain ⟨now, hnow⟩ : ∃ z, z = s.now := ⟨_, rfl⟩
    have HNN := Lib.hid (And.intro hnn hnow)
    rw [← hnn, ← hnow] at HN ⊢
    rw [← hnn] at hc
    have hkn : k < n := by rw [hnn]; exact hk
    obtain ⟨i0, i1⟩ : (0 : Int) ≤ (k : Int) ∧ (k : Int) < (n : Int) := by omega
    have e0 : decide ((0 : Int) ≤ (k : Int)) = true := decide_eq_true i0
    have e1 : decide ((k : Int) < (n : Int)) = true := decide_eq_true i1
    have HB0 := Lib.hid (Bs.start w)
    clear h hn hk hx hrow hblt hxx hnn hnow
    have hth : x.there = true := by rw [HXX.out]; exact ht
    clear ht
    go_enter Tryd.func36, Tryd.ntmps36
    go_upto_region 3 with (first
      | ((with_reducible refine gate_dst (N := 2) rfl ?_); refine wp_bx HB0.out (t := 40) (cs := [.int .i64 now, .slice (some ⟨b, 0, none⟩) n c]) rfl (.tmp 0) rfl rfl ?_; intro g2 w1 hb HB1; clear hb HB0)
      | ((with_reducible refine gate_dst (N := 4) rfl ?_); refine wp_al HB1.out (t := 40) rfl rfl al_T ?_; intro g4 w2 hb HB2; clear hb HB1)
      | ((with_reducible refine gate_dst (N := 7) rfl ?_); refine wp_ld HB2.out 1 rfl rfl (.tmp 2) rfl rfl Tryd.underlying40 (by kernel_rfl) ?_)
      | (go_at_call 46; refine (is_calls (HN.out.below HB2.out.B) H16.out k).mono ?_; rintro e w3 ⟨rfl, hb⟩; rw [HIs.out]; have HB3 := Lib.hid (HB2.out.below hb); clear hb HB2))
    have a1 : w3.cell? ⟨g2, 1, none⟩ = some (.slice (some ⟨b, 0, none⟩) n c) := (HB3.out.get 1 rfl).cell 1
    have r0 : w3.cell? ⟨b, k * 7, none⟩ = some (.bool true) := (by rw [← hth]; exact (HB3.out.B.cell (p := ⟨b, _, none⟩) HR.out.1).trans (HR.out.2 0 (by omega)))
    have r1 : w3.cell? ⟨b, k * 7 + 1, none⟩ = some (.int .i64 x.level) := (HB3.out.B.cell (p := ⟨b, _, none⟩) HR.out.1).trans (HR.out.2 1 (by omega))
    have r2 : w3.cell? ⟨b, k * 7 + 2, none⟩ = some (.slice FA fl fc) := (HB3.out.B.cell (p := ⟨b, _, none⟩) HR.out.1).trans (HR.out.2 2 (by omega))
    have r3 : w3.cell? ⟨b, k * 7 + 3, none⟩ = some (.int .i64 x.graft) := (HB3.out.B.cell (p := ⟨b, _, none⟩) HR.out.1).trans (HR.out.2 3 (by omega))
    have r4 : w3.cell? ⟨b, k * 7 + 4, none⟩ = some (.int .i64 x.cap) := (HB3.out.B.cell (p := ⟨b, _, none⟩) HR.out.1).trans (HR.out.2 4 (by omega))
    have r5 : w3.cell? ⟨b, k * 7 + 5, none⟩ = some (.int .i64 x.got) := (HB3.out.B.cell (p := ⟨b, _, none⟩) HR.out.1).trans (HR.out.2 5 (by omega))
    have r6 : w3.cell? ⟨b, k * 7 + 6, none⟩ = some (.slice QA ql qc) := (HB3.out.B.cell (p := ⟨b, _, none⟩) HR.out.1).trans (HR.out.2 6 (by omega))
    clear hth
    go_upto_region 4 with (first
      | ((with_reducible refine gate_dst (N := 6) rfl ?_); refine wp_al HB3.out (t := 89) rfl rfl al_H ?_; intro g6 w4 hb HB4; clear hb HB3)
      | ((with_reducible refine gate_store (t := 89) (p := 6) rfl ?_); refine wp_st HB4.out 0 rfl (q := 0) (seg := [.bool true, .int .i64 x.level, .slice FA fl fc, .int .i64 x.graft, .int .i64 x.cap, .int .i64 x.got, .slice QA ql qc]) rfl rfl rfl rfl rfl (by kernel_rfl) (Nat.le_refl _) (o_cons rfl (o_cons rfl (o_cons rfl (o_cons rfl (o_cons rfl (o_cons rfl (o_cons rfl o_nil))))))) ?_; intro w5 hq hf; have HB5 : Hid (Bs w w5 [(g6, 89, [.bool true, .int .i64 x.level, .slice FA fl fc, .int .i64 x.graft, .int .i64 x.cap, .int .i64 x.got, .slice QA ql qc]), (g4, 40, [.int .i64 0, .slice none 0 0]), (g2, 40, [.int .i64 now, .slice (some ⟨b, 0, none⟩) n c])]) := hq; clear hq hf HB4))
    clear a1 r0 r1 r2 r3 r4 r5 r6
    have y0 : w5.cell? ⟨g6, 0, none⟩ = some (.bool true) := (HB5.out.get 0 rfl).cell 0
    go_wp2_with (first
      | ((with_reducible refine gate_dst (N := 19) rfl ?_); refine wp_ld HB5.out 2 rfl rfl (.tmp 2) rfl rfl Tryd.underlying40 (by kernel_rfl) ?_)
      | ((with_reducible refine gate_store (t := 40) (p := 4) rfl ?_); refine wp_st HB5.out 1 rfl (q := 0) (seg := [.int .i64 now, .slice (some ⟨b, 0, none⟩) n c]) rfl rfl rfl rfl rfl (by kernel_rfl) (Nat.le_refl _) (o_cons rfl (o_cons rfl o_nil)) ?_; intro w6 hq hf; have HB6 : Hid (Bs w w6 [(g6, 89, [.bool true, .int .i64 x.level, .slice FA fl fc, .int .i64 x.graft, .int .i64 x.cap, .int .i64 x.got, .slice QA ql qc]), (g4, 40, [.int .i64 now, .slice (some ⟨b, 0, none⟩) n c]), (g2, 40, [.int .i64 now, .slice (some ⟨b, 0, none⟩) n c])]) := hq; clear hq hf HB5))
    (try simp only [Exit.inBlock, Exit.then])
    refine bodyPost_ret (results_ct rfl _ _ g4 _ _ _ _ rfl (HB6.out.get 1 rfl) Tryd.underlying40 rfl (show (Tryd.prog.info? 40).map (·.size) = some 2 by kernel_rfl)) rfl ?_
    exact ⟨_, rfl, HN.out.below HB6.out.B, HB6.out.B⟩
  · skip
    have hE : s.joinE (k : Int) = 0 := (if_pos ha).trans (if_neg (by rw [Int.toNat_natCast]; exact ht))
    have ht2 : (s.h k).there = false := by cases hh : (s.h k).there with
      | false => rfl
      | true => exact absurd hh ht
    have hS : s.join (k : Int) = s.put k { s.h k with there := true, level := -1, q := [] } := (if_pos hE).trans (by rw [Int.toNat_natCast])
    rw [hE, hS]
    clear ha hE hS
    obtain ⟨b, c, FA, fl, fc, QA, ql, qc, rfl, hc, hblt, hx, hrow⟩ := h.host hk
    have HN := Lib.hid h
    have H16 := Lib.hid hn
    have HK := Lib.hid hk
    have HX := Lib.hid hx
    have HR := Lib.hid (And.intro hblt hrow)
    obtain ⟨x, hxx⟩ : ∃ x, x = s.h k := ⟨_, rfl⟩
    have HXX := Lib.hid hxx
    rw [← hxx] at HX HR
    obtain ⟨n, hnn⟩ : ∃ n, n = s.n := ⟨_, rfl⟩
    obtain ⟨now, hnow⟩ : ∃ z, z = s.now := ⟨_, rfl⟩
    have HNN := Lib.hid (And.intro hnn hnow)
    rw [← hnn, ← hnow] at HN ⊢
    rw [← hnn] at hc
    have hkn : k < n := by rw [hnn]; exact hk
    obtain ⟨i0, i1⟩ : (0 : Int) ≤ (k : Int) ∧ (k : Int) < (n : Int) := by omega
    have e0 : decide ((0 : Int) ≤ (k : Int)) = true := decide_eq_true i0
    have e1 : decide ((k : Int) < (n : Int)) = true := decide_eq_true i1
    have HB0 := Lib.hid (Bs.start w)
    clear h hn hk hx hrow hblt hxx hnn hnow
    have hth : x.there = false := by rw [HXX.out]; exact ht2
    clear ht ht2
    go_enter Tryd.func36, Tryd.ntmps36
    go_upto_region 3 with (first
      | ((with_reducible refine gate_dst (N := 2) rfl ?_); refine wp_bx HB0.out (t := 40) (cs := [.int .i64 now, .slice (some ⟨b, 0, none⟩) n c]) rfl (.tmp 0) rfl rfl ?_; intro g2 w1 hb HB1; clear hb HB0)
      | ((with_reducible refine gate_dst (N := 4) rfl ?_); refine wp_al HB1.out (t := 40) rfl rfl al_T ?_; intro g4 w2 hb HB2; clear hb HB1)
      | ((with_reducible refine gate_dst (N := 7) rfl ?_); refine wp_ld HB2.out 1 rfl rfl (.tmp 2) rfl rfl Tryd.underlying40 (by kernel_rfl) ?_)
      | (go_at_call 46; refine (is_calls (HN.out.below HB2.out.B) H16.out k).mono ?_; rintro e w3 ⟨rfl, hb⟩; rw [HIs.out]; have HB3 := Lib.hid (HB2.out.below hb); clear hb HB2))
    have a1 : w3.cell? ⟨g2, 1, none⟩ = some (.slice (some ⟨b, 0, none⟩) n c) := (HB3.out.get 1 rfl).cell 1
    have r0 : w3.cell? ⟨b, k * 7, none⟩ = some (.bool false) := (by rw [← hth]; exact (HB3.out.B.cell (p := ⟨b, _, none⟩) HR.out.1).trans (HR.out.2 0 (by omega)))
    have r1 : w3.cell? ⟨b, k * 7 + 1, none⟩ = some (.int .i64 x.level) := (HB3.out.B.cell (p := ⟨b, _, none⟩) HR.out.1).trans (HR.out.2 1 (by omega))
    have r2 : w3.cell? ⟨b, k * 7 + 2, none⟩ = some (.slice FA fl fc) := (HB3.out.B.cell (p := ⟨b, _, none⟩) HR.out.1).trans (HR.out.2 2 (by omega))
    have r3 : w3.cell? ⟨b, k * 7 + 3, none⟩ = some (.int .i64 x.graft) := (HB3.out.B.cell (p := ⟨b, _, none⟩) HR.out.1).trans (HR.out.2 3 (by omega))
    have r4 : w3.cell? ⟨b, k * 7 + 4, none⟩ = some (.int .i64 x.cap) := (HB3.out.B.cell (p := ⟨b, _, none⟩) HR.out.1).trans (HR.out.2 4 (by omega))
    have r5 : w3.cell? ⟨b, k * 7 + 5, none⟩ = some (.int .i64 x.got) := (HB3.out.B.cell (p := ⟨b, _, none⟩) HR.out.1).trans (HR.out.2 5 (by omega))
    have r6 : w3.cell? ⟨b, k * 7 + 6, none⟩ = some (.slice QA ql qc) := (HB3.out.B.cell (p := ⟨b, _, none⟩) HR.out.1).trans (HR.out.2 6 (by omega))
    clear hth
    go_upto_region 4 with (first
      | ((with_reducible refine gate_dst (N := 6) rfl ?_); refine wp_al HB3.out (t := 89) rfl rfl al_H ?_; intro g6 w4 hb HB4; clear hb HB3)
      | ((with_reducible refine gate_store (t := 89) (p := 6) rfl ?_); refine wp_st HB4.out 0 rfl (q := 0) (seg := [.bool false, .int .i64 x.level, .slice FA fl fc, .int .i64 x.graft, .int .i64 x.cap, .int .i64 x.got, .slice QA ql qc]) rfl rfl rfl rfl rfl (by kernel_rfl) (Nat.le_refl _) (o_cons rfl (o_cons rfl (o_cons rfl (o_cons rfl (o_cons rfl (o_cons rfl (o_cons rfl o_nil))))))) ?_; intro w5 hq hf; have HB5 : Hid (Bs w w5 [(g6, 89, [.bool false, .int .i64 x.level, .slice FA fl fc, .int .i64 x.graft, .int .i64 x.cap, .int .i64 x.got, .slice QA ql qc]), (g4, 40, [.int .i64 0, .slice none 0 0]), (g2, 40, [.int .i64 now, .slice (some ⟨b, 0, none⟩) n c])]) := hq; clear hq hf HB4))
    clear a1 r0 r1 r2 r3 r4 r5 r6
    have y0 : w5.cell? ⟨g6, 0, none⟩ = some (.bool false) := (HB5.out.get 0 rfl).cell 0
    go_upto_region 6 with (fail)
    clear y0
    have y0 : w5.cell? ⟨g6, 0, none⟩ = some (.bool false) := (HB5.out.get 0 rfl).cell 0
    have f0 : w5.frozen? ⟨g6, 0, none⟩ = false := (HB5.out.get 0 rfl).frozen 0
    go_upto_region 7 with (fail)
    have HB6 : Hid (Bs w (w5.setCell ⟨g6, 0, none⟩ (.bool true)) [(g6, 89, [.bool true, .int .i64 x.level, .slice FA fl fc, .int .i64 x.graft, .int .i64 x.cap, .int .i64 x.got, .slice QA ql qc]), (g4, 40, [.int .i64 0, .slice none 0 0]), (g2, 40, [.int .i64 now, .slice (some ⟨b, 0, none⟩) n c])]) := Lib.hid (HB5.out.set 0 rfl 0 (.bool true))
    generalize w5.setCell ⟨g6, 0, none⟩ (.bool true) = w6 at HB6 ⊢
    clear HB5
    clear y0 f0
    have y1 : w6.cell? ⟨g6, 1, none⟩ = some (.int .i64 x.level) := (HB6.out.get 0 rfl).cell 1
    have f1 : w6.frozen? ⟨g6, 1, none⟩ = false := (HB6.out.get 0 rfl).frozen 1
    go_upto_region 8 with (fail)
    have HB7 : Hid (Bs w (w6.setCell ⟨g6, 1, none⟩ (.int .i64 (-1))) [(g6, 89, [.bool true, .int .i64 (-1), .slice FA fl fc, .int .i64 x.graft, .int .i64 x.cap, .int .i64 x.got, .slice QA ql qc]), (g4, 40, [.int .i64 0, .slice none 0 0]), (g2, 40, [.int .i64 now, .slice (some ⟨b, 0, none⟩) n c])]) := Lib.hid (HB6.out.set 0 rfl 1 (.int .i64 (-1)))
    generalize w6.setCell ⟨g6, 1, none⟩ (.int .i64 (-1)) = w7 at HB7 ⊢
    clear HB6
    clear y1 f1
    have y6 : w7.cell? ⟨g6, 6, none⟩ = some (.slice QA ql qc) := (HB7.out.get 0 rfl).cell 6
    have f6 : w7.frozen? ⟨g6, 6, none⟩ = false := (HB7.out.get 0 rfl).frozen 6
    go_upto_region 9 with (fail)
    have HB8 : Hid (Bs w (w7.setCell ⟨g6, 6, none⟩ (.slice none 0 0)) [(g6, 89, [.bool true, .int .i64 (-1), .slice FA fl fc, .int .i64 x.graft, .int .i64 x.cap, .int .i64 x.got, .slice none 0 0]), (g4, 40, [.int .i64 0, .slice none 0 0]), (g2, 40, [.int .i64 now, .slice (some ⟨b, 0, none⟩) n c])]) := Lib.hid (HB7.out.set 0 rfl 6 (.slice none 0 0))
    generalize w7.setCell ⟨g6, 6, none⟩ (.slice none 0 0) = w8 at HB8 ⊢
    clear HB7
    clear y6 f6
    have y0 : w8.cell? ⟨g6, 0, none⟩ = some (.bool true) := (HB8.out.get 0 rfl).cell 0
    have y1 : w8.cell? ⟨g6, 1, none⟩ = some (.int .i64 (-1)) := (HB8.out.get 0 rfl).cell 1
    have y2 : w8.cell? ⟨g6, 2, none⟩ = some (.slice FA fl fc) := (HB8.out.get 0 rfl).cell 2
    have y3 : w8.cell? ⟨g6, 3, none⟩ = some (.int .i64 x.graft) := (HB8.out.get 0 rfl).cell 3
    have y4 : w8.cell? ⟨g6, 4, none⟩ = some (.int .i64 x.cap) := (HB8.out.get 0 rfl).cell 4
    have y5 : w8.cell? ⟨g6, 5, none⟩ = some (.int .i64 x.got) := (HB8.out.get 0 rfl).cell 5
    have y6 : w8.cell? ⟨g6, 6, none⟩ = some (.slice none 0 0) := (HB8.out.get 0 rfl).cell 6
    go_wp2_with (first
      | ((with_reducible refine gate_dst (N := 23) rfl ?_); refine wp_ld HB8.out 2 rfl rfl (.tmp 2) rfl rfl Tryd.underlying40 (by kernel_rfl) ?_)
      | (go_at_call 54; refine (with_calls (HN.out.below HB8.out.B) H16.out k HK.out ({ x with there := true, level := -1, q := [] }) (.slice FA fl fc) (.slice none 0 0) (⟨(HX.out.below HB8.out.B).1, QRef.nil _⟩)).mono ?_; rintro e w9 ⟨v', rfl, hv, hb⟩; obtain ⟨b5, c5, rfl, hc5, _⟩ := hv.parts; have HV := Lib.hid hv; have HB9 := Lib.hid (HB8.out.below hb); clear hv hb hc5 HB8)
      | ((with_reducible refine gate_store (t := 40) (p := 4) rfl ?_); refine wp_st HB9.out 1 rfl (q := 0) (seg := [.int .i64 _, .slice (some ⟨b5, 0, none⟩) _ c5]) rfl rfl rfl rfl rfl (by kernel_rfl) (Nat.le_refl _) (o_cons rfl (o_cons rfl o_nil)) ?_; intro w10 hq hf; have HB10 : Hid (Bs w w10 [(g6, 89, [.bool true, .int .i64 (-1), .slice FA fl fc, .int .i64 x.graft, .int .i64 x.cap, .int .i64 x.got, .slice none 0 0]), (g4, 40, [.int .i64 _, .slice (some ⟨b5, 0, none⟩) _ c5]), (g2, 40, [.int .i64 now, .slice (some ⟨b, 0, none⟩) n c])]) := hq; have HV2 := Lib.hid (HV.out.st hf.out); clear hq hf HB9))
    (try simp only [Exit.inBlock, Exit.then])
    refine bodyPost_ret (results_ct rfl _ _ g4 _ _ _ _ rfl (HB10.out.get 1 rfl) Tryd.underlying40 rfl (show (Tryd.prog.info? 40).map (·.size) = some 2 by kernel_rfl)) rfl ?_
    exact ⟨_, rfl, by rw [← HXX.out]; exact HV2.out, HB10.out.B⟩
set_option maxHeartbeats 8000000 in
set_option maxRecDepth 100000 in
theorem leave_r {w : World} {v : Value} {s : Nt} (h : NRef w v s) (hn : s.n ≤ 16) (i : Int) : Calls Tryd.prog 37 #[v, .int .i64 i] w fun e w' => ∃ v', e = .returned (.tuple #[v', .int .i64 (s.leaveE i)]) ∧ NRef w' v' (s.leave i) ∧ Below w.heap.size w w' := by
  by_cases ha : s.at i = 0
  rotate_left
  · skip
    have hE : s.leaveE i = 1 := (if_neg ha).trans (at_no ha).1
    have hS : s.leave i = s := if_neg (by rw [hE]; decide)
    have HIs := Lib.hid (at_dec ha)
    rw [hE, hS]
    clear ha hE hS
    obtain ⟨b, c, rfl, hc, _⟩ := h.parts
    have HN := Lib.hid h
    have H16 := Lib.hid hn
    obtain ⟨n, hnn⟩ : ∃ n, n = s.n := ⟨_, rfl⟩
    obtain ⟨now, hnow⟩ : ∃ z, z = s.now := ⟨_, rfl⟩
    rw [← hnn, ← hnow] at HN ⊢
    rw [← hnn] at hc
    have HB0 := Lib.hid (Bs.start w)
    clear h hn hnn hnow
    go_enter Tryd.func37, Tryd.ntmps37
    go_wp2_with (first
      | ((with_reducible refine gate_dst (N := 2) rfl ?_); refine wp_bx HB0.out (t := 40) (cs := [.int .i64 now, .slice (some ⟨b, 0, none⟩) n c]) rfl (.tmp 0) rfl rfl ?_; intro g2 w1 hb HB1; clear hb HB0)
      | ((with_reducible refine gate_dst (N := 4) rfl ?_); refine wp_al HB1.out (t := 40) rfl rfl al_T ?_; intro g4 w2 hb HB2; clear hb HB1)
      | ((with_reducible refine gate_dst (N := 7) rfl ?_); refine wp_ld HB2.out 1 rfl rfl (.tmp 2) rfl rfl Tryd.underlying40 (by kernel_rfl) ?_)
      | (go_at_call 46; refine (is_calls (HN.out.below HB2.out.B) H16.out i).mono ?_; rintro e w3 ⟨rfl, hb⟩; rw [HIs.out]; have HB3 := Lib.hid (HB2.out.below hb); clear hb HB2)
      | ((with_reducible refine gate_dst (N := 11) rfl ?_); refine wp_ld HB3.out 1 rfl rfl (.tmp 2) rfl rfl Tryd.underlying40 (by kernel_rfl) ?_)
      | ((with_reducible refine gate_store (t := 40) (p := 4) rfl ?_); refine wp_st HB3.out 0 rfl (q := 0) (seg := [.int .i64 now, .slice (some ⟨b, 0, none⟩) n c]) rfl rfl rfl rfl rfl (by kernel_rfl) (Nat.le_refl _) (o_cons rfl (o_cons rfl o_nil)) ?_; intro w4 hq hf; have HB4 : Hid (Bs w w4 [(g4, 40, [.int .i64 now, .slice (some ⟨b, 0, none⟩) n c]), (g2, 40, [.int .i64 now, .slice (some ⟨b, 0, none⟩) n c])]) := hq; clear hq hf HB3))
    (try simp only [Exit.inBlock, Exit.then])
    refine bodyPost_ret (results_ct rfl _ _ g4 _ _ _ _ rfl (HB4.out.get 0 rfl) Tryd.underlying40 rfl (show (Tryd.prog.info? 40).map (·.size) = some 2 by kernel_rfl)) rfl ?_
    exact ⟨_, rfl, HN.out.below HB4.out.B, HB4.out.B⟩
  obtain ⟨k, rfl, hk⟩ := at_of ha
  have HIs := Lib.hid (at_dec1 hk)
  by_cases ht : (s.h k).there = false
  · skip
    have hE : s.leaveE (k : Int) = 7 := (if_pos ha).trans (if_neg (by rw [Int.toNat_natCast, ht]; decide))
    have hS : s.leave (k : Int) = s := if_neg (by rw [hE]; decide)
    rw [hE, hS]
    clear ha hE hS
    obtain ⟨b, c, FA, fl, fc, QA, ql, qc, rfl, hc, hblt, hx, hrow⟩ := h.host hk
    have HN := Lib.hid h
    have H16 := Lib.hid hn
    have HK := Lib.hid hk
    have HX := Lib.hid hx
    have HR := Lib.hid (And.intro hblt hrow)
    obtain ⟨x, hxx⟩ : ∃ x, x = s.h k := ⟨_, rfl⟩
    have HXX := Lib.hid hxx
    rw [← hxx] at HX HR
    obtain ⟨n, hnn⟩ : ∃ n, n = s.n := ⟨_, rfl⟩
    obtain ⟨now, hnow⟩ : ∃ z, z = s.now := ⟨_, rfl⟩
    have HNN := Lib.hid (And.intro hnn hnow)
    rw [← hnn, ← hnow] at HN ⊢
    rw [← hnn] at hc
    have hkn : k < n := by rw [hnn]; exact hk
    obtain ⟨i0, i1⟩ : (0 : Int) ≤ (k : Int) ∧ (k : Int) < (n : Int) := by omega
    have e0 : decide ((0 : Int) ≤ (k : Int)) = true := decide_eq_true i0
    have e1 : decide ((k : Int) < (n : Int)) = true := decide_eq_true i1
    have HB0 := Lib.hid (Bs.start w)
    clear h hn hk hx hrow hblt hxx hnn hnow
    have hth : x.there = false := by rw [HXX.out]; exact ht
    clear ht
    go_enter Tryd.func37, Tryd.ntmps37
    go_upto_region 3 with (first
      | ((with_reducible refine gate_dst (N := 2) rfl ?_); refine wp_bx HB0.out (t := 40) (cs := [.int .i64 now, .slice (some ⟨b, 0, none⟩) n c]) rfl (.tmp 0) rfl rfl ?_; intro g2 w1 hb HB1; clear hb HB0)
      | ((with_reducible refine gate_dst (N := 4) rfl ?_); refine wp_al HB1.out (t := 40) rfl rfl al_T ?_; intro g4 w2 hb HB2; clear hb HB1)
      | ((with_reducible refine gate_dst (N := 7) rfl ?_); refine wp_ld HB2.out 1 rfl rfl (.tmp 2) rfl rfl Tryd.underlying40 (by kernel_rfl) ?_)
      | (go_at_call 46; refine (is_calls (HN.out.below HB2.out.B) H16.out k).mono ?_; rintro e w3 ⟨rfl, hb⟩; rw [HIs.out]; have HB3 := Lib.hid (HB2.out.below hb); clear hb HB2))
    have a1 : w3.cell? ⟨g2, 1, none⟩ = some (.slice (some ⟨b, 0, none⟩) n c) := (HB3.out.get 1 rfl).cell 1
    have r0 : w3.cell? ⟨b, k * 7, none⟩ = some (.bool false) := (by rw [← hth]; exact (HB3.out.B.cell (p := ⟨b, _, none⟩) HR.out.1).trans (HR.out.2 0 (by omega)))
    have r1 : w3.cell? ⟨b, k * 7 + 1, none⟩ = some (.int .i64 x.level) := (HB3.out.B.cell (p := ⟨b, _, none⟩) HR.out.1).trans (HR.out.2 1 (by omega))
    have r2 : w3.cell? ⟨b, k * 7 + 2, none⟩ = some (.slice FA fl fc) := (HB3.out.B.cell (p := ⟨b, _, none⟩) HR.out.1).trans (HR.out.2 2 (by omega))
    have r3 : w3.cell? ⟨b, k * 7 + 3, none⟩ = some (.int .i64 x.graft) := (HB3.out.B.cell (p := ⟨b, _, none⟩) HR.out.1).trans (HR.out.2 3 (by omega))
    have r4 : w3.cell? ⟨b, k * 7 + 4, none⟩ = some (.int .i64 x.cap) := (HB3.out.B.cell (p := ⟨b, _, none⟩) HR.out.1).trans (HR.out.2 4 (by omega))
    have r5 : w3.cell? ⟨b, k * 7 + 5, none⟩ = some (.int .i64 x.got) := (HB3.out.B.cell (p := ⟨b, _, none⟩) HR.out.1).trans (HR.out.2 5 (by omega))
    have r6 : w3.cell? ⟨b, k * 7 + 6, none⟩ = some (.slice QA ql qc) := (HB3.out.B.cell (p := ⟨b, _, none⟩) HR.out.1).trans (HR.out.2 6 (by omega))
    clear hth
    go_upto_region 4 with (first
      | ((with_reducible refine gate_dst (N := 6) rfl ?_); refine wp_al HB3.out (t := 89) rfl rfl al_H ?_; intro g6 w4 hb HB4; clear hb HB3)
      | ((with_reducible refine gate_store (t := 89) (p := 6) rfl ?_); refine wp_st HB4.out 0 rfl (q := 0) (seg := [.bool false, .int .i64 x.level, .slice FA fl fc, .int .i64 x.graft, .int .i64 x.cap, .int .i64 x.got, .slice QA ql qc]) rfl rfl rfl rfl rfl (by kernel_rfl) (Nat.le_refl _) (o_cons rfl (o_cons rfl (o_cons rfl (o_cons rfl (o_cons rfl (o_cons rfl (o_cons rfl o_nil))))))) ?_; intro w5 hq hf; have HB5 : Hid (Bs w w5 [(g6, 89, [.bool false, .int .i64 x.level, .slice FA fl fc, .int .i64 x.graft, .int .i64 x.cap, .int .i64 x.got, .slice QA ql qc]), (g4, 40, [.int .i64 0, .slice none 0 0]), (g2, 40, [.int .i64 now, .slice (some ⟨b, 0, none⟩) n c])]) := hq; clear hq hf HB4))
    clear a1 r0 r1 r2 r3 r4 r5 r6
    have y0 : w5.cell? ⟨g6, 0, none⟩ = some (.bool false) := (HB5.out.get 0 rfl).cell 0
    go_wp2_with (first
      | ((with_reducible refine gate_dst (N := 20) rfl ?_); refine wp_ld HB5.out 2 rfl rfl (.tmp 2) rfl rfl Tryd.underlying40 (by kernel_rfl) ?_)
      | ((with_reducible refine gate_store (t := 40) (p := 4) rfl ?_); refine wp_st HB5.out 1 rfl (q := 0) (seg := [.int .i64 now, .slice (some ⟨b, 0, none⟩) n c]) rfl rfl rfl rfl rfl (by kernel_rfl) (Nat.le_refl _) (o_cons rfl (o_cons rfl o_nil)) ?_; intro w6 hq hf; have HB6 : Hid (Bs w w6 [(g6, 89, [.bool false, .int .i64 x.level, .slice FA fl fc, .int .i64 x.graft, .int .i64 x.cap, .int .i64 x.got, .slice QA ql qc]), (g4, 40, [.int .i64 now, .slice (some ⟨b, 0, none⟩) n c]), (g2, 40, [.int .i64 now, .slice (some ⟨b, 0, none⟩) n c])]) := hq; clear hq hf HB5))
    (try simp only [Exit.inBlock, Exit.then])
    refine bodyPost_ret (results_ct rfl _ _ g4 _ _ _ _ rfl (HB6.out.get 1 rfl) Tryd.underlying40 rfl (show (Tryd.prog.info? 40).map (·.size) = some 2 by kernel_rfl)) rfl ?_
    exact ⟨_, rfl, HN.out.below HB6.out.B, HB6.out.B⟩
  · skip
    have ht : (s.h k).there = true := by cases hh : (s.h k).there with
      | true => rfl
      | false => exact absurd hh ht
    have hE : s.leaveE (k : Int) = 0 := (if_pos ha).trans (if_pos (by rw [Int.toNat_natCast]; exact ht))
    have hS : s.leave (k : Int) = s.put k { s.h k with there := false, level := -1, q := [] } := (if_pos hE).trans (by rw [Int.toNat_natCast])
    rw [hE, hS]
    clear ha hE hS
    obtain ⟨b, c, FA, fl, fc, QA, ql, qc, rfl, hc, hblt, hx, hrow⟩ := h.host hk
    have HN := Lib.hid h
    have H16 := Lib.hid hn
    have HK := Lib.hid hk
    have HX := Lib.hid hx
    have HR := Lib.hid (And.intro hblt hrow)
    obtain ⟨x, hxx⟩ : ∃ x, x = s.h k := ⟨_, rfl⟩
    have HXX := Lib.hid hxx
    rw [← hxx] at HX HR
    obtain ⟨n, hnn⟩ : ∃ n, n = s.n := ⟨_, rfl⟩
    obtain ⟨now, hnow⟩ : ∃ z, z = s.now := ⟨_, rfl⟩
    have HNN := Lib.hid (And.intro hnn hnow)
    rw [← hnn, ← hnow] at HN ⊢
    rw [← hnn] at hc
    have hkn : k < n := by rw [hnn]; exact hk
    obtain ⟨i0, i1⟩ : (0 : Int) ≤ (k : Int) ∧ (k : Int) < (n : Int) := by omega
    have e0 : decide ((0 : Int) ≤ (k : Int)) = true := decide_eq_true i0
    have e1 : decide ((k : Int) < (n : Int)) = true := decide_eq_true i1
    have HB0 := Lib.hid (Bs.start w)
    clear h hn hk hx hrow hblt hxx hnn hnow
    have hth : x.there = true := by rw [HXX.out]; exact ht
    clear ht
    go_enter Tryd.func37, Tryd.ntmps37
    go_upto_region 3 with (first
      | ((with_reducible refine gate_dst (N := 2) rfl ?_); refine wp_bx HB0.out (t := 40) (cs := [.int .i64 now, .slice (some ⟨b, 0, none⟩) n c]) rfl (.tmp 0) rfl rfl ?_; intro g2 w1 hb HB1; clear hb HB0)
      | ((with_reducible refine gate_dst (N := 4) rfl ?_); refine wp_al HB1.out (t := 40) rfl rfl al_T ?_; intro g4 w2 hb HB2; clear hb HB1)
      | ((with_reducible refine gate_dst (N := 7) rfl ?_); refine wp_ld HB2.out 1 rfl rfl (.tmp 2) rfl rfl Tryd.underlying40 (by kernel_rfl) ?_)
      | (go_at_call 46; refine (is_calls (HN.out.below HB2.out.B) H16.out k).mono ?_; rintro e w3 ⟨rfl, hb⟩; rw [HIs.out]; have HB3 := Lib.hid (HB2.out.below hb); clear hb HB2))
    have a1 : w3.cell? ⟨g2, 1, none⟩ = some (.slice (some ⟨b, 0, none⟩) n c) := (HB3.out.get 1 rfl).cell 1
    have r0 : w3.cell? ⟨b, k * 7, none⟩ = some (.bool true) := (by rw [← hth]; exact (HB3.out.B.cell (p := ⟨b, _, none⟩) HR.out.1).trans (HR.out.2 0 (by omega)))
    have r1 : w3.cell? ⟨b, k * 7 + 1, none⟩ = some (.int .i64 x.level) := (HB3.out.B.cell (p := ⟨b, _, none⟩) HR.out.1).trans (HR.out.2 1 (by omega))
    have r2 : w3.cell? ⟨b, k * 7 + 2, none⟩ = some (.slice FA fl fc) := (HB3.out.B.cell (p := ⟨b, _, none⟩) HR.out.1).trans (HR.out.2 2 (by omega))
    have r3 : w3.cell? ⟨b, k * 7 + 3, none⟩ = some (.int .i64 x.graft) := (HB3.out.B.cell (p := ⟨b, _, none⟩) HR.out.1).trans (HR.out.2 3 (by omega))
    have r4 : w3.cell? ⟨b, k * 7 + 4, none⟩ = some (.int .i64 x.cap) := (HB3.out.B.cell (p := ⟨b, _, none⟩) HR.out.1).trans (HR.out.2 4 (by omega))
    have r5 : w3.cell? ⟨b, k * 7 + 5, none⟩ = some (.int .i64 x.got) := (HB3.out.B.cell (p := ⟨b, _, none⟩) HR.out.1).trans (HR.out.2 5 (by omega))
    have r6 : w3.cell? ⟨b, k * 7 + 6, none⟩ = some (.slice QA ql qc) := (HB3.out.B.cell (p := ⟨b, _, none⟩) HR.out.1).trans (HR.out.2 6 (by omega))
    clear hth
    go_upto_region 4 with (first
      | ((with_reducible refine gate_dst (N := 6) rfl ?_); refine wp_al HB3.out (t := 89) rfl rfl al_H ?_; intro g6 w4 hb HB4; clear hb HB3)
      | ((with_reducible refine gate_store (t := 89) (p := 6) rfl ?_); refine wp_st HB4.out 0 rfl (q := 0) (seg := [.bool true, .int .i64 x.level, .slice FA fl fc, .int .i64 x.graft, .int .i64 x.cap, .int .i64 x.got, .slice QA ql qc]) rfl rfl rfl rfl rfl (by kernel_rfl) (Nat.le_refl _) (o_cons rfl (o_cons rfl (o_cons rfl (o_cons rfl (o_cons rfl (o_cons rfl (o_cons rfl o_nil))))))) ?_; intro w5 hq hf; have HB5 : Hid (Bs w w5 [(g6, 89, [.bool true, .int .i64 x.level, .slice FA fl fc, .int .i64 x.graft, .int .i64 x.cap, .int .i64 x.got, .slice QA ql qc]), (g4, 40, [.int .i64 0, .slice none 0 0]), (g2, 40, [.int .i64 now, .slice (some ⟨b, 0, none⟩) n c])]) := hq; clear hq hf HB4))
    clear a1 r0 r1 r2 r3 r4 r5 r6
    have y0 : w5.cell? ⟨g6, 0, none⟩ = some (.bool true) := (HB5.out.get 0 rfl).cell 0
    go_upto_region 6 with (fail)
    clear y0
    have y0 : w5.cell? ⟨g6, 0, none⟩ = some (.bool true) := (HB5.out.get 0 rfl).cell 0
    have f0 : w5.frozen? ⟨g6, 0, none⟩ = false := (HB5.out.get 0 rfl).frozen 0
    go_upto_region 7 with (fail)
    have HB6 : Hid (Bs w (w5.setCell ⟨g6, 0, none⟩ (.bool false)) [(g6, 89, [.bool false, .int .i64 x.level, .slice FA fl fc, .int .i64 x.graft, .int .i64 x.cap, .int .i64 x.got, .slice QA ql qc]), (g4, 40, [.int .i64 0, .slice none 0 0]), (g2, 40, [.int .i64 now, .slice (some ⟨b, 0, none⟩) n c])]) := Lib.hid (HB5.out.set 0 rfl 0 (.bool false))
    generalize w5.setCell ⟨g6, 0, none⟩ (.bool false) = w6 at HB6 ⊢
    clear HB5
    clear y0 f0
    have y1 : w6.cell? ⟨g6, 1, none⟩ = some (.int .i64 x.level) := (HB6.out.get 0 rfl).cell 1
    have f1 : w6.frozen? ⟨g6, 1, none⟩ = false := (HB6.out.get 0 rfl).frozen 1
    go_upto_region 8 with (fail)
    have HB7 : Hid (Bs w (w6.setCell ⟨g6, 1, none⟩ (.int .i64 (-1))) [(g6, 89, [.bool false, .int .i64 (-1), .slice FA fl fc, .int .i64 x.graft, .int .i64 x.cap, .int .i64 x.got, .slice QA ql qc]), (g4, 40, [.int .i64 0, .slice none 0 0]), (g2, 40, [.int .i64 now, .slice (some ⟨b, 0, none⟩) n c])]) := Lib.hid (HB6.out.set 0 rfl 1 (.int .i64 (-1)))
    generalize w6.setCell ⟨g6, 1, none⟩ (.int .i64 (-1)) = w7 at HB7 ⊢
    clear HB6
    clear y1 f1
    have y6 : w7.cell? ⟨g6, 6, none⟩ = some (.slice QA ql qc) := (HB7.out.get 0 rfl).cell 6
    have f6 : w7.frozen? ⟨g6, 6, none⟩ = false := (HB7.out.get 0 rfl).frozen 6
    go_upto_region 9 with (fail)
    have HB8 : Hid (Bs w (w7.setCell ⟨g6, 6, none⟩ (.slice none 0 0)) [(g6, 89, [.bool false, .int .i64 (-1), .slice FA fl fc, .int .i64 x.graft, .int .i64 x.cap, .int .i64 x.got, .slice none 0 0]), (g4, 40, [.int .i64 0, .slice none 0 0]), (g2, 40, [.int .i64 now, .slice (some ⟨b, 0, none⟩) n c])]) := Lib.hid (HB7.out.set 0 rfl 6 (.slice none 0 0))
    generalize w7.setCell ⟨g6, 6, none⟩ (.slice none 0 0) = w8 at HB8 ⊢
    clear HB7
    clear y6 f6
    have y0 : w8.cell? ⟨g6, 0, none⟩ = some (.bool false) := (HB8.out.get 0 rfl).cell 0
    have y1 : w8.cell? ⟨g6, 1, none⟩ = some (.int .i64 (-1)) := (HB8.out.get 0 rfl).cell 1
    have y2 : w8.cell? ⟨g6, 2, none⟩ = some (.slice FA fl fc) := (HB8.out.get 0 rfl).cell 2
    have y3 : w8.cell? ⟨g6, 3, none⟩ = some (.int .i64 x.graft) := (HB8.out.get 0 rfl).cell 3
    have y4 : w8.cell? ⟨g6, 4, none⟩ = some (.int .i64 x.cap) := (HB8.out.get 0 rfl).cell 4
    have y5 : w8.cell? ⟨g6, 5, none⟩ = some (.int .i64 x.got) := (HB8.out.get 0 rfl).cell 5
    have y6 : w8.cell? ⟨g6, 6, none⟩ = some (.slice none 0 0) := (HB8.out.get 0 rfl).cell 6
    go_wp2_with (first
      | ((with_reducible refine gate_dst (N := 24) rfl ?_); refine wp_ld HB8.out 2 rfl rfl (.tmp 2) rfl rfl Tryd.underlying40 (by kernel_rfl) ?_)
      | (go_at_call 54; refine (with_calls (HN.out.below HB8.out.B) H16.out k HK.out ({ x with there := false, level := -1, q := [] }) (.slice FA fl fc) (.slice none 0 0) (⟨(HX.out.below HB8.out.B).1, QRef.nil _⟩)).mono ?_; rintro e w9 ⟨v', rfl, hv, hb⟩; obtain ⟨b5, c5, rfl, hc5, _⟩ := hv.parts; have HV := Lib.hid hv; have HB9 := Lib.hid (HB8.out.below hb); clear hv hb hc5 HB8)
      | ((with_reducible refine gate_store (t := 40) (p := 4) rfl ?_); refine wp_st HB9.out 1 rfl (q := 0) (seg := [.int .i64 _, .slice (some ⟨b5, 0, none⟩) _ c5]) rfl rfl rfl rfl rfl (by kernel_rfl) (Nat.le_refl _) (o_cons rfl (o_cons rfl o_nil)) ?_; intro w10 hq hf; have HB10 : Hid (Bs w w10 [(g6, 89, [.bool false, .int .i64 (-1), .slice FA fl fc, .int .i64 x.graft, .int .i64 x.cap, .int .i64 x.got, .slice none 0 0]), (g4, 40, [.int .i64 _, .slice (some ⟨b5, 0, none⟩) _ c5]), (g2, 40, [.int .i64 now, .slice (some ⟨b, 0, none⟩) n c])]) := hq; have HV2 := Lib.hid (HV.out.st hf.out); clear hq hf HB9))
    (try simp only [Exit.inBlock, Exit.then])
    refine bodyPost_ret (results_ct rfl _ _ g4 _ _ _ _ rfl (HB10.out.get 1 rfl) Tryd.underlying40 rfl (show (Tryd.prog.info? 40).map (·.size) = some 2 by kernel_rfl)) rfl ?_
    exact ⟨_, rfl, by rw [← HXX.out]; exact HV2.out, HB10.out.B⟩
end
section
open Go.RowKit Go.Deep Go.Proofs.YtpfpdbbgiimnmaaDoor.Er Go.Proofs.YtpfpdbbgiimnmaaDoor.Mod Go.Proofs.YtpfpdbbgiimnmaaDoorW.PrintWords Go.Proofs.YtpfpdbbgiimnmaaDoorW.PrintLast
theorem HRef.ql {w : World} {x : Ho} {FA QA : Option Addr} {fl fc ql qc : Nat} (h : HRef w x (.slice FA fl fc) (.slice QA ql qc)) : ql = x.q.length := by
  obtain ⟨_, ⟨_, _, e, _⟩⟩ := h
  cases e; rfl
theorem QRef.form {w : World} {v : Value} {q : List It} (h : QRef w v q) : ∃ A c, v = .slice A q.length c ∧ q.length ≤ c := by
  obtain ⟨A, c, e, h1, _⟩ := h
  exact ⟨A, c, e, h1⟩
set_option maxHeartbeats 8000000 in
set_option maxRecDepth 100000 in
theorem graft_r {w : World} {v : Value} {s : Nt} (h : NRef w v s) (hn : s.n ≤ 16) (i m : Int) : Calls Tryd.prog 39 #[v, .int .i64 i, .int .i64 m] w fun e w' => ∃ v', e = .returned (.tuple #[v', .int .i64 (s.graftE i m)]) ∧ NRef w' v' (s.setGraft i m) ∧ Below w.heap.size w w' := by
  by_cases ha : s.at i = 0
  rotate_left
  · skip
    have hE : s.graftE i m = 1 := (if_neg ha).trans (at_no ha).1
    have hS : s.setGraft i m = s := if_neg (by rw [hE]; decide)
    have HIs := Lib.hid (at_dec ha)
    rw [hE, hS]
    clear ha hE hS
    obtain ⟨b, c, rfl, hc, _⟩ := h.parts
    have HN := Lib.hid h
    have H16 := Lib.hid hn
    obtain ⟨n, hnn⟩ : ∃ n, n = s.n := ⟨_, rfl⟩
    obtain ⟨now, hnow⟩ : ∃ z, z = s.now := ⟨_, rfl⟩
    rw [← hnn, ← hnow] at HN ⊢
    rw [← hnn] at hc
    have HB0 := Lib.hid (Bs.start w)
    clear h hn hnn hnow
    go_enter Tryd.func39, Tryd.ntmps39
    go_wp2_with (first
      | ((with_reducible refine gate_dst (N := 3) rfl ?_); refine wp_bx HB0.out (t := 40) (cs := [.int .i64 now, .slice (some ⟨b, 0, none⟩) n c]) rfl (.tmp 0) rfl rfl ?_; intro g2 w1 hb HB1; clear hb HB0)
      | ((with_reducible refine gate_dst (N := 6) rfl ?_); refine wp_al HB1.out (t := 40) rfl rfl al_T ?_; intro g4 w2 hb HB2; clear hb HB1)
      | ((with_reducible refine gate_dst (N := 9) rfl ?_); refine wp_ld HB2.out 1 rfl rfl (.tmp 3) rfl rfl Tryd.underlying40 (by kernel_rfl) ?_)
      | (go_at_call 46; refine (is_calls (HN.out.below HB2.out.B) H16.out i).mono ?_; rintro e w3 ⟨rfl, hb⟩; rw [HIs.out]; have HB3 := Lib.hid (HB2.out.below hb); clear hb HB2)
      | ((with_reducible refine gate_dst (N := 21) rfl ?_); refine wp_ld HB3.out 1 rfl rfl (.tmp 3) rfl rfl Tryd.underlying40 (by kernel_rfl) ?_)
      | ((with_reducible refine gate_store (t := 40) (p := 6) rfl ?_); refine wp_st HB3.out 0 rfl (q := 0) (seg := [.int .i64 now, .slice (some ⟨b, 0, none⟩) n c]) rfl rfl rfl rfl rfl (by kernel_rfl) (Nat.le_refl _) (o_cons rfl (o_cons rfl o_nil)) ?_; intro w4 hq hf; have HB4 : Hid (Bs w w4 [(g4, 40, [.int .i64 now, .slice (some ⟨b, 0, none⟩) n c]), (g2, 40, [.int .i64 now, .slice (some ⟨b, 0, none⟩) n c])]) := hq; clear hq hf HB3))
    (try simp only [Exit.inBlock, Exit.then])
    refine bodyPost_ret (results_ct rfl _ _ g4 _ _ _ _ rfl (HB4.out.get 0 rfl) Tryd.underlying40 rfl (show (Tryd.prog.info? 40).map (·.size) = some 2 by kernel_rfl)) rfl ?_
    exact ⟨_, rfl, HN.out.below HB4.out.B, HB4.out.B⟩
  obtain ⟨k, rfl, hk⟩ := at_of ha
  have HIs := Lib.hid (at_dec1 hk)
  by_cases hm : m < 0 ∨ 64 < m
  · have hE : s.graftE (k : Int) m = 1 := (if_pos ha).trans (if_pos hm)
    have hS : s.setGraft (k : Int) m = s := if_neg (by rw [hE]; decide)
    rw [hE, hS]
    have hm2 : m < 0 ∨ (¬ m < 0 ∧ 64 < m) := by omega
    clear ha hE hS hm
    rcases hm2 with h1 | ⟨h1, h2⟩
    · skip
      have d1 : decide (m < (0 : Int)) = true := decide_eq_true h1
      clear h1
      obtain ⟨b, c, rfl, hc, _⟩ := h.parts
      have HN := Lib.hid h
      have H16 := Lib.hid hn
      obtain ⟨n, hnn⟩ : ∃ n, n = s.n := ⟨_, rfl⟩
      obtain ⟨now, hnow⟩ : ∃ z, z = s.now := ⟨_, rfl⟩
      rw [← hnn, ← hnow] at HN ⊢
      rw [← hnn] at hc
      have HB0 := Lib.hid (Bs.start w)
      clear h hn hnn hnow
      go_enter Tryd.func39, Tryd.ntmps39
      go_wp2_with (first
        | ((with_reducible refine gate_dst (N := 3) rfl ?_); refine wp_bx HB0.out (t := 40) (cs := [.int .i64 now, .slice (some ⟨b, 0, none⟩) n c]) rfl (.tmp 0) rfl rfl ?_; intro g2 w1 hb HB1; clear hb HB0)
        | ((with_reducible refine gate_dst (N := 6) rfl ?_); refine wp_al HB1.out (t := 40) rfl rfl al_T ?_; intro g4 w2 hb HB2; clear hb HB1)
        | ((with_reducible refine gate_dst (N := 9) rfl ?_); refine wp_ld HB2.out 1 rfl rfl (.tmp 3) rfl rfl Tryd.underlying40 (by kernel_rfl) ?_)
        | (go_at_call 46; refine (is_calls (HN.out.below HB2.out.B) H16.out k).mono ?_; rintro e w3 ⟨rfl, hb⟩; rw [HIs.out]; have HB3 := Lib.hid (HB2.out.below hb); clear hb HB2)
        | ((with_reducible refine gate_dst (N := 21) rfl ?_); refine wp_ld HB3.out 1 rfl rfl (.tmp 3) rfl rfl Tryd.underlying40 (by kernel_rfl) ?_)
        | ((with_reducible refine gate_store (t := 40) (p := 6) rfl ?_); refine wp_st HB3.out 0 rfl (q := 0) (seg := [.int .i64 now, .slice (some ⟨b, 0, none⟩) n c]) rfl rfl rfl rfl rfl (by kernel_rfl) (Nat.le_refl _) (o_cons rfl (o_cons rfl o_nil)) ?_; intro w4 hq hf; have HB4 : Hid (Bs w w4 [(g4, 40, [.int .i64 now, .slice (some ⟨b, 0, none⟩) n c]), (g2, 40, [.int .i64 now, .slice (some ⟨b, 0, none⟩) n c])]) := hq; clear hq hf HB3))
      (try simp only [Exit.inBlock, Exit.then])
      refine bodyPost_ret (results_ct rfl _ _ g4 _ _ _ _ rfl (HB4.out.get 0 rfl) Tryd.underlying40 rfl (show (Tryd.prog.info? 40).map (·.size) = some 2 by kernel_rfl)) rfl ?_
      exact ⟨_, rfl, HN.out.below HB4.out.B, HB4.out.B⟩
    · skip
      have d1 : decide (m < (0 : Int)) = false := decide_eq_false h1
      have d2 : decide ((64 : Int) < m) = true := decide_eq_true h2
      clear h1 h2
      obtain ⟨b, c, rfl, hc, _⟩ := h.parts
      have HN := Lib.hid h
      have H16 := Lib.hid hn
      obtain ⟨n, hnn⟩ : ∃ n, n = s.n := ⟨_, rfl⟩
      obtain ⟨now, hnow⟩ : ∃ z, z = s.now := ⟨_, rfl⟩
      rw [← hnn, ← hnow] at HN ⊢
      rw [← hnn] at hc
      have HB0 := Lib.hid (Bs.start w)
      clear h hn hnn hnow
      go_enter Tryd.func39, Tryd.ntmps39
      go_wp2_with (first
        | ((with_reducible refine gate_dst (N := 3) rfl ?_); refine wp_bx HB0.out (t := 40) (cs := [.int .i64 now, .slice (some ⟨b, 0, none⟩) n c]) rfl (.tmp 0) rfl rfl ?_; intro g2 w1 hb HB1; clear hb HB0)
        | ((with_reducible refine gate_dst (N := 6) rfl ?_); refine wp_al HB1.out (t := 40) rfl rfl al_T ?_; intro g4 w2 hb HB2; clear hb HB1)
        | ((with_reducible refine gate_dst (N := 9) rfl ?_); refine wp_ld HB2.out 1 rfl rfl (.tmp 3) rfl rfl Tryd.underlying40 (by kernel_rfl) ?_)
        | (go_at_call 46; refine (is_calls (HN.out.below HB2.out.B) H16.out k).mono ?_; rintro e w3 ⟨rfl, hb⟩; rw [HIs.out]; have HB3 := Lib.hid (HB2.out.below hb); clear hb HB2)
        | ((with_reducible refine gate_dst (N := 21) rfl ?_); refine wp_ld HB3.out 1 rfl rfl (.tmp 3) rfl rfl Tryd.underlying40 (by kernel_rfl) ?_)
        | ((with_reducible refine gate_store (t := 40) (p := 6) rfl ?_); refine wp_st HB3.out 0 rfl (q := 0) (seg := [.int .i64 now, .slice (some ⟨b, 0, none⟩) n c]) rfl rfl rfl rfl rfl (by kernel_rfl) (Nat.le_refl _) (o_cons rfl (o_cons rfl o_nil)) ?_; intro w4 hq hf; have HB4 : Hid (Bs w w4 [(g4, 40, [.int .i64 now, .slice (some ⟨b, 0, none⟩) n c]), (g2, 40, [.int .i64 now, .slice (some ⟨b, 0, none⟩) n c])]) := hq; clear hq hf HB3))
      (try simp only [Exit.inBlock, Exit.then])
      refine bodyPost_ret (results_ct rfl _ _ g4 _ _ _ _ rfl (HB4.out.get 0 rfl) Tryd.underlying40 rfl (show (Tryd.prog.info? 40).map (·.size) = some 2 by kernel_rfl)) rfl ?_
      exact ⟨_, rfl, HN.out.below HB4.out.B, HB4.out.B⟩
  · have hE : s.graftE (k : Int) m = 0 := (if_pos ha).trans (if_neg hm)
    have hS : s.setGraft (k : Int) m = s.put k { s.h k with graft := m } := (if_pos hE).trans (by rw [Int.toNat_natCast])
    rw [hE, hS]
    have d1 : decide (m < (0 : Int)) = false := decide_eq_false (by omega)
    have d2 : decide ((64 : Int) < m) = false := decide_eq_false (by omega)
    clear ha hE hS hm
    obtain ⟨b, c, FA, fl, fc, QA, ql, qc, rfl, hc, hblt, hx, hrow⟩ := h.host hk
    have HN := Lib.hid h
    have H16 := Lib.hid hn
    have HK := Lib.hid hk
    have HX := Lib.hid hx
    have HR := Lib.hid (And.intro hblt hrow)
    obtain ⟨x, hxx⟩ : ∃ x, x = s.h k := ⟨_, rfl⟩
    have HXX := Lib.hid hxx
    rw [← hxx] at HX HR
    obtain ⟨n, hnn⟩ : ∃ n, n = s.n := ⟨_, rfl⟩
    obtain ⟨now, hnow⟩ : ∃ z, z = s.now := ⟨_, rfl⟩
    have HNN := Lib.hid (And.intro hnn hnow)
    rw [← hnn, ← hnow] at HN ⊢
    rw [← hnn] at hc
    have hkn : k < n := by rw [hnn]; exact hk
    obtain ⟨i0, i1⟩ : (0 : Int) ≤ (k : Int) ∧ (k : Int) < (n : Int) := by omega
    have e0 : decide ((0 : Int) ≤ (k : Int)) = true := decide_eq_true i0
    have e1 : decide ((k : Int) < (n : Int)) = true := decide_eq_true i1
    have HB0 := Lib.hid (Bs.start w)
    clear h hn hk hx hrow hblt hxx hnn hnow
    go_enter Tryd.func39, Tryd.ntmps39
    go_upto_region 3 with (first
      | ((with_reducible refine gate_dst (N := 3) rfl ?_); refine wp_bx HB0.out (t := 40) (cs := [.int .i64 now, .slice (some ⟨b, 0, none⟩) n c]) rfl (.tmp 0) rfl rfl ?_; intro g2 w1 hb HB1; clear hb HB0)
      | ((with_reducible refine gate_dst (N := 6) rfl ?_); refine wp_al HB1.out (t := 40) rfl rfl al_T ?_; intro g4 w2 hb HB2; clear hb HB1)
      | ((with_reducible refine gate_dst (N := 9) rfl ?_); refine wp_ld HB2.out 1 rfl rfl (.tmp 3) rfl rfl Tryd.underlying40 (by kernel_rfl) ?_)
      | (go_at_call 46; refine (is_calls (HN.out.below HB2.out.B) H16.out k).mono ?_; rintro e w3 ⟨rfl, hb⟩; rw [HIs.out]; have HB3 := Lib.hid (HB2.out.below hb); clear hb HB2))
    have a1 : w3.cell? ⟨g2, 1, none⟩ = some (.slice (some ⟨b, 0, none⟩) n c) := (HB3.out.get 1 rfl).cell 1
    have r0 : w3.cell? ⟨b, k * 7, none⟩ = some (.bool x.there) := (HB3.out.B.cell (p := ⟨b, _, none⟩) HR.out.1).trans (HR.out.2 0 (by omega))
    have r1 : w3.cell? ⟨b, k * 7 + 1, none⟩ = some (.int .i64 x.level) := (HB3.out.B.cell (p := ⟨b, _, none⟩) HR.out.1).trans (HR.out.2 1 (by omega))
    have r2 : w3.cell? ⟨b, k * 7 + 2, none⟩ = some (.slice FA fl fc) := (HB3.out.B.cell (p := ⟨b, _, none⟩) HR.out.1).trans (HR.out.2 2 (by omega))
    have r3 : w3.cell? ⟨b, k * 7 + 3, none⟩ = some (.int .i64 x.graft) := (HB3.out.B.cell (p := ⟨b, _, none⟩) HR.out.1).trans (HR.out.2 3 (by omega))
    have r4 : w3.cell? ⟨b, k * 7 + 4, none⟩ = some (.int .i64 x.cap) := (HB3.out.B.cell (p := ⟨b, _, none⟩) HR.out.1).trans (HR.out.2 4 (by omega))
    have r5 : w3.cell? ⟨b, k * 7 + 5, none⟩ = some (.int .i64 x.got) := (HB3.out.B.cell (p := ⟨b, _, none⟩) HR.out.1).trans (HR.out.2 5 (by omega))
    have r6 : w3.cell? ⟨b, k * 7 + 6, none⟩ = some (.slice QA ql qc) := (HB3.out.B.cell (p := ⟨b, _, none⟩) HR.out.1).trans (HR.out.2 6 (by omega))
    go_upto_region 4 with (first
      | ((with_reducible refine gate_dst (N := 8) rfl ?_); refine wp_al HB3.out (t := 89) rfl rfl al_H ?_; intro g8 w4 hb HB4; clear hb HB3)
      | ((with_reducible refine gate_store (t := 89) (p := 8) rfl ?_); refine wp_st HB4.out 0 rfl (q := 0) (seg := [.bool x.there, .int .i64 x.level, .slice FA fl fc, .int .i64 x.graft, .int .i64 x.cap, .int .i64 x.got, .slice QA ql qc]) rfl rfl rfl rfl rfl (by kernel_rfl) (Nat.le_refl _) (o_cons rfl (o_cons rfl (o_cons rfl (o_cons rfl (o_cons rfl (o_cons rfl (o_cons rfl o_nil))))))) ?_; intro w5 hq hf; have HB5 : Hid (Bs w w5 [(g8, 89, [.bool x.there, .int .i64 x.level, .slice FA fl fc, .int .i64 x.graft, .int .i64 x.cap, .int .i64 x.got, .slice QA ql qc]), (g4, 40, [.int .i64 0, .slice none 0 0]), (g2, 40, [.int .i64 now, .slice (some ⟨b, 0, none⟩) n c])]) := hq; clear hq hf HB4))
    clear a1 r0 r1 r2 r3 r4 r5 r6
    have y3 : w5.cell? ⟨g8, 3, none⟩ = some (.int .i64 x.graft) := (HB5.out.get 0 rfl).cell 3
    have f3 : w5.frozen? ⟨g8, 3, none⟩ = false := (HB5.out.get 0 rfl).frozen 3
    go_upto_region 5 with (fail)
    have HB6 : Hid (Bs w (w5.setCell ⟨g8, 3, none⟩ (.int .i64 m)) [(g8, 89, [.bool x.there, .int .i64 x.level, .slice FA fl fc, .int .i64 m, .int .i64 x.cap, .int .i64 x.got, .slice QA ql qc]), (g4, 40, [.int .i64 0, .slice none 0 0]), (g2, 40, [.int .i64 now, .slice (some ⟨b, 0, none⟩) n c])]) := Lib.hid (HB5.out.set 0 rfl 3 (.int .i64 m))
    generalize w5.setCell ⟨g8, 3, none⟩ (.int .i64 m) = w6 at HB6 ⊢
    clear HB5
    clear y3 f3
    have y0 : w6.cell? ⟨g8, 0, none⟩ = some (.bool x.there) := (HB6.out.get 0 rfl).cell 0
    have y1 : w6.cell? ⟨g8, 1, none⟩ = some (.int .i64 x.level) := (HB6.out.get 0 rfl).cell 1
    have y2 : w6.cell? ⟨g8, 2, none⟩ = some (.slice FA fl fc) := (HB6.out.get 0 rfl).cell 2
    have y3 : w6.cell? ⟨g8, 3, none⟩ = some (.int .i64 m) := (HB6.out.get 0 rfl).cell 3
    have y4 : w6.cell? ⟨g8, 4, none⟩ = some (.int .i64 x.cap) := (HB6.out.get 0 rfl).cell 4
    have y5 : w6.cell? ⟨g8, 5, none⟩ = some (.int .i64 x.got) := (HB6.out.get 0 rfl).cell 5
    have y6 : w6.cell? ⟨g8, 6, none⟩ = some (.slice QA ql qc) := (HB6.out.get 0 rfl).cell 6
    go_wp2_with (first
      | ((with_reducible refine gate_dst (N := 29) rfl ?_); refine wp_ld HB6.out 2 rfl rfl (.tmp 3) rfl rfl Tryd.underlying40 (by kernel_rfl) ?_)
      | (go_at_call 54; refine (with_calls (HN.out.below HB6.out.B) H16.out k HK.out ({ x with graft := m }) (.slice FA fl fc) (.slice QA ql qc) (⟨(HX.out.below HB6.out.B).1, (HX.out.below HB6.out.B).2⟩)).mono ?_; rintro e w7 ⟨v', rfl, hv, hb⟩; obtain ⟨b5, c5, rfl, hc5, _⟩ := hv.parts; have HV := Lib.hid hv; have HB7 := Lib.hid (HB6.out.below hb); clear hv hb hc5 HB6)
      | ((with_reducible refine gate_store (t := 40) (p := 6) rfl ?_); refine wp_st HB7.out 1 rfl (q := 0) (seg := [.int .i64 _, .slice (some ⟨b5, 0, none⟩) _ c5]) rfl rfl rfl rfl rfl (by kernel_rfl) (Nat.le_refl _) (o_cons rfl (o_cons rfl o_nil)) ?_; intro w8 hq hf; have HB8 : Hid (Bs w w8 [(g8, 89, [.bool x.there, .int .i64 x.level, .slice FA fl fc, .int .i64 m, .int .i64 x.cap, .int .i64 x.got, .slice QA ql qc]), (g4, 40, [.int .i64 _, .slice (some ⟨b5, 0, none⟩) _ c5]), (g2, 40, [.int .i64 now, .slice (some ⟨b, 0, none⟩) n c])]) := hq; have HV2 := Lib.hid (HV.out.st hf.out); clear hq hf HB7))
    (try simp only [Exit.inBlock, Exit.then])
    refine bodyPost_ret (results_ct rfl _ _ g4 _ _ _ _ rfl (HB8.out.get 1 rfl) Tryd.underlying40 rfl (show (Tryd.prog.info? 40).map (·.size) = some 2 by kernel_rfl)) rfl ?_
    exact ⟨_, rfl, by rw [← HXX.out]; exact HV2.out, HB8.out.B⟩
set_option maxHeartbeats 8000000 in
set_option maxRecDepth 100000 in
theorem cap_r {w : World} {v : Value} {s : Nt} (h : NRef w v s) (hn : s.n ≤ 16) (i m : Int) : Calls Tryd.prog 40 #[v, .int .i64 i, .int .i64 m] w fun e w' => ∃ v', e = .returned (.tuple #[v', .int .i64 (s.capE i m)]) ∧ NRef w' v' (s.setCap i m) ∧ Below w.heap.size w w' := by
  by_cases ha : s.at i = 0
  rotate_left
  · skip
    have hE : s.capE i m = 1 := (if_neg ha).trans (at_no ha).1
    have hS : s.setCap i m = s := if_neg (by rw [hE]; decide)
    have HIs := Lib.hid (at_dec ha)
    rw [hE, hS]
    clear ha hE hS
    obtain ⟨b, c, rfl, hc, _⟩ := h.parts
    have HN := Lib.hid h
    have H16 := Lib.hid hn
    obtain ⟨n, hnn⟩ : ∃ n, n = s.n := ⟨_, rfl⟩
    obtain ⟨now, hnow⟩ : ∃ z, z = s.now := ⟨_, rfl⟩
    rw [← hnn, ← hnow] at HN ⊢
    rw [← hnn] at hc
    have HB0 := Lib.hid (Bs.start w)
    clear h hn hnn hnow
    go_enter Tryd.func40, Tryd.ntmps40
    go_wp2_with (first
      | ((with_reducible refine gate_dst (N := 3) rfl ?_); refine wp_bx HB0.out (t := 40) (cs := [.int .i64 now, .slice (some ⟨b, 0, none⟩) n c]) rfl (.tmp 0) rfl rfl ?_; intro g2 w1 hb HB1; clear hb HB0)
      | ((with_reducible refine gate_dst (N := 6) rfl ?_); refine wp_al HB1.out (t := 40) rfl rfl al_T ?_; intro g4 w2 hb HB2; clear hb HB1)
      | ((with_reducible refine gate_dst (N := 9) rfl ?_); refine wp_ld HB2.out 1 rfl rfl (.tmp 3) rfl rfl Tryd.underlying40 (by kernel_rfl) ?_)
      | (go_at_call 46; refine (is_calls (HN.out.below HB2.out.B) H16.out i).mono ?_; rintro e w3 ⟨rfl, hb⟩; rw [HIs.out]; have HB3 := Lib.hid (HB2.out.below hb); clear hb HB2)
      | ((with_reducible refine gate_dst (N := 21) rfl ?_); refine wp_ld HB3.out 1 rfl rfl (.tmp 3) rfl rfl Tryd.underlying40 (by kernel_rfl) ?_)
      | ((with_reducible refine gate_store (t := 40) (p := 6) rfl ?_); refine wp_st HB3.out 0 rfl (q := 0) (seg := [.int .i64 now, .slice (some ⟨b, 0, none⟩) n c]) rfl rfl rfl rfl rfl (by kernel_rfl) (Nat.le_refl _) (o_cons rfl (o_cons rfl o_nil)) ?_; intro w4 hq hf; have HB4 : Hid (Bs w w4 [(g4, 40, [.int .i64 now, .slice (some ⟨b, 0, none⟩) n c]), (g2, 40, [.int .i64 now, .slice (some ⟨b, 0, none⟩) n c])]) := hq; clear hq hf HB3))
    (try simp only [Exit.inBlock, Exit.then])
    refine bodyPost_ret (results_ct rfl _ _ g4 _ _ _ _ rfl (HB4.out.get 0 rfl) Tryd.underlying40 rfl (show (Tryd.prog.info? 40).map (·.size) = some 2 by kernel_rfl)) rfl ?_
    exact ⟨_, rfl, HN.out.below HB4.out.B, HB4.out.B⟩
  obtain ⟨k, rfl, hk⟩ := at_of ha
  have HIs := Lib.hid (at_dec1 hk)
  by_cases hm : m < -1 ∨ 4096 < m
  · have hE : s.capE (k : Int) m = 1 := (if_pos ha).trans (if_pos hm)
    have hS : s.setCap (k : Int) m = s := if_neg (by rw [hE]; decide)
    rw [hE, hS]
    have hm2 : m < -1 ∨ (¬ m < -1 ∧ 4096 < m) := by omega
    clear ha hE hS hm
    rcases hm2 with h1 | ⟨h1, h2⟩
    · skip
      have d1 : decide (m < (-1 : Int)) = true := decide_eq_true h1
      clear h1
      obtain ⟨b, c, rfl, hc, _⟩ := h.parts
      have HN := Lib.hid h
      have H16 := Lib.hid hn
      obtain ⟨n, hnn⟩ : ∃ n, n = s.n := ⟨_, rfl⟩
      obtain ⟨now, hnow⟩ : ∃ z, z = s.now := ⟨_, rfl⟩
      rw [← hnn, ← hnow] at HN ⊢
      rw [← hnn] at hc
      have HB0 := Lib.hid (Bs.start w)
      clear h hn hnn hnow
      go_enter Tryd.func40, Tryd.ntmps40
      go_wp2_with (first
        | ((with_reducible refine gate_dst (N := 3) rfl ?_); refine wp_bx HB0.out (t := 40) (cs := [.int .i64 now, .slice (some ⟨b, 0, none⟩) n c]) rfl (.tmp 0) rfl rfl ?_; intro g2 w1 hb HB1; clear hb HB0)
        | ((with_reducible refine gate_dst (N := 6) rfl ?_); refine wp_al HB1.out (t := 40) rfl rfl al_T ?_; intro g4 w2 hb HB2; clear hb HB1)
        | ((with_reducible refine gate_dst (N := 9) rfl ?_); refine wp_ld HB2.out 1 rfl rfl (.tmp 3) rfl rfl Tryd.underlying40 (by kernel_rfl) ?_)
        | (go_at_call 46; refine (is_calls (HN.out.below HB2.out.B) H16.out k).mono ?_; rintro e w3 ⟨rfl, hb⟩; rw [HIs.out]; have HB3 := Lib.hid (HB2.out.below hb); clear hb HB2)
        | ((with_reducible refine gate_dst (N := 21) rfl ?_); refine wp_ld HB3.out 1 rfl rfl (.tmp 3) rfl rfl Tryd.underlying40 (by kernel_rfl) ?_)
        | ((with_reducible refine gate_store (t := 40) (p := 6) rfl ?_); refine wp_st HB3.out 0 rfl (q := 0) (seg := [.int .i64 now, .slice (some ⟨b, 0, none⟩) n c]) rfl rfl rfl rfl rfl (by kernel_rfl) (Nat.le_refl _) (o_cons rfl (o_cons rfl o_nil)) ?_; intro w4 hq hf; have HB4 : Hid (Bs w w4 [(g4, 40, [.int .i64 now, .slice (some ⟨b, 0, none⟩) n c]), (g2, 40, [.int .i64 now, .slice (some ⟨b, 0, none⟩) n c])]) := hq; clear hq hf HB3))
      (try simp only [Exit.inBlock, Exit.then])
      refine bodyPost_ret (results_ct rfl _ _ g4 _ _ _ _ rfl (HB4.out.get 0 rfl) Tryd.underlying40 rfl (show (Tryd.prog.info? 40).map (·.size) = some 2 by kernel_rfl)) rfl ?_
      exact ⟨_, rfl, HN.out.below HB4.out.B, HB4.out.B⟩
    · skip
      have d1 : decide (m < (-1 : Int)) = false := decide_eq_false h1
      have d2 : decide ((4096 : Int) < m) = true := decide_eq_true h2
      clear h1 h2
      obtain ⟨b, c, rfl, hc, _⟩ := h.parts
      have HN := Lib.hid h
      have H16 := Lib.hid hn
      obtain ⟨n, hnn⟩ : ∃ n, n = s.n := ⟨_, rfl⟩
      obtain ⟨now, hnow⟩ : ∃ z, z = s.now := ⟨_, rfl⟩
      rw [← hnn, ← hnow] at HN ⊢
      rw [← hnn] at hc
      have HB0 := Lib.hid (Bs.start w)
      clear h hn hnn hnow
      go_enter Tryd.func40, Tryd.ntmps40
      go_wp2_with (first
        | ((with_reducible refine gate_dst (N := 3) rfl ?_); refine wp_bx HB0.out (t := 40) (cs := [.int .i64 now, .slice (some ⟨b, 0, none⟩) n c]) rfl (.tmp 0) rfl rfl ?_; intro g2 w1 hb HB1; clear hb HB0)
        | ((with_reducible refine gate_dst (N := 6) rfl ?_); refine wp_al HB1.out (t := 40) rfl rfl al_T ?_; intro g4 w2 hb HB2; clear hb HB1)
        | ((with_reducible refine gate_dst (N := 9) rfl ?_); refine wp_ld HB2.out 1 rfl rfl (.tmp 3) rfl rfl Tryd.underlying40 (by kernel_rfl) ?_)
        | (go_at_call 46; refine (is_calls (HN.out.below HB2.out.B) H16.out k).mono ?_; rintro e w3 ⟨rfl, hb⟩; rw [HIs.out]; have HB3 := Lib.hid (HB2.out.below hb); clear hb HB2)
        | ((with_reducible refine gate_dst (N := 21) rfl ?_); refine wp_ld HB3.out 1 rfl rfl (.tmp 3) rfl rfl Tryd.underlying40 (by kernel_rfl) ?_)
        | ((with_reducible refine gate_store (t := 40) (p := 6) rfl ?_); refine wp_st HB3.out 0 rfl (q := 0) (seg := [.int .i64 now, .slice (some ⟨b, 0, none⟩) n c]) rfl rfl rfl rfl rfl (by kernel_rfl) (Nat.le_refl _) (o_cons rfl (o_cons rfl o_nil)) ?_; intro w4 hq hf; have HB4 : Hid (Bs w w4 [(g4, 40, [.int .i64 now, .slice (some ⟨b, 0, none⟩) n c]), (g2, 40, [.int .i64 now, .slice (some ⟨b, 0, none⟩) n c])]) := hq; clear hq hf HB3))
      (try simp only [Exit.inBlock, Exit.then])
      refine bodyPost_ret (results_ct rfl _ _ g4 _ _ _ _ rfl (HB4.out.get 0 rfl) Tryd.underlying40 rfl (show (Tryd.prog.info? 40).map (·.size) = some 2 by kernel_rfl)) rfl ?_
      exact ⟨_, rfl, HN.out.below HB4.out.B, HB4.out.B⟩
  · have hE : s.capE (k : Int) m = 0 := (if_pos ha).trans (if_neg hm)
    have hS : s.setCap (k : Int) m = s.put k { s.h k with cap := m } := (if_pos hE).trans (by rw [Int.toNat_natCast])
    rw [hE, hS]
    have d1 : decide (m < (-1 : Int)) = false := decide_eq_false (by omega)
    have d2 : decide ((4096 : Int) < m) = false := decide_eq_false (by omega)
    clear ha hE hS hm
    obtain ⟨b, c, FA, fl, fc, QA, ql, qc, rfl, hc, hblt, hx, hrow⟩ := h.host hk
    have HN := Lib.hid h
    have H16 := Lib.hid hn
    have HK := Lib.hid hk
    have HX := Lib.hid hx
    have HR := Lib.hid (And.intro hblt hrow)
    obtain ⟨x, hxx⟩ : ∃ x, x = s.h k := ⟨_, rfl⟩
    have HXX := Lib.hid hxx
    rw [← hxx] at HX HR
    obtain ⟨n, hnn⟩ : ∃ n, n = s.n := ⟨_, rfl⟩
    obtain ⟨now, hnow⟩ : ∃ z, z = s.now := ⟨_, rfl⟩
    have HNN := Lib.hid (And.intro hnn hnow)
    rw [← hnn, ← hnow] at HN ⊢
    rw [← hnn] at hc
    have hkn : k < n := by rw [hnn]; exact hk
    obtain ⟨i0, i1⟩ : (0 : Int) ≤ (k : Int) ∧ (k : Int) < (n : Int) := by omega
    have e0 : decide ((0 : Int) ≤ (k : Int)) = true := decide_eq_true i0
    have e1 : decide ((k : Int) < (n : Int)) = true := decide_eq_true i1
    have HB0 := Lib.hid (Bs.start w)
    clear h hn hk hx hrow hblt hxx hnn hnow
    go_enter Tryd.func40, Tryd.ntmps40
    go_upto_region 3 with (first
      | ((with_reducible refine gate_dst (N := 3) rfl ?_); refine wp_bx HB0.out (t := 40) (cs := [.int .i64 now, .slice (some ⟨b, 0, none⟩) n c]) rfl (.tmp 0) rfl rfl ?_; intro g2 w1 hb HB1; clear hb HB0)
      | ((with_reducible refine gate_dst (N := 6) rfl ?_); refine wp_al HB1.out (t := 40) rfl rfl al_T ?_; intro g4 w2 hb HB2; clear hb HB1)
      | ((with_reducible refine gate_dst (N := 9) rfl ?_); refine wp_ld HB2.out 1 rfl rfl (.tmp 3) rfl rfl Tryd.underlying40 (by kernel_rfl) ?_)
      | (go_at_call 46; refine (is_calls (HN.out.below HB2.out.B) H16.out k).mono ?_; rintro e w3 ⟨rfl, hb⟩; rw [HIs.out]; have HB3 := Lib.hid (HB2.out.below hb); clear hb HB2))
    have a1 : w3.cell? ⟨g2, 1, none⟩ = some (.slice (some ⟨b, 0, none⟩) n c) := (HB3.out.get 1 rfl).cell 1
    have r0 : w3.cell? ⟨b, k * 7, none⟩ = some (.bool x.there) := (HB3.out.B.cell (p := ⟨b, _, none⟩) HR.out.1).trans (HR.out.2 0 (by omega))
    have r1 : w3.cell? ⟨b, k * 7 + 1, none⟩ = some (.int .i64 x.level) := (HB3.out.B.cell (p := ⟨b, _, none⟩) HR.out.1).trans (HR.out.2 1 (by omega))
    have r2 : w3.cell? ⟨b, k * 7 + 2, none⟩ = some (.slice FA fl fc) := (HB3.out.B.cell (p := ⟨b, _, none⟩) HR.out.1).trans (HR.out.2 2 (by omega))
    have r3 : w3.cell? ⟨b, k * 7 + 3, none⟩ = some (.int .i64 x.graft) := (HB3.out.B.cell (p := ⟨b, _, none⟩) HR.out.1).trans (HR.out.2 3 (by omega))
    have r4 : w3.cell? ⟨b, k * 7 + 4, none⟩ = some (.int .i64 x.cap) := (HB3.out.B.cell (p := ⟨b, _, none⟩) HR.out.1).trans (HR.out.2 4 (by omega))
    have r5 : w3.cell? ⟨b, k * 7 + 5, none⟩ = some (.int .i64 x.got) := (HB3.out.B.cell (p := ⟨b, _, none⟩) HR.out.1).trans (HR.out.2 5 (by omega))
    have r6 : w3.cell? ⟨b, k * 7 + 6, none⟩ = some (.slice QA ql qc) := (HB3.out.B.cell (p := ⟨b, _, none⟩) HR.out.1).trans (HR.out.2 6 (by omega))
    go_upto_region 4 with (first
      | ((with_reducible refine gate_dst (N := 8) rfl ?_); refine wp_al HB3.out (t := 89) rfl rfl al_H ?_; intro g8 w4 hb HB4; clear hb HB3)
      | ((with_reducible refine gate_store (t := 89) (p := 8) rfl ?_); refine wp_st HB4.out 0 rfl (q := 0) (seg := [.bool x.there, .int .i64 x.level, .slice FA fl fc, .int .i64 x.graft, .int .i64 x.cap, .int .i64 x.got, .slice QA ql qc]) rfl rfl rfl rfl rfl (by kernel_rfl) (Nat.le_refl _) (o_cons rfl (o_cons rfl (o_cons rfl (o_cons rfl (o_cons rfl (o_cons rfl (o_cons rfl o_nil))))))) ?_; intro w5 hq hf; have HB5 : Hid (Bs w w5 [(g8, 89, [.bool x.there, .int .i64 x.level, .slice FA fl fc, .int .i64 x.graft, .int .i64 x.cap, .int .i64 x.got, .slice QA ql qc]), (g4, 40, [.int .i64 0, .slice none 0 0]), (g2, 40, [.int .i64 now, .slice (some ⟨b, 0, none⟩) n c])]) := hq; clear hq hf HB4))
    clear a1 r0 r1 r2 r3 r4 r5 r6
    have y4 : w5.cell? ⟨g8, 4, none⟩ = some (.int .i64 x.cap) := (HB5.out.get 0 rfl).cell 4
    have f4 : w5.frozen? ⟨g8, 4, none⟩ = false := (HB5.out.get 0 rfl).frozen 4
    go_upto_region 5 with (fail)
    have HB6 : Hid (Bs w (w5.setCell ⟨g8, 4, none⟩ (.int .i64 m)) [(g8, 89, [.bool x.there, .int .i64 x.level, .slice FA fl fc, .int .i64 x.graft, .int .i64 m, .int .i64 x.got, .slice QA ql qc]), (g4, 40, [.int .i64 0, .slice none 0 0]), (g2, 40, [.int .i64 now, .slice (some ⟨b, 0, none⟩) n c])]) := Lib.hid (HB5.out.set 0 rfl 4 (.int .i64 m))
    generalize w5.setCell ⟨g8, 4, none⟩ (.int .i64 m) = w6 at HB6 ⊢
    clear HB5
    clear y4 f4
    have y0 : w6.cell? ⟨g8, 0, none⟩ = some (.bool x.there) := (HB6.out.get 0 rfl).cell 0
    have y1 : w6.cell? ⟨g8, 1, none⟩ = some (.int .i64 x.level) := (HB6.out.get 0 rfl).cell 1
    have y2 : w6.cell? ⟨g8, 2, none⟩ = some (.slice FA fl fc) := (HB6.out.get 0 rfl).cell 2
    have y3 : w6.cell? ⟨g8, 3, none⟩ = some (.int .i64 x.graft) := (HB6.out.get 0 rfl).cell 3
    have y4 : w6.cell? ⟨g8, 4, none⟩ = some (.int .i64 m) := (HB6.out.get 0 rfl).cell 4
    have y5 : w6.cell? ⟨g8, 5, none⟩ = some (.int .i64 x.got) := (HB6.out.get 0 rfl).cell 5
    have y6 : w6.cell? ⟨g8, 6, none⟩ = some (.slice QA ql qc) := (HB6.out.get 0 rfl).cell 6
    go_wp2_with (first
      | ((with_reducible refine gate_dst (N := 29) rfl ?_); refine wp_ld HB6.out 2 rfl rfl (.tmp 3) rfl rfl Tryd.underlying40 (by kernel_rfl) ?_)
      | (go_at_call 54; refine (with_calls (HN.out.below HB6.out.B) H16.out k HK.out ({ x with cap := m }) (.slice FA fl fc) (.slice QA ql qc) (⟨(HX.out.below HB6.out.B).1, (HX.out.below HB6.out.B).2⟩)).mono ?_; rintro e w7 ⟨v', rfl, hv, hb⟩; obtain ⟨b5, c5, rfl, hc5, _⟩ := hv.parts; have HV := Lib.hid hv; have HB7 := Lib.hid (HB6.out.below hb); clear hv hb hc5 HB6)
      | ((with_reducible refine gate_store (t := 40) (p := 6) rfl ?_); refine wp_st HB7.out 1 rfl (q := 0) (seg := [.int .i64 _, .slice (some ⟨b5, 0, none⟩) _ c5]) rfl rfl rfl rfl rfl (by kernel_rfl) (Nat.le_refl _) (o_cons rfl (o_cons rfl o_nil)) ?_; intro w8 hq hf; have HB8 : Hid (Bs w w8 [(g8, 89, [.bool x.there, .int .i64 x.level, .slice FA fl fc, .int .i64 x.graft, .int .i64 m, .int .i64 x.got, .slice QA ql qc]), (g4, 40, [.int .i64 _, .slice (some ⟨b5, 0, none⟩) _ c5]), (g2, 40, [.int .i64 now, .slice (some ⟨b, 0, none⟩) n c])]) := hq; have HV2 := Lib.hid (HV.out.st hf.out); clear hq hf HB7))
    (try simp only [Exit.inBlock, Exit.then])
    refine bodyPost_ret (results_ct rfl _ _ g4 _ _ _ _ rfl (HB8.out.get 1 rfl) Tryd.underlying40 rfl (show (Tryd.prog.info? 40).map (·.size) = some 2 by kernel_rfl)) rfl ?_
    exact ⟨_, rfl, by rw [← HXX.out]; exact HV2.out, HB8.out.B⟩
set_option maxHeartbeats 8000000 in
set_option maxRecDepth 100000 in
theorem queue_r {w : World} {v : Value} {s : Nt} (h : NRef w v s) (hn : s.n ≤ 16) (k : Nat) (hk : k < s.n) (A : Option Addr) (L C : Nat) (q : List It) (hq : QRef w (.slice A L C) q) : Calls Tryd.prog 66 #[v, .int .i64 (k : Int), .slice A L C] w fun e w' => ∃ v', e = .returned v' ∧ NRef w' v' (s.put k { s.h k with q := q }) ∧ Below w.heap.size w w' := by
  have HQ := Lib.hid hq
  clear hq
  obtain ⟨b, c, FA, fl, fc, QA, ql, qc, rfl, hc, hblt, hx, hrow⟩ := h.host hk
  have HN := Lib.hid h
  have H16 := Lib.hid hn
  have HK := Lib.hid hk
  have HX := Lib.hid hx
  have HR := Lib.hid (And.intro hblt hrow)
  obtain ⟨x, hxx⟩ : ∃ x, x = s.h k := ⟨_, rfl⟩
  have HXX := Lib.hid hxx
  rw [← hxx] at HX HR
  obtain ⟨n, hnn⟩ : ∃ n, n = s.n := ⟨_, rfl⟩
  obtain ⟨now, hnow⟩ : ∃ z, z = s.now := ⟨_, rfl⟩
  have HNN := Lib.hid (And.intro hnn hnow)
  rw [← hnn, ← hnow] at HN ⊢
  rw [← hnn] at hc
  have hkn : k < n := by rw [hnn]; exact hk
  obtain ⟨i0, i1⟩ : (0 : Int) ≤ (k : Int) ∧ (k : Int) < (n : Int) := by omega
  have e0 : decide ((0 : Int) ≤ (k : Int)) = true := decide_eq_true i0
  have e1 : decide ((k : Int) < (n : Int)) = true := decide_eq_true i1
  have HB0 := Lib.hid (Bs.start w)
  clear h hn hk hx hrow hblt hxx hnn hnow
  go_enter Tryd.func66, Tryd.ntmps66
  go_upto_region 1 with (first
    | ((with_reducible refine gate_dst (N := 3) rfl ?_); refine wp_bx HB0.out (t := 40) (cs := [.int .i64 now, .slice (some ⟨b, 0, none⟩) n c]) rfl (.tmp 0) rfl rfl ?_; intro g2 w1 hb HB1; clear hb HB0)
    | ((with_reducible refine gate_dst (N := 6) rfl ?_); refine wp_al HB1.out (t := 40) rfl rfl al_T ?_; intro g4 w2 hb HB2; clear hb HB1))
  have a1 : w2.cell? ⟨g2, 1, none⟩ = some (.slice (some ⟨b, 0, none⟩) n c) := (HB2.out.get 1 rfl).cell 1
  have r0 : w2.cell? ⟨b, k * 7, none⟩ = some (.bool x.there) := (HB2.out.B.cell (p := ⟨b, _, none⟩) HR.out.1).trans (HR.out.2 0 (by omega))
  have r1 : w2.cell? ⟨b, k * 7 + 1, none⟩ = some (.int .i64 x.level) := (HB2.out.B.cell (p := ⟨b, _, none⟩) HR.out.1).trans (HR.out.2 1 (by omega))
  have r2 : w2.cell? ⟨b, k * 7 + 2, none⟩ = some (.slice FA fl fc) := (HB2.out.B.cell (p := ⟨b, _, none⟩) HR.out.1).trans (HR.out.2 2 (by omega))
  have r3 : w2.cell? ⟨b, k * 7 + 3, none⟩ = some (.int .i64 x.graft) := (HB2.out.B.cell (p := ⟨b, _, none⟩) HR.out.1).trans (HR.out.2 3 (by omega))
  have r4 : w2.cell? ⟨b, k * 7 + 4, none⟩ = some (.int .i64 x.cap) := (HB2.out.B.cell (p := ⟨b, _, none⟩) HR.out.1).trans (HR.out.2 4 (by omega))
  have r5 : w2.cell? ⟨b, k * 7 + 5, none⟩ = some (.int .i64 x.got) := (HB2.out.B.cell (p := ⟨b, _, none⟩) HR.out.1).trans (HR.out.2 5 (by omega))
  have r6 : w2.cell? ⟨b, k * 7 + 6, none⟩ = some (.slice QA ql qc) := (HB2.out.B.cell (p := ⟨b, _, none⟩) HR.out.1).trans (HR.out.2 6 (by omega))
  go_upto_region 2 with (first
    | ((with_reducible refine gate_dst (N := 7) rfl ?_); refine wp_al HB2.out (t := 89) rfl rfl al_H ?_; intro g7 w3 hb HB3; clear hb HB2)
    | ((with_reducible refine gate_store (t := 89) (p := 7) rfl ?_); refine wp_st HB3.out 0 rfl (q := 0) (seg := [.bool x.there, .int .i64 x.level, .slice FA fl fc, .int .i64 x.graft, .int .i64 x.cap, .int .i64 x.got, .slice QA ql qc]) rfl rfl rfl rfl rfl (by kernel_rfl) (Nat.le_refl _) (o_cons rfl (o_cons rfl (o_cons rfl (o_cons rfl (o_cons rfl (o_cons rfl (o_cons rfl o_nil))))))) ?_; intro w4 hq hf; have HB4 : Hid (Bs w w4 [(g7, 89, [.bool x.there, .int .i64 x.level, .slice FA fl fc, .int .i64 x.graft, .int .i64 x.cap, .int .i64 x.got, .slice QA ql qc]), (g4, 40, [.int .i64 0, .slice none 0 0]), (g2, 40, [.int .i64 now, .slice (some ⟨b, 0, none⟩) n c])]) := hq; clear hq hf HB3))
  clear a1 r0 r1 r2 r3 r4 r5 r6
  have y6 : w4.cell? ⟨g7, 6, none⟩ = some (.slice QA ql qc) := (HB4.out.get 0 rfl).cell 6
  have f6 : w4.frozen? ⟨g7, 6, none⟩ = false := (HB4.out.get 0 rfl).frozen 6
  go_upto_region 3 with (fail)
  have HB5 : Hid (Bs w (w4.setCell ⟨g7, 6, none⟩ (.slice A L C)) [(g7, 89, [.bool x.there, .int .i64 x.level, .slice FA fl fc, .int .i64 x.graft, .int .i64 x.cap, .int .i64 x.got, .slice A L C]), (g4, 40, [.int .i64 0, .slice none 0 0]), (g2, 40, [.int .i64 now, .slice (some ⟨b, 0, none⟩) n c])]) := Lib.hid (HB4.out.set 0 rfl 6 (.slice A L C))
  generalize w4.setCell ⟨g7, 6, none⟩ (.slice A L C) = w5 at HB5 ⊢
  clear HB4
  clear y6 f6
  have y0 : w5.cell? ⟨g7, 0, none⟩ = some (.bool x.there) := (HB5.out.get 0 rfl).cell 0
  have y1 : w5.cell? ⟨g7, 1, none⟩ = some (.int .i64 x.level) := (HB5.out.get 0 rfl).cell 1
  have y2 : w5.cell? ⟨g7, 2, none⟩ = some (.slice FA fl fc) := (HB5.out.get 0 rfl).cell 2
  have y3 : w5.cell? ⟨g7, 3, none⟩ = some (.int .i64 x.graft) := (HB5.out.get 0 rfl).cell 3
  have y4 : w5.cell? ⟨g7, 4, none⟩ = some (.int .i64 x.cap) := (HB5.out.get 0 rfl).cell 4
  have y5 : w5.cell? ⟨g7, 5, none⟩ = some (.int .i64 x.got) := (HB5.out.get 0 rfl).cell 5
  have y6 : w5.cell? ⟨g7, 6, none⟩ = some (.slice A L C) := (HB5.out.get 0 rfl).cell 6
  go_wp2_with (first
    | ((with_reducible refine gate_dst (N := 15) rfl ?_); refine wp_ld HB5.out 2 rfl rfl (.tmp 3) rfl rfl Tryd.underlying40 (by kernel_rfl) ?_)
    | (go_at_call 54; refine (with_calls (HN.out.below HB5.out.B) H16.out k HK.out ({ x with q := q }) (.slice FA fl fc) (.slice A L C) (⟨(HX.out.below HB5.out.B).1, HQ.out.keep (.of_below HB5.out.B)⟩)).mono ?_; rintro e w6 ⟨v', rfl, hv, hb⟩; obtain ⟨b5, c5, rfl, hc5, _⟩ := hv.parts; have HV := Lib.hid hv; have HB6 := Lib.hid (HB5.out.below hb); clear hv hb hc5 HB5)
    | ((with_reducible refine gate_store (t := 40) (p := 6) rfl ?_); refine wp_st HB6.out 1 rfl (q := 0) (seg := [.int .i64 _, .slice (some ⟨b5, 0, none⟩) _ c5]) rfl rfl rfl rfl rfl (by kernel_rfl) (Nat.le_refl _) (o_cons rfl (o_cons rfl o_nil)) ?_; intro w7 hq hf; have HB7 : Hid (Bs w w7 [(g7, 89, [.bool x.there, .int .i64 x.level, .slice FA fl fc, .int .i64 x.graft, .int .i64 x.cap, .int .i64 x.got, .slice A L C]), (g4, 40, [.int .i64 _, .slice (some ⟨b5, 0, none⟩) _ c5]), (g2, 40, [.int .i64 now, .slice (some ⟨b, 0, none⟩) n c])]) := hq; have HV2 := Lib.hid (HV.out.st hf.out); clear hq hf HB6))
  (try simp only [Exit.inBlock, Exit.then])
  refine bodyPost_ret (results_c1 rfl _ _ g4 _ _ _ _ rfl (HB7.out.get 1 rfl) Tryd.underlying40 rfl (show (Tryd.prog.info? 40).map (·.size) = some 2 by kernel_rfl)) rfl ?_
  exact ⟨_, rfl, by rw [← HXX.out]; exact HV2.out, HB7.out.B⟩
set_option maxHeartbeats 8000000 in
set_option maxRecDepth 100000 in
theorem place_r {w : World} {v : Value} {s : Nt} (h : NRef w v s) (hn : s.n ≤ 16) (i j : Int) : Calls Tryd.prog 65 #[v, .int .i64 i, .int .i64 j] w fun e w' => e = .returned (.int .i64 (s.placeE i j)) ∧ Below w.heap.size w w' := by
  by_cases ha : s.at i = 0
  rotate_left
  · skip
    have hE : s.placeE i j = 1 := (if_neg ha).trans (at_no ha).1
    have HIs := Lib.hid (at_dec ha)
    rw [hE]
    clear ha hE
    obtain ⟨b, c, rfl, hc, _⟩ := h.parts
    have HN := Lib.hid h
    have H16 := Lib.hid hn
    obtain ⟨n, hnn⟩ : ∃ n, n = s.n := ⟨_, rfl⟩
    obtain ⟨now, hnow⟩ : ∃ z, z = s.now := ⟨_, rfl⟩
    rw [← hnn, ← hnow] at HN ⊢
    rw [← hnn] at hc
    have HB0 := Lib.hid (Bs.start w)
    clear h hn hnn hnow
    go_enter Tryd.func65, Tryd.ntmps65
    go_wp2_with (first
      | ((with_reducible refine gate_dst (N := 3) rfl ?_); refine wp_bx HB0.out (t := 40) (cs := [.int .i64 now, .slice (some ⟨b, 0, none⟩) n c]) rfl (.tmp 0) rfl rfl ?_; intro g2 w1 hb HB1; clear hb HB0)
      | ((with_reducible refine gate_dst (N := 7) rfl ?_); refine wp_ld HB1.out 0 rfl rfl (.tmp 3) rfl rfl Tryd.underlying40 (by kernel_rfl) ?_)
      | (go_at_call 46; refine (is_calls (HN.out.below HB1.out.B) H16.out i).mono ?_; rintro e w2 ⟨rfl, hb⟩; rw [HIs.out]; have HB2 := Lib.hid (HB1.out.below hb); clear hb HB1))
    go_ret
    exact ⟨rfl, HB2.out.B⟩
  obtain ⟨k, rfl, hk⟩ := at_of ha
  have HIs := Lib.hid (at_dec1 hk)
  have hc : j < 0 ∨ (¬ j < 0 ∧ ((s.h k).q.length : Int) ≤ j) ∨ (¬ j < 0 ∧ ¬ ((s.h k).q.length : Int) ≤ j) := by omega
  rcases hc with h1 | ⟨h1, h2⟩ | ⟨h1, h2⟩
  · skip
    have hE : s.placeE (k : Int) j = 4 := (if_pos ha).trans (if_pos (by rw [Int.toNat_natCast]; omega))
    rw [hE]
    clear ha hE
    obtain ⟨b, c, FA, fl, fc, QA, ql, qc, rfl, hc, hblt, hx, hrow⟩ := h.host hk
    have HN := Lib.hid h
    have H16 := Lib.hid hn
    have HK := Lib.hid hk
    have HX := Lib.hid hx
    have HR := Lib.hid (And.intro hblt hrow)
    obtain ⟨x, hxx⟩ : ∃ x, x = s.h k := ⟨_, rfl⟩
    have HXX := Lib.hid hxx
    rw [← hxx] at HX HR
    obtain ⟨n, hnn⟩ : ∃ n, n = s.n := ⟨_, rfl⟩
    obtain ⟨now, hnow⟩ : ∃ z, z = s.now := ⟨_, rfl⟩
    have HNN := Lib.hid (And.intro hnn hnow)
    rw [← hnn, ← hnow] at HN ⊢
    rw [← hnn] at hc
    have hkn : k < n := by rw [hnn]; exact hk
    obtain ⟨i0, i1⟩ : (0 : Int) ≤ (k : Int) ∧ (k : Int) < (n : Int) := by omega
    have e0 : decide ((0 : Int) ≤ (k : Int)) = true := decide_eq_true i0
    have e1 : decide ((k : Int) < (n : Int)) = true := decide_eq_true i1
    have HB0 := Lib.hid (Bs.start w)
    clear h hn hk hx hrow hblt hxx hnn hnow
    have hql := HX.out.ql
    rw [HXX.out] at hql
    skip
    have d1 : decide (j < (0 : Int)) = true := decide_eq_true h1
    clear h1 hql
    go_enter Tryd.func65, Tryd.ntmps65
    go_upto_region 3 with (first
      | ((with_reducible refine gate_dst (N := 3) rfl ?_); refine wp_bx HB0.out (t := 40) (cs := [.int .i64 now, .slice (some ⟨b, 0, none⟩) n c]) rfl (.tmp 0) rfl rfl ?_; intro g2 w1 hb HB1; clear hb HB0)
      | ((with_reducible refine gate_dst (N := 7) rfl ?_); refine wp_ld HB1.out 0 rfl rfl (.tmp 3) rfl rfl Tryd.underlying40 (by kernel_rfl) ?_)
      | (go_at_call 46; refine (is_calls (HN.out.below HB1.out.B) H16.out k).mono ?_; rintro e w2 ⟨rfl, hb⟩; rw [HIs.out]; have HB2 := Lib.hid (HB1.out.below hb); clear hb HB1))
    have a1 : w2.cell? ⟨g2, 1, none⟩ = some (.slice (some ⟨b, 0, none⟩) n c) := (HB2.out.get 0 rfl).cell 1
    have r0 : w2.cell? ⟨b, k * 7, none⟩ = some (.bool x.there) := (HB2.out.B.cell (p := ⟨b, _, none⟩) HR.out.1).trans (HR.out.2 0 (by omega))
    have r1 : w2.cell? ⟨b, k * 7 + 1, none⟩ = some (.int .i64 x.level) := (HB2.out.B.cell (p := ⟨b, _, none⟩) HR.out.1).trans (HR.out.2 1 (by omega))
    have r2 : w2.cell? ⟨b, k * 7 + 2, none⟩ = some (.slice FA fl fc) := (HB2.out.B.cell (p := ⟨b, _, none⟩) HR.out.1).trans (HR.out.2 2 (by omega))
    have r3 : w2.cell? ⟨b, k * 7 + 3, none⟩ = some (.int .i64 x.graft) := (HB2.out.B.cell (p := ⟨b, _, none⟩) HR.out.1).trans (HR.out.2 3 (by omega))
    have r4 : w2.cell? ⟨b, k * 7 + 4, none⟩ = some (.int .i64 x.cap) := (HB2.out.B.cell (p := ⟨b, _, none⟩) HR.out.1).trans (HR.out.2 4 (by omega))
    have r5 : w2.cell? ⟨b, k * 7 + 5, none⟩ = some (.int .i64 x.got) := (HB2.out.B.cell (p := ⟨b, _, none⟩) HR.out.1).trans (HR.out.2 5 (by omega))
    have r6 : w2.cell? ⟨b, k * 7 + 6, none⟩ = some (.slice QA ql qc) := (HB2.out.B.cell (p := ⟨b, _, none⟩) HR.out.1).trans (HR.out.2 6 (by omega))
    go_wp2
    go_ret
    exact ⟨rfl, HB2.out.B⟩
  · skip
    have hE : s.placeE (k : Int) j = 4 := (if_pos ha).trans (if_pos (by rw [Int.toNat_natCast]; omega))
    rw [hE]
    clear ha hE
    obtain ⟨b, c, FA, fl, fc, QA, ql, qc, rfl, hc, hblt, hx, hrow⟩ := h.host hk
    have HN := Lib.hid h
    have H16 := Lib.hid hn
    have HK := Lib.hid hk
    have HX := Lib.hid hx
    have HR := Lib.hid (And.intro hblt hrow)
    obtain ⟨x, hxx⟩ : ∃ x, x = s.h k := ⟨_, rfl⟩
    have HXX := Lib.hid hxx
    rw [← hxx] at HX HR
    obtain ⟨n, hnn⟩ : ∃ n, n = s.n := ⟨_, rfl⟩
    obtain ⟨now, hnow⟩ : ∃ z, z = s.now := ⟨_, rfl⟩
    have HNN := Lib.hid (And.intro hnn hnow)
    rw [← hnn, ← hnow] at HN ⊢
    rw [← hnn] at hc
    have hkn : k < n := by rw [hnn]; exact hk
    obtain ⟨i0, i1⟩ : (0 : Int) ≤ (k : Int) ∧ (k : Int) < (n : Int) := by omega
    have e0 : decide ((0 : Int) ≤ (k : Int)) = true := decide_eq_true i0
    have e1 : decide ((k : Int) < (n : Int)) = true := decide_eq_true i1
    have HB0 := Lib.hid (Bs.start w)
    clear h hn hk hx hrow hblt hxx hnn hnow
    have hql := HX.out.ql
    rw [HXX.out] at hql
    rw [← hql] at h2
    have d1 : decide (j < (0 : Int)) = false := decide_eq_false h1
    have d2 : decide ((ql : Int) ≤ j) = true := decide_eq_true h2
    clear h1 h2 hql
    go_enter Tryd.func65, Tryd.ntmps65
    go_upto_region 3 with (first
      | ((with_reducible refine gate_dst (N := 3) rfl ?_); refine wp_bx HB0.out (t := 40) (cs := [.int .i64 now, .slice (some ⟨b, 0, none⟩) n c]) rfl (.tmp 0) rfl rfl ?_; intro g2 w1 hb HB1; clear hb HB0)
      | ((with_reducible refine gate_dst (N := 7) rfl ?_); refine wp_ld HB1.out 0 rfl rfl (.tmp 3) rfl rfl Tryd.underlying40 (by kernel_rfl) ?_)
      | (go_at_call 46; refine (is_calls (HN.out.below HB1.out.B) H16.out k).mono ?_; rintro e w2 ⟨rfl, hb⟩; rw [HIs.out]; have HB2 := Lib.hid (HB1.out.below hb); clear hb HB1))
    have a1 : w2.cell? ⟨g2, 1, none⟩ = some (.slice (some ⟨b, 0, none⟩) n c) := (HB2.out.get 0 rfl).cell 1
    have r0 : w2.cell? ⟨b, k * 7, none⟩ = some (.bool x.there) := (HB2.out.B.cell (p := ⟨b, _, none⟩) HR.out.1).trans (HR.out.2 0 (by omega))
    have r1 : w2.cell? ⟨b, k * 7 + 1, none⟩ = some (.int .i64 x.level) := (HB2.out.B.cell (p := ⟨b, _, none⟩) HR.out.1).trans (HR.out.2 1 (by omega))
    have r2 : w2.cell? ⟨b, k * 7 + 2, none⟩ = some (.slice FA fl fc) := (HB2.out.B.cell (p := ⟨b, _, none⟩) HR.out.1).trans (HR.out.2 2 (by omega))
    have r3 : w2.cell? ⟨b, k * 7 + 3, none⟩ = some (.int .i64 x.graft) := (HB2.out.B.cell (p := ⟨b, _, none⟩) HR.out.1).trans (HR.out.2 3 (by omega))
    have r4 : w2.cell? ⟨b, k * 7 + 4, none⟩ = some (.int .i64 x.cap) := (HB2.out.B.cell (p := ⟨b, _, none⟩) HR.out.1).trans (HR.out.2 4 (by omega))
    have r5 : w2.cell? ⟨b, k * 7 + 5, none⟩ = some (.int .i64 x.got) := (HB2.out.B.cell (p := ⟨b, _, none⟩) HR.out.1).trans (HR.out.2 5 (by omega))
    have r6 : w2.cell? ⟨b, k * 7 + 6, none⟩ = some (.slice QA ql qc) := (HB2.out.B.cell (p := ⟨b, _, none⟩) HR.out.1).trans (HR.out.2 6 (by omega))
    go_wp2
    go_ret
    exact ⟨rfl, HB2.out.B⟩
  · skip
    have hE : s.placeE (k : Int) j = 0 := (if_pos ha).trans (if_neg (by rw [Int.toNat_natCast]; omega))
    rw [hE]
    clear ha hE
    obtain ⟨b, c, FA, fl, fc, QA, ql, qc, rfl, hc, hblt, hx, hrow⟩ := h.host hk
    have HN := Lib.hid h
    have H16 := Lib.hid hn
    have HK := Lib.hid hk
    have HX := Lib.hid hx
    have HR := Lib.hid (And.intro hblt hrow)
    obtain ⟨x, hxx⟩ : ∃ x, x = s.h k := ⟨_, rfl⟩
    have HXX := Lib.hid hxx
    rw [← hxx] at HX HR
    obtain ⟨n, hnn⟩ : ∃ n, n = s.n := ⟨_, rfl⟩
    obtain ⟨now, hnow⟩ : ∃ z, z = s.now := ⟨_, rfl⟩
    have HNN := Lib.hid (And.intro hnn hnow)
    rw [← hnn, ← hnow] at HN ⊢
    rw [← hnn] at hc
    have hkn : k < n := by rw [hnn]; exact hk
    obtain ⟨i0, i1⟩ : (0 : Int) ≤ (k : Int) ∧ (k : Int) < (n : Int) := by omega
    have e0 : decide ((0 : Int) ≤ (k : Int)) = true := decide_eq_true i0
    have e1 : decide ((k : Int) < (n : Int)) = true := decide_eq_true i1
    have HB0 := Lib.hid (Bs.start w)
    clear h hn hk hx hrow hblt hxx hnn hnow
    have hql := HX.out.ql
    rw [HXX.out] at hql
    rw [← hql] at h2
    have d1 : decide (j < (0 : Int)) = false := decide_eq_false h1
    have d2 : decide ((ql : Int) ≤ j) = false := decide_eq_false h2
    clear h1 h2 hql
    go_enter Tryd.func65, Tryd.ntmps65
    go_upto_region 3 with (first
      | ((with_reducible refine gate_dst (N := 3) rfl ?_); refine wp_bx HB0.out (t := 40) (cs := [.int .i64 now, .slice (some ⟨b, 0, none⟩) n c]) rfl (.tmp 0) rfl rfl ?_; intro g2 w1 hb HB1; clear hb HB0)
      | ((with_reducible refine gate_dst (N := 7) rfl ?_); refine wp_ld HB1.out 0 rfl rfl (.tmp 3) rfl rfl Tryd.underlying40 (by kernel_rfl) ?_)
      | (go_at_call 46; refine (is_calls (HN.out.below HB1.out.B) H16.out k).mono ?_; rintro e w2 ⟨rfl, hb⟩; rw [HIs.out]; have HB2 := Lib.hid (HB1.out.below hb); clear hb HB1))
    have a1 : w2.cell? ⟨g2, 1, none⟩ = some (.slice (some ⟨b, 0, none⟩) n c) := (HB2.out.get 0 rfl).cell 1
    have r0 : w2.cell? ⟨b, k * 7, none⟩ = some (.bool x.there) := (HB2.out.B.cell (p := ⟨b, _, none⟩) HR.out.1).trans (HR.out.2 0 (by omega))
    have r1 : w2.cell? ⟨b, k * 7 + 1, none⟩ = some (.int .i64 x.level) := (HB2.out.B.cell (p := ⟨b, _, none⟩) HR.out.1).trans (HR.out.2 1 (by omega))
    have r2 : w2.cell? ⟨b, k * 7 + 2, none⟩ = some (.slice FA fl fc) := (HB2.out.B.cell (p := ⟨b, _, none⟩) HR.out.1).trans (HR.out.2 2 (by omega))
    have r3 : w2.cell? ⟨b, k * 7 + 3, none⟩ = some (.int .i64 x.graft) := (HB2.out.B.cell (p := ⟨b, _, none⟩) HR.out.1).trans (HR.out.2 3 (by omega))
    have r4 : w2.cell? ⟨b, k * 7 + 4, none⟩ = some (.int .i64 x.cap) := (HB2.out.B.cell (p := ⟨b, _, none⟩) HR.out.1).trans (HR.out.2 4 (by omega))
    have r5 : w2.cell? ⟨b, k * 7 + 5, none⟩ = some (.int .i64 x.got) := (HB2.out.B.cell (p := ⟨b, _, none⟩) HR.out.1).trans (HR.out.2 5 (by omega))
    have r6 : w2.cell? ⟨b, k * 7 + 6, none⟩ = some (.slice QA ql qc) := (HB2.out.B.cell (p := ⟨b, _, none⟩) HR.out.1).trans (HR.out.2 6 (by omega))
    go_wp2
    go_ret
    exact ⟨rfl, HB2.out.B⟩
end
end Go.Proofs.YtpfpdbbgiimnmaaDoor.Net
