/- A NET AND THE DOCUMENT'S, SIDE BY SIDE: their box; calls of the program's net beside it. Conditions: numbers small. (*both).step of geyserlaw22 by its contract: Join, Leave, Want, Graft, Capacity. Conditions: numbers small. (*both).step of geyserlaw22 by its contract: Tick, Take. Conditions: numbers small. (*both).step of geyserlaw22 by its contract: Take. Conditions: numbers small. (*both).spoils of geyserlaw22 by its contract: Drop, Double, Delay, Spoil. Conditions: numbers small. A NET AND THE DOCUMENT'S BESIDE BLOCKS OF ONE'S OWN: blocks P are none of the net's, nor its bytes. Conditions: none. (*both).spoils of geyserlaw22 by its contract: Inject. Conditions: numbers small. (*both).spoils of geyserlaw22 by its contract: no such kind. Conditions: numbers small. (*both).step of geyserlaw22 by its contract: kinds that spoil. Conditions: numbers small. -/
import Derived.Test.YtpfpdbbgiimnmaaDoorRa3
import Derived.Test.YtpfpdbbgiimnmaaDoorTells22
import Derived.Test.YtpfpdbbgiimnmaaDoorPg
namespace Go.Proofs.YtpfpdbbgiimnmaaDoor.Net
set_option linter.unusedSimpArgs false
set_option linter.unusedVariables false
section
open Go.RowKit Go.Deep Go.Proofs.YtpfpdbbgiimnmaaDoor.Er Go.Proofs.YtpfpdbbgiimnmaaDoor.As Go.Proofs.YtpfpdbbgiimnmaaDoor.Mod Go.Proofs.YtpfpdbbgiimnmaaDoorW.PrintWords Go.Proofs.YtpfpdbbgiimnmaaDoorW.PrintLast
theorem IsNet.kinds {bb : Nat → Prop} {w : World} {nb hb : Nat} {qv : Nat → Value} {s : Nt} (h : IsNet bb w nb hb qv s) {k : Nat} (hk : NB nb hb s.n qv k) : ∃ cur t, w.heap[k]? = some (.cells cur t (0, 0)) ∧ (t = 72 ∨ t = 69 ∨ t = 74) := by
  rcases hk with rfl | rfl | ⟨i, hi, hk⟩
  · obtain ⟨c, h1, _⟩ := h.net; exact ⟨c, _, h1, .inl rfl⟩
  · obtain ⟨c, h1, _⟩ := h.hos; exact ⟨c, _, h1, .inr (.inl rfl)⟩
  · obtain ⟨l, _, h2, _⟩ := h.qs i hi
    obtain ⟨c, h1⟩ := h2.type hk
    exact ⟨c, _, h1, .inr (.inr rfl)⟩
/-- Blocks of other types stay. -/
def KP (w w' : World) : Prop := ∀ (k : Nat) (cur : Array Value) (t : TypeId) (fr : Nat × Nat), w.heap[k]? = some (Obj.cells cur t fr) → (fr = (0, 0) → t ≠ 72 ∧ t ≠ 69 ∧ t ≠ 74) → w'.heap[k]? = w.heap[k]?
theorem KP.of_below {w w' : World} (h : Below w.heap.size w w') : KP w w' := fun k cur t fr hc _ => h.block k (lt_of hc)
theorem KP.trans {w w1 w2 : World} (h : KP w w1) (k : KP w1 w2) : KP w w2 := fun i cur t fr hc ht => (k i cur t fr ((h i cur t fr hc ht).trans hc) ht).trans (h i cur t fr hc ht)
theorem KP.of_net {bb : Nat → Prop} {w w' : World} {nb hb : Nat} {qv : Nat → Value} {s : Nt} (h : IsNet bb w nb hb qv s) (hf : Fr w w' (NB nb hb s.n qv)) : KP w w' := fun k cur t fr hc ht => hf.block k (lt_of hc) (fun e => by
  obtain ⟨cur', t', h1, h2⟩ := h.kinds e
  rw [hc] at h1
  cases h1
  obtain ⟨a1, a2, a3⟩ := ht rfl
  rcases h2 with h2 | h2 | h2
  · exact a1 h2
  · exact a2 h2
  · exact a3 h2)
theorem Bk.kp {w w' : World} {g t : Nat} {cs : List Value} (h : Bk w g t cs) (k : KP w w') (ht : t ≠ 72 ∧ t ≠ 69 ∧ t ≠ 74) : Bk w' g t cs := (k g _ t _ h (fun _ => ht)).trans h
theorem NRef.kp {w w' : World} {v : Value} {s : Nt} (h : NRef w v s) (k : KP w w') : NRef w' v s := h.keep (fun b cur t hc ht => k b cur t _ hc (fun _ => by rcases ht with rfl | rfl | rfl <;> decide))
/-- The box of both. -/
structure BO (W : World) (bx nb hb b c : Nat) (sr sp : Nt) (w : World) : Prop where
  box : Bk w bx 45 [.pointer (some ⟨nb, 0, none⟩), .int .i64 sr.now, .slice (some ⟨b, 0, none⟩) sr.n c]
  ref : NRef w (.agg #[.int .i64 sr.now, .slice (some ⟨b, 0, none⟩) sr.n c]) sr
  net : LN W nb hb sp w
  old : W.heap.size ≤ bx
theorem BO.below {W : World} {bx nb hb b c : Nat} {sr sp : Nt} {w w' : World} (h : BO W bx nb hb b c sr sp w) (hb' : Below w.heap.size w w') : BO W bx nb hb b c sr sp w' := ⟨h.box.below hb', h.ref.below hb', h.net.below hb', h.old⟩
theorem BO.drew {W : World} {bx nb hb b c : Nat} {sr sp : Nt} {w : World} (h : BO W bx nb hb b c sr sp w) : BO W bx nb hb b c sr sp w.drew := h.below (Below.refl _ _).drew
theorem BO.step {W : World} {bx nb hb b c : Nat} {sr sp sp' : Nt} {w w' : World} {bb : Nat → Prop} {qv : Nat → Value} (h : BO W bx nb hb b c sr sp w) (h1 : IsNet bb w nb hb qv sp) (h2 : Below W.heap.size W w) (h3 : ∀ k, NB nb hb sp.n qv k ∨ bb k → W.heap.size ≤ k) (hp : NetP bb w nb hb sp.n qv sp' w') (hn : sp'.n = sp.n) : BO W bx nb hb b c sr sp' w' ∧ KP w w' := by
  have hk : KP w w' := by obtain ⟨_, _, _, g2⟩ := hp; exact .of_net h1 g2.fr
  exact ⟨⟨h.box.kp hk (by decide), h.ref.kp hk, LN.step h1 h2 h3 hp hn, h.old⟩, hk⟩
/-- The document's net is written into the box. -/
theorem BO.refd {W : World} {bx nb hb b c b' c' : Nat} {sr sr' sp : Nt} {w : World} (h : BO W bx nb hb b c sr sp w) (hr : NRef w (.agg #[.int .i64 sr'.now, .slice (some ⟨b', 0, none⟩) sr'.n c']) sr') : BO W bx nb hb b' c' sr' sp (w.setCells bx 1 [.int .i64 sr'.now, .slice (some ⟨b', 0, none⟩) sr'.n c']) ∧ ∀ i, i ≠ bx → (w.setCells bx 1 [.int .i64 sr'.now, .slice (some ⟨b', 0, none⟩) sr'.n c']).heap[i]? = w.heap[i]? := by
  obtain ⟨s1, s2, s3, s4, s5⟩ := setCells_blk w bx [.int .i64 sr'.now, .slice (some ⟨b', 0, none⟩) sr'.n c'] 1
  have hbox := h.box
  unfold Bk at hbox
  refine ⟨⟨h.box.seg [.int .i64 sr'.now, .slice (some ⟨b', 0, none⟩) sr'.n c'] 1 (by simp), hr.keep (fun k cur t hc ht => s5 k (fun e => ?_)), ?_, h.old⟩, s5⟩
  · subst e
    rw [hbox] at hc
    cases hc
    rcases ht with h | h | h <;> exact absurd h (by decide)
  · obtain ⟨bb, qv, h1, h2, h3⟩ := h.net
    have hf : Fr w (w.setCells bx 1 [.int .i64 sr'.now, .slice (some ⟨b', 0, none⟩) sr'.n c']) (fun k => k = bx) := ⟨s2, s3, s4, by rw [s1]; exact Nat.le_refl _, fun k _ hk => s5 k hk⟩
    refine ⟨bb, qv, h1.keep (S := fun k => k = bx) hf (fun k e hk => ?_) (fun k cur e _ hc => ?_) (fun k e _ => e), hf.below h2 h2.size (fun k e => by rw [e]; exact h.old), h3⟩
    · subst e
      obtain ⟨cur, t, e1, e2⟩ := h1.kinds hk
      rw [hbox] at e1
      cases e1
      rcases e2 with h | h | h <;> exact absurd h (by decide)
    · subst e
      rw [hbox] at hc
      cases hc
theorem tells_er (c : ByteArray) (n : Int) : Tells.tells.f (er c n) n c = some true := by
  unfold er
  by_cases h : n = 0
  · subst h; rfl
  · rw [if_neg h]
    unfold Tells.tells.f
    rw [if_neg h]
    simp
theorem tells_sp (s : Nt) (i j a m : Int) : Tells.tells.f (spoilR s i j a m) (s.spoilE i j a m) spoilN = some true := by
  unfold spoilR
  by_cases h : s.spoilE i j a m = 2
  · rw [if_pos h, h]
    unfold Tells.tells.f
    rw [if_neg (by decide)]
    simp
  · rw [if_neg h]; exact tells_er _ _
/-- Bytes of queues are bytes. -/
theorem IsNet.bytes {bb : Nat → Prop} {w : World} {nb hb : Nat} {qv : Nat → Value} {s : Nt} (h : IsNet bb w nb hb qv s) : ∀ k, k < s.n → ∀ y ∈ (s.h k).q, ByOk y.b := by
  intro k hk y hy
  obtain ⟨l, h1, _, h3⟩ := h.qs k hk
  rw [← h1] at hy
  obtain ⟨p, hp, rfl⟩ := List.mem_map.1 hy
  obtain ⟨_, _, _, _, q3, q4, _⟩ := h3 p hp
  exact ⟨q3, q4⟩
theorem BO.bytes {W : World} {bx nb hb b c : Nat} {sr sp : Nt} {w : World} (h : BO W bx nb hb b c sr sp w) : ∀ k, k < sp.n → ∀ y ∈ (sp.h k).q, ByOk y.b := by
  obtain ⟨bb, qv, h1, _, _⟩ := h.net
  exact h1.bytes
theorem BO.n16 {W : World} {bx nb hb b c : Nat} {sr sp : Nt} {w : World} (h : BO W bx nb hb b c sr sp w) : sp.n ≤ 16 := by
  obtain ⟨bb, qv, h1, _, _⟩ := h.net
  exact h1.n16
/-- Numbers are as they may be, with room for L acts: so queues are short. -/
def Wm (s : Nt) (L : Nat) : Prop := Wg s (41900000000 + L)
theorem Wm.q {s : Nt} {L : Nat} (h : Wm s L) : ∀ k, k < s.n → (s.h k).q.length < 890000000000 := fun k hk => by have := h.wf.q k hk; omega
theorem Wm.due {s : Nt} {L : Nat} (h : Wm s L) : ∀ k, k < s.n → ∀ y ∈ (s.h k).q, 0 ≤ y.due ∧ y.due < 5000000000000 := fun k hk y hy => by have := Wg.due h k hk y hy; omega
theorem Wm.now {s : Nt} {L : Nat} (h : Wm s L) : 0 ≤ s.now ∧ s.now < 5000000000000 := by have := h.wf.now; omega
theorem Wm.act {s : Nt} {L : Nat} (h : Wm s (L + 1)) (a : AV) : Wm (Nt.act s a) L := Wg.act (L := 41900000000 + L) h a
theorem Wm.new (n : Nat) : Wm (nt0 n) 100 := ⟨Wf.new n _ (by omega), fun _ _ x hx => by cases hx⟩
section
variable {W : World} {bx nb hb b c : Nat} {sr sp : Nt} {w : World} {L : Nat}
theorem joinB (h : BO W bx nb hb b c sr sp w) (i : Int) : Calls Tryd.prog 16 #[.pointer (some ⟨nb, 0, none⟩), .int .i64 i] w fun e w' => ∃ ev, e = .returned ev ∧ ErR w' ev (er joinN (sp.joinE i)) ∧ BO W bx nb hb b c sr (sp.join i) w' ∧ KP w w' := by
  obtain ⟨bb, qv, h1, h2, h3⟩ := h.net
  exact (join_calls h1 i).mono fun e w' ⟨ev, e1, e2, e3⟩ => ⟨ev, e1, e2, h.step h1 h2 h3 e3 (join_n _ _)⟩
theorem leaveB (h : BO W bx nb hb b c sr sp w) (i : Int) : Calls Tryd.prog 17 #[.pointer (some ⟨nb, 0, none⟩), .int .i64 i] w fun e w' => ∃ ev, e = .returned ev ∧ ErR w' ev (er leaveN (sp.leaveE i)) ∧ BO W bx nb hb b c sr (sp.leave i) w' ∧ KP w w' := by
  obtain ⟨bb, qv, h1, h2, h3⟩ := h.net
  exact (leave_calls h1 i).mono fun e w' ⟨ev, e1, e2, e3⟩ => ⟨ev, e1, e2, h.step h1 h2 h3 e3 (leave_n _ _)⟩
theorem wantB (h : BO W bx nb hb b c sr sp w) (hs : Wm sp L) (i l : Int) : Calls Tryd.prog 18 #[.pointer (some ⟨nb, 0, none⟩), .int .i64 i, .int .i64 l] w fun e w' => ∃ ev, e = .returned ev ∧ ErR w' ev (er wantN (sp.wantE i l)) ∧ BO W bx nb hb b c sr (sp.want i l) w' ∧ KP w w' := by
  obtain ⟨bb, qv, h1, h2, h3⟩ := h.net
  exact (want_calls h1 i l hs.wf.level hs.wf.graft hs.now).mono fun e w' ⟨ev, e1, e2, e3⟩ => ⟨ev, e1, e2, h.step h1 h2 h3 e3 (want_n _ _ _)⟩
theorem graftB (h : BO W bx nb hb b c sr sp w) (i t : Int) : Calls Tryd.prog 19 #[.pointer (some ⟨nb, 0, none⟩), .int .i64 i, .int .i64 t] w fun e w' => ∃ ev, e = .returned ev ∧ ErR w' ev (er graftN (sp.graftE i t)) ∧ BO W bx nb hb b c sr (sp.setGraft i t) w' ∧ KP w w' := by
  obtain ⟨bb, qv, h1, h2, h3⟩ := h.net
  exact (graft_calls h1 i t).mono fun e w' ⟨ev, e1, e2, e3⟩ => ⟨ev, e1, e2, h.step h1 h2 h3 e3 (graft_n _ _ _)⟩
theorem capB (h : BO W bx nb hb b c sr sp w) (i t : Int) : Calls Tryd.prog 20 #[.pointer (some ⟨nb, 0, none⟩), .int .i64 i, .int .i64 t] w fun e w' => ∃ ev, e = .returned ev ∧ ErR w' ev (er capacityN (sp.capE i t)) ∧ BO W bx nb hb b c sr (sp.setCap i t) w' ∧ KP w w' := by
  obtain ⟨bb, qv, h1, h2, h3⟩ := h.net
  exact (capacity_calls h1 i t).mono fun e w' ⟨ev, e1, e2, e3⟩ => ⟨ev, e1, e2, h.step h1 h2 h3 e3 (cap_n _ _ _)⟩
theorem tickB (h : BO W bx nb hb b c sr sp w) (hs : Wm sp L) : Calls Tryd.prog 22 #[.pointer (some ⟨nb, 0, none⟩)] w fun e w' => e = .returned .nilIface ∧ BO W bx nb hb b c sr sp.tick w' ∧ KP w w' := by
  obtain ⟨bb, qv, h1, h2, h3⟩ := h.net
  exact (tick_calls h1 hs.now).mono fun e w' ⟨e1, e3⟩ => ⟨e1, h.step h1 h2 h3 e3 rfl⟩
theorem dropB (h : BO W bx nb hb b c sr sp w) (i j : Int) : Calls Tryd.prog 24 #[.pointer (some ⟨nb, 0, none⟩), .int .i64 i, .int .i64 j] w fun e w' => ∃ ev, e = .returned ev ∧ ErR w' ev (er dropN (sp.placeE i j)) ∧ BO W bx nb hb b c sr (sp.drop i j) w' ∧ KP w w' := by
  obtain ⟨bb, qv, h1, h2, h3⟩ := h.net
  exact (drop_calls h1 i j).mono fun e w' ⟨ev, e1, e2, e3⟩ => ⟨ev, e1, e2, h.step h1 h2 h3 e3 (drop_n _ _ _)⟩
theorem doubleB (h : BO W bx nb hb b c sr sp w) (hs : Wm sp L) (i j : Int) : Calls Tryd.prog 9 #[.pointer (some ⟨nb, 0, none⟩), .int .i64 i, .int .i64 j] w fun e w' => ∃ ev, e = .returned ev ∧ ErR w' ev (er doubleN (sp.placeE i j)) ∧ BO W bx nb hb b c sr (sp.double i j) w' ∧ KP w w' := by
  obtain ⟨bb, qv, h1, h2, h3⟩ := h.net
  exact (double_calls h1 i j (fun k hk => by have := hs.q k hk; omega)).mono fun e w' ⟨ev, e1, e2, e3⟩ => ⟨ev, e1, e2, h.step h1 h2 h3 e3 (double_n _ _ _)⟩
theorem delayB (h : BO W bx nb hb b c sr sp w) (hs : Wm sp L) (i j t : Int) : Calls Tryd.prog 25 #[.pointer (some ⟨nb, 0, none⟩), .int .i64 i, .int .i64 j, .int .i64 t] w fun e w' => ∃ ev, e = .returned ev ∧ ErR w' ev (er delayN (sp.delayE i j t)) ∧ BO W bx nb hb b c sr (sp.delay i j t) w' ∧ KP w w' := by
  obtain ⟨bb, qv, h1, h2, h3⟩ := h.net
  exact (delay_calls h1 i j t hs.due).mono fun e w' ⟨ev, e1, e2, e3⟩ => ⟨ev, e1, e2, h.step h1 h2 h3 e3 (delay_n _ _ _ _)⟩
theorem spoilB' (h : BO W bx nb hb b c sr sp w) (i j a m : Int) (ha : -9223372036854775808 ≤ a ∧ a ≤ 9223372036854775807) (hm : 0 ≤ m ∧ m < 4294967296) : Calls Tryd.prog 10 #[.pointer (some ⟨nb, 0, none⟩), .int .i64 i, .int .i64 j, .int .i64 a, .int .u32 m] w fun e w' => ∃ ev, e = .returned ev ∧ ErR w' ev (spoilR sp i j a m) ∧ BO W bx nb hb b c sr (sp.spoil i j a m) w' ∧ KP w w' := by
  obtain ⟨bb, qv, h1, h2, h3⟩ := h.net
  exact (spoil_calls h1 i j a m ha hm).mono fun e w' ⟨ev, e1, e2, e3⟩ => ⟨ev, e1, e2, h.step h1 h2 h3 e3 (spoil_n _ _ _ _ _)⟩
end
end
section
open Go.RowKit Go.Deep Go.Proofs.YtpfpdbbgiimnmaaDoor.Er Go.Proofs.YtpfpdbbgiimnmaaDoor.As Go.Proofs.YtpfpdbbgiimnmaaDoor.Mod Go.Proofs.YtpfpdbbgiimnmaaDoorW.PrintWords Go.Proofs.YtpfpdbbgiimnmaaDoorW.PrintLast
theorem run_ldq {o : Oper} {a : Act} {W : World} {g : Nat} {p u v : Value} (hk : Bk W g 45 [p, u, v]) (x : Operand) (ho : o.op = .load 40 x) (hx : a.eval x = .pointer (some ⟨g, 1, none⟩)) : (execOp a.eval o).run Tryd.prog W = .ok (.value (.agg #[u, v])) W := by
  have hl : (loadCells ⟨g, 1, none⟩ 2).run Tryd.prog W = .ok #[u, v] W := run_loadCells_list (P := Tryd.prog) (w := W) ⟨g, 1, none⟩ [u, v] (fun j z hz => by
    have hadd : (⟨g, 1, none⟩ : Addr).add j = ⟨g, 1 + j, none⟩ := by unfold Addr.add; split <;> simp_all
    rw [hadd]
    match j, hz with
    | 0, hz => rw [hk.cell 1]; simpa using hz
    | 1, hz => rw [hk.cell 2]; simpa using hz
    | j + 2, hz => simp at hz)
  obtain ⟨i, hi, hs⟩ := Option.map_eq_some_iff.1 (show (Tryd.prog.info? 40).map (·.size) = some 2 by kernel_rfl)
  have hagg : (isAgg 40).run Tryd.prog W = .ok true W := by
    unfold isAgg
    rw [Sem.run_bind, run_underlying Tryd.underlying40 W]
    rfl
  have hl2 : (loadVar 40 ⟨g, 1, none⟩).run Tryd.prog W = .ok (.agg #[u, v]) W := by simp [loadVar, Sem.run_bind, hagg, sizeOf, typeInfo, hi, hs, hl]
  unfold execOp
  simp only [ho, hx, Instr.loadAt, Instr.sureAddr, Sem.run_bind, Sem.run_pure, Result.andThen_ok, hl2]
theorem bk_alloc (w : World) (cs : List Value) (t : TypeId) : Bk (w.alloc (.cells cs.toArray t)) w.heap.size t cs := by
  unfold Bk
  exact Array.getElem?_push_size ..
set_option maxHeartbeats 8000000 in
set_option maxRecDepth 100000 in
theorem step_0 {W : World} {bx nb hb b c : Nat} {s : Nt} {w : World} {L : Nat} (h : BO W bx nb hb b c s s w) (hg : Glob W) (hst an am mk : Int) (B1 : Option Addr) (B2 B3 : Nat) (L1 : Option Addr) (L2 L3 : Nat) (hW : Wm s (L + 1)) : Calls Tryd.prog 14 #[.pointer (some ⟨bx, 0, none⟩), .agg #[.int .i64 0, .int .i64 hst, .int .i64 an, .int .i64 am, .int .u32 mk, .slice B1 B2 B3, .slice L1 L2 L3]] w fun e w' => e = .returned (.bool true) ∧ ∃ b' c', BO W bx nb hb b' c' (s.join hst) (s.join hst) w' := by
  obtain ⟨g3, hg3⟩ : ∃ g, g = w.heap.size := ⟨_, rfl⟩
  have HNE : Hid (g3 ≠ bx) := Lib.hid (fun e => absurd h.box.lt (by rw [← e, hg3]; exact Nat.lt_irrefl _))
  have HG := Lib.hid hg
  have HW := Lib.hid hW
  have HW1 : Hid (∀ w1, w1 = w.alloc (.cells #[.int .i64 0, .int .i64 hst, .int .i64 an, .int .i64 am, .int .u32 mk, .slice B1 B2 B3, .slice L1 L2 L3] 49) → BO W bx nb hb b c s s w1 ∧ Bk w1 w.heap.size 49 [.int .i64 0, .int .i64 hst, .int .i64 an, .int .i64 am, .int .u32 mk, .slice B1 B2 B3, .slice L1 L2 L3]) := Lib.hid (by
    rintro w1 rfl
    exact ⟨h.below ((Below.refl _ _).alloc (Nat.le_refl _) _), bk_alloc _ _ _⟩)
  have HSA : Hid (∀ w', BO W bx nb hb b c (s) (s) w' → Bk w' g3 49 [.int .i64 0, .int .i64 hst, .int .i64 an, .int .i64 am, .int .u32 mk, .slice B1 B2 B3, .slice L1 L2 L3] → BO W bx nb hb b c (s) (s) w' ∧ Bk w' g3 49 [.int .i64 0, .int .i64 hst, .int .i64 an, .int .i64 am, .int .u32 mk, .slice B1 B2 B3, .slice L1 L2 L3] ∧ Glob w' ∧ w'.cell? ⟨bx, 0, none⟩ = some (.pointer (some ⟨nb, 0, none⟩)) ∧ w'.cell? ⟨g3, 1, none⟩ = some (.int .i64 hst)) := Lib.hid (fun w' h1 h2 => ⟨h1, h2, Glob_below HG.out h1.net.bel, h1.box.cell 0, h2.cell 1⟩)
  have HSC : Hid (∀ w' {p q : Value}, Bk w' bx 45 [.pointer (some ⟨nb, 0, none⟩), p, q] → Bk w' g3 49 [.int .i64 0, .int .i64 hst, .int .i64 an, .int .i64 am, .int .u32 mk, .slice B1 B2 B3, .slice L1 L2 L3] → Bk w' g3 49 [.int .i64 0, .int .i64 hst, .int .i64 an, .int .i64 am, .int .u32 mk, .slice B1 B2 B3, .slice L1 L2 L3] ∧ w'.cell? ⟨bx, 0, none⟩ = some (.pointer (some ⟨nb, 0, none⟩)) ∧ w'.cell? ⟨g3, 1, none⟩ = some (.int .i64 hst)) := Lib.hid (fun w' _ _ h1 h2 => ⟨h2, h1.cell 0, h2.cell 1⟩)
  clear h hg hW
  go_enter Tryd.func14, Tryd.ntmps14
  go_upto_region 1 with (fail)
  generalize hw1 : w.alloc (.cells #[.int .i64 0, .int .i64 hst, .int .i64 an, .int .i64 am, .int .u32 mk, .slice B1 B2 B3, .slice L1 L2 L3] 49) = w1
  obtain ⟨h1, h2⟩ := HW1.out w1 hw1.symm
  rw [← hg3] at h2 ⊢
  have k0 : w1.cell? ⟨g3, 0, none⟩ = some (.int .i64 0) := h2.cell 0
  have HB1 := Lib.hid (And.intro h1 h2)
  clear h1 h2 hw1 HW1 hg3
  go_upto_region 4 with (fail)
  refine start_ (n := 15) (S := fun w' => BO W bx nb hb b c (s) (s) w' ∧ Bk w' g3 49 [.int .i64 0, .int .i64 hst, .int .i64 an, .int .i64 am, .int .u32 mk, .slice B1 B2 B3, .slice L1 L2 L3] ∧ Glob w' ∧ w'.cell? ⟨bx, 0, none⟩ = some (.pointer (some ⟨nb, 0, none⟩)) ∧ w'.cell? ⟨g3, 1, none⟩ = some (.int .i64 hst)) (ds := [13]) #[false, false, false, false, false, false, false, false, false, false, false, false, false, false, false] (by kernel_rfl) rfl rfl (HSA.out _ HB1.out.1.drew (HB1.out.2.below (Below.refl _ _).drew)) (fun hHeld => ?_)
  refine pu_ 0 13 (bm_ 15 0x1) ?_
  refine pu_ 1 14 (bm_ 15 0x3) ?_
  refine pu_ 2 15 (bm_ 15 0x7) ?_
  refine pu_ 3 16 (bm_ 15 0xf) ?_
  refine take_ (i := 4) (N := some 17) (v := .agg #[.int .i64 s.now, .slice (some ⟨b, 0, none⟩) s.n c]) (bm_ 15 0x1f) rfl rfl (by kernel_rfl) (fun _ _ _ h => h) (Or.inl ⟨by rfl, fun w' hs => run_ldq hs.1.box (.tmp 16) rfl rfl⟩) hHeld rfl ?_
  refine nm_ 17 ?_
  refine pu_ 5 18 (bm_ 15 0x3f) ?_
  refine tk_ 6 19 (bm_ 15 0x7f) hHeld ?_
  refine on_ 7 (some 20) (bm_ 15 0xff) fun K hK => ?_
  refine gd_ Tryd.func36 (join_r hHeld.1.ref hHeld.1.n16 hst) ?_
  rintro e w10 ⟨v', rfl, hv, hb⟩
  obtain ⟨b5, c5, rfl, hc5, _⟩ := hv.parts
  refine ⟨_, rfl, ?_⟩
  have hS10 := HSA.out _ (hHeld.1.below hb) (hHeld.2.1.below hb)
  have HV := Lib.hid hv
  clear hb hv hc5
  refine hK.out _ _ hS10 (fun hHeldB => ?_)
  clear hK K hHeld hS10
  refine nm_ 20 ?_
  refine pu_ 8 12 (bm_ 15 0x1ff) ?_
  refine pu_ 9 21 (bm_ 15 0x3ff) ?_
  refine pu_ 10 22 (bm_ 15 0x7ff) ?_
  refine pu_ 11 23 (bm_ 15 0xfff) ?_
  refine pu_ 12 24 (bm_ 15 0x1fff) ?_
  refine la_ 13 none (bm_ 15 0x3fff) fun K hK => ?_
  refine skip_ (by rfl) rfl (w1 := w10.setCells bx 1 [.int .i64 (s.join hst).now, .slice (some ⟨b5, 0, none⟩) (s.join hst).n c5]) (run_stb (hHeldB.1.box) (q := 1) rfl rfl rfl (by kernel_rfl) (by simp) (o_cons rfl (o_cons rfl o_nil))) ?_
  refine hK.out _ _ ?_
  obtain ⟨hbo, hfar⟩ := hHeldB.1.refd (sr' := s.join hst) HV.out
  have HBN := Lib.hid (And.intro hbo (show Bk (w10.setCells bx 1 [.int .i64 (s.join hst).now, .slice (some ⟨b5, 0, none⟩) (s.join hst).n c5]) g3 49 [.int .i64 0, .int .i64 hst, .int .i64 an, .int .i64 am, .int .u32 mk, .slice B1 B2 B3, .slice L1 L2 L3] from (hfar g3 HNE.out).trans hHeldB.2.1))
  generalize w10.setCells bx 1 [.int .i64 (s.join hst).now, .slice (some ⟨b5, 0, none⟩) (s.join hst).n c5] = w20 at HBN ⊢
  clear hK K hHeldB hbo hfar HV
  refine pu_ 14 5 (bm_ 15 0x7fff) ?_
  refine done_ (by kernel_rfl) ?_
  clear HB1 HSA k0
  go_upto_region 5 with (fail)
  refine start_ (n := 10) (S := fun w' => Bk w' g3 49 [.int .i64 0, .int .i64 hst, .int .i64 an, .int .i64 am, .int .u32 mk, .slice B1 B2 B3, .slice L1 L2 L3] ∧ w'.cell? ⟨bx, 0, none⟩ = some (.pointer (some ⟨nb, 0, none⟩)) ∧ w'.cell? ⟨g3, 1, none⟩ = some (.int .i64 hst)) (ds := [8]) #[false, false, false, false, false, false, false, false, false, false] (by kernel_rfl) rfl rfl (HSC.out _ (HBN.out.1.drew).box (HBN.out.2.below (Below.refl _ _).drew)) (fun hHeld => ?_)
  refine pu_ 0 25 (bm_ 10 0x1) ?_
  refine pu_ 1 26 (bm_ 10 0x3) ?_
  refine pu_ 2 27 (bm_ 10 0x7) ?_
  refine tk_ 3 28 (bm_ 10 0xf) hHeld ?_
  refine pu_ 4 29 (bm_ 10 0x1f) ?_
  refine tk_ 5 30 (bm_ 10 0x3f) hHeld ?_
  refine pu_ 7 32 (bm_ 10 0xbf) ?_
  refine on_ 6 (some 31) (bm_ 10 0xff) fun K hK => ?_
  refine gd_ Tryd.func16 (joinB HBN.out.1.drew hst) ?_
  rintro e w11 ⟨ev, rfl, he2, hbo, hkp⟩
  refine ⟨_, rfl, ?_⟩
  have hA11 : Bk w11 g3 49 [.int .i64 0, .int .i64 hst, .int .i64 an, .int .i64 am, .int .u32 mk, .slice B1 B2 B3, .slice L1 L2 L3] := (HBN.out.2.below (Below.refl _ _).drew).kp hkp (by decide)
  have hS11 := HSC.out _ hbo.box hA11
  have HE := Lib.hid he2
  have HB2 := Lib.hid hbo
  clear he2 hbo hkp hA11
  refine hK.out _ _ hS11 (fun hHeldB => ?_)
  clear hK K hHeld hS11
  refine nm_ 31 ?_
  refine la_ 8 (some 33) (bm_ 10 0x1ff) fun K hK => ?_
  refine gd_ Tryd.func11 (Tells.tells.calls ev _ (s.joinE hst) { data := #[109, 110, 101, 116, 46, 74, 111, 105, 110] } true _ HE.out (Glob_below HG.out HB2.out.net.bel) (tells_er joinN _)) ?_
  rintro e w12 ⟨rfl, hb⟩
  refine ⟨_, rfl, ?_⟩
  have HB3 := Lib.hid (HB2.out.below hb)
  clear hb
  refine hK.out _ _ ?_
  clear hK K hHeldB HB2 HE
  refine nm_ 33 ?_
  refine pu_ 9 4 (bm_ 10 0x3ff) ?_
  refine done_ (by kernel_rfl) ?_
  clear HBN HSC
  go_wp2
  go_ret
  exact ⟨rfl, b5, c5, HB3.out⟩

set_option maxHeartbeats 8000000 in
set_option maxRecDepth 100000 in
theorem step_1 {W : World} {bx nb hb b c : Nat} {s : Nt} {w : World} {L : Nat} (h : BO W bx nb hb b c s s w) (hg : Glob W) (hst an am mk : Int) (B1 : Option Addr) (B2 B3 : Nat) (L1 : Option Addr) (L2 L3 : Nat) (hW : Wm s (L + 1)) : Calls Tryd.prog 14 #[.pointer (some ⟨bx, 0, none⟩), .agg #[.int .i64 1, .int .i64 hst, .int .i64 an, .int .i64 am, .int .u32 mk, .slice B1 B2 B3, .slice L1 L2 L3]] w fun e w' => e = .returned (.bool true) ∧ ∃ b' c', BO W bx nb hb b' c' (s.leave hst) (s.leave hst) w' := by
  obtain ⟨g3, hg3⟩ : ∃ g, g = w.heap.size := ⟨_, rfl⟩
  have HNE : Hid (g3 ≠ bx) := Lib.hid (fun e => absurd h.box.lt (by rw [← e, hg3]; exact Nat.lt_irrefl _))
  have HG := Lib.hid hg
  have HW := Lib.hid hW
  have HW1 : Hid (∀ w1, w1 = w.alloc (.cells #[.int .i64 1, .int .i64 hst, .int .i64 an, .int .i64 am, .int .u32 mk, .slice B1 B2 B3, .slice L1 L2 L3] 49) → BO W bx nb hb b c s s w1 ∧ Bk w1 w.heap.size 49 [.int .i64 1, .int .i64 hst, .int .i64 an, .int .i64 am, .int .u32 mk, .slice B1 B2 B3, .slice L1 L2 L3]) := Lib.hid (by
    rintro w1 rfl
    exact ⟨h.below ((Below.refl _ _).alloc (Nat.le_refl _) _), bk_alloc _ _ _⟩)
  have HSA : Hid (∀ w', BO W bx nb hb b c (s) (s) w' → Bk w' g3 49 [.int .i64 1, .int .i64 hst, .int .i64 an, .int .i64 am, .int .u32 mk, .slice B1 B2 B3, .slice L1 L2 L3] → BO W bx nb hb b c (s) (s) w' ∧ Bk w' g3 49 [.int .i64 1, .int .i64 hst, .int .i64 an, .int .i64 am, .int .u32 mk, .slice B1 B2 B3, .slice L1 L2 L3] ∧ Glob w' ∧ w'.cell? ⟨bx, 0, none⟩ = some (.pointer (some ⟨nb, 0, none⟩)) ∧ w'.cell? ⟨g3, 1, none⟩ = some (.int .i64 hst)) := Lib.hid (fun w' h1 h2 => ⟨h1, h2, Glob_below HG.out h1.net.bel, h1.box.cell 0, h2.cell 1⟩)
  have HSC : Hid (∀ w' {p q : Value}, Bk w' bx 45 [.pointer (some ⟨nb, 0, none⟩), p, q] → Bk w' g3 49 [.int .i64 1, .int .i64 hst, .int .i64 an, .int .i64 am, .int .u32 mk, .slice B1 B2 B3, .slice L1 L2 L3] → Bk w' g3 49 [.int .i64 1, .int .i64 hst, .int .i64 an, .int .i64 am, .int .u32 mk, .slice B1 B2 B3, .slice L1 L2 L3] ∧ w'.cell? ⟨bx, 0, none⟩ = some (.pointer (some ⟨nb, 0, none⟩)) ∧ w'.cell? ⟨g3, 1, none⟩ = some (.int .i64 hst)) := Lib.hid (fun w' _ _ h1 h2 => ⟨h2, h1.cell 0, h2.cell 1⟩)
  clear h hg hW
  go_enter Tryd.func14, Tryd.ntmps14
  go_upto_region 1 with (fail)
  generalize hw1 : w.alloc (.cells #[.int .i64 1, .int .i64 hst, .int .i64 an, .int .i64 am, .int .u32 mk, .slice B1 B2 B3, .slice L1 L2 L3] 49) = w1
  obtain ⟨h1, h2⟩ := HW1.out w1 hw1.symm
  rw [← hg3] at h2 ⊢
  have k0 : w1.cell? ⟨g3, 0, none⟩ = some (.int .i64 1) := h2.cell 0
  have HB1 := Lib.hid (And.intro h1 h2)
  clear h1 h2 hw1 HW1 hg3
  go_upto_region 7 with (fail)
  refine start_ (n := 15) (S := fun w' => BO W bx nb hb b c (s) (s) w' ∧ Bk w' g3 49 [.int .i64 1, .int .i64 hst, .int .i64 an, .int .i64 am, .int .u32 mk, .slice B1 B2 B3, .slice L1 L2 L3] ∧ Glob w' ∧ w'.cell? ⟨bx, 0, none⟩ = some (.pointer (some ⟨nb, 0, none⟩)) ∧ w'.cell? ⟨g3, 1, none⟩ = some (.int .i64 hst)) (ds := [13]) #[false, false, false, false, false, false, false, false, false, false, false, false, false, false, false] (by kernel_rfl) rfl rfl (HSA.out _ HB1.out.1.drew (HB1.out.2.below (Below.refl _ _).drew)) (fun hHeld => ?_)
  refine pu_ 0 37 (bm_ 15 0x1) ?_
  refine pu_ 1 38 (bm_ 15 0x3) ?_
  refine pu_ 2 39 (bm_ 15 0x7) ?_
  refine pu_ 3 40 (bm_ 15 0xf) ?_
  refine take_ (i := 4) (N := some 41) (v := .agg #[.int .i64 s.now, .slice (some ⟨b, 0, none⟩) s.n c]) (bm_ 15 0x1f) rfl rfl (by kernel_rfl) (fun _ _ _ h => h) (Or.inl ⟨by rfl, fun w' hs => run_ldq hs.1.box (.tmp 40) rfl rfl⟩) hHeld rfl ?_
  refine nm_ 41 ?_
  refine pu_ 5 42 (bm_ 15 0x3f) ?_
  refine tk_ 6 43 (bm_ 15 0x7f) hHeld ?_
  refine on_ 7 (some 44) (bm_ 15 0xff) fun K hK => ?_
  refine gd_ Tryd.func37 (leave_r hHeld.1.ref hHeld.1.n16 hst) ?_
  rintro e w10 ⟨v', rfl, hv, hb⟩
  obtain ⟨b5, c5, rfl, hc5, _⟩ := hv.parts
  refine ⟨_, rfl, ?_⟩
  have hS10 := HSA.out _ (hHeld.1.below hb) (hHeld.2.1.below hb)
  have HV := Lib.hid hv
  clear hb hv hc5
  refine hK.out _ _ hS10 (fun hHeldB => ?_)
  clear hK K hHeld hS10
  refine nm_ 44 ?_
  refine pu_ 8 36 (bm_ 15 0x1ff) ?_
  refine pu_ 9 45 (bm_ 15 0x3ff) ?_
  refine pu_ 10 46 (bm_ 15 0x7ff) ?_
  refine pu_ 11 47 (bm_ 15 0xfff) ?_
  refine pu_ 12 48 (bm_ 15 0x1fff) ?_
  refine la_ 13 none (bm_ 15 0x3fff) fun K hK => ?_
  refine skip_ (by rfl) rfl (w1 := w10.setCells bx 1 [.int .i64 (s.leave hst).now, .slice (some ⟨b5, 0, none⟩) (s.leave hst).n c5]) (run_stb (hHeldB.1.box) (q := 1) rfl rfl rfl (by kernel_rfl) (by simp) (o_cons rfl (o_cons rfl o_nil))) ?_
  refine hK.out _ _ ?_
  obtain ⟨hbo, hfar⟩ := hHeldB.1.refd (sr' := s.leave hst) HV.out
  have HBN := Lib.hid (And.intro hbo (show Bk (w10.setCells bx 1 [.int .i64 (s.leave hst).now, .slice (some ⟨b5, 0, none⟩) (s.leave hst).n c5]) g3 49 [.int .i64 1, .int .i64 hst, .int .i64 an, .int .i64 am, .int .u32 mk, .slice B1 B2 B3, .slice L1 L2 L3] from (hfar g3 HNE.out).trans hHeldB.2.1))
  generalize w10.setCells bx 1 [.int .i64 (s.leave hst).now, .slice (some ⟨b5, 0, none⟩) (s.leave hst).n c5] = w20 at HBN ⊢
  clear hK K hHeldB hbo hfar HV
  refine pu_ 14 5 (bm_ 15 0x7fff) ?_
  refine done_ (by kernel_rfl) ?_
  clear HB1 HSA k0
  go_upto_region 8 with (fail)
  refine start_ (n := 10) (S := fun w' => Bk w' g3 49 [.int .i64 1, .int .i64 hst, .int .i64 an, .int .i64 am, .int .u32 mk, .slice B1 B2 B3, .slice L1 L2 L3] ∧ w'.cell? ⟨bx, 0, none⟩ = some (.pointer (some ⟨nb, 0, none⟩)) ∧ w'.cell? ⟨g3, 1, none⟩ = some (.int .i64 hst)) (ds := [8]) #[false, false, false, false, false, false, false, false, false, false] (by kernel_rfl) rfl rfl (HSC.out _ (HBN.out.1.drew).box (HBN.out.2.below (Below.refl _ _).drew)) (fun hHeld => ?_)
  refine pu_ 0 49 (bm_ 10 0x1) ?_
  refine pu_ 1 50 (bm_ 10 0x3) ?_
  refine pu_ 2 51 (bm_ 10 0x7) ?_
  refine tk_ 3 52 (bm_ 10 0xf) hHeld ?_
  refine pu_ 4 53 (bm_ 10 0x1f) ?_
  refine tk_ 5 54 (bm_ 10 0x3f) hHeld ?_
  refine pu_ 7 56 (bm_ 10 0xbf) ?_
  refine on_ 6 (some 55) (bm_ 10 0xff) fun K hK => ?_
  refine gd_ Tryd.func17 (leaveB HBN.out.1.drew hst) ?_
  rintro e w11 ⟨ev, rfl, he2, hbo, hkp⟩
  refine ⟨_, rfl, ?_⟩
  have hA11 : Bk w11 g3 49 [.int .i64 1, .int .i64 hst, .int .i64 an, .int .i64 am, .int .u32 mk, .slice B1 B2 B3, .slice L1 L2 L3] := (HBN.out.2.below (Below.refl _ _).drew).kp hkp (by decide)
  have hS11 := HSC.out _ hbo.box hA11
  have HE := Lib.hid he2
  have HB2 := Lib.hid hbo
  clear he2 hbo hkp hA11
  refine hK.out _ _ hS11 (fun hHeldB => ?_)
  clear hK K hHeld hS11
  refine nm_ 55 ?_
  refine la_ 8 (some 57) (bm_ 10 0x1ff) fun K hK => ?_
  refine gd_ Tryd.func11 (Tells.tells.calls ev _ (s.leaveE hst) { data := #[109, 110, 101, 116, 46, 76, 101, 97, 118, 101] } true _ HE.out (Glob_below HG.out HB2.out.net.bel) (tells_er leaveN _)) ?_
  rintro e w12 ⟨rfl, hb⟩
  refine ⟨_, rfl, ?_⟩
  have HB3 := Lib.hid (HB2.out.below hb)
  clear hb
  refine hK.out _ _ ?_
  clear hK K hHeldB HB2 HE
  refine nm_ 57 ?_
  refine pu_ 9 4 (bm_ 10 0x3ff) ?_
  refine done_ (by kernel_rfl) ?_
  clear HBN HSC
  go_wp2
  go_ret
  exact ⟨rfl, b5, c5, HB3.out⟩

set_option maxHeartbeats 8000000 in
set_option maxRecDepth 100000 in
theorem step_2 {W : World} {bx nb hb b c : Nat} {s : Nt} {w : World} {L : Nat} (h : BO W bx nb hb b c s s w) (hg : Glob W) (hst an am mk : Int) (B1 : Option Addr) (B2 B3 : Nat) (L1 : Option Addr) (L2 L3 : Nat) (hW : Wm s (L + 1)) : Calls Tryd.prog 14 #[.pointer (some ⟨bx, 0, none⟩), .agg #[.int .i64 2, .int .i64 hst, .int .i64 an, .int .i64 am, .int .u32 mk, .slice B1 B2 B3, .slice L1 L2 L3]] w fun e w' => e = .returned (.bool true) ∧ ∃ b' c', BO W bx nb hb b' c' (s.want hst an) (s.want hst an) w' := by
  obtain ⟨g3, hg3⟩ : ∃ g, g = w.heap.size := ⟨_, rfl⟩
  have HNE : Hid (g3 ≠ bx) := Lib.hid (fun e => absurd h.box.lt (by rw [← e, hg3]; exact Nat.lt_irrefl _))
  have HG := Lib.hid hg
  have HW := Lib.hid hW
  have HW1 : Hid (∀ w1, w1 = w.alloc (.cells #[.int .i64 2, .int .i64 hst, .int .i64 an, .int .i64 am, .int .u32 mk, .slice B1 B2 B3, .slice L1 L2 L3] 49) → BO W bx nb hb b c s s w1 ∧ Bk w1 w.heap.size 49 [.int .i64 2, .int .i64 hst, .int .i64 an, .int .i64 am, .int .u32 mk, .slice B1 B2 B3, .slice L1 L2 L3]) := Lib.hid (by
    rintro w1 rfl
    exact ⟨h.below ((Below.refl _ _).alloc (Nat.le_refl _) _), bk_alloc _ _ _⟩)
  have HSA : Hid (∀ w', BO W bx nb hb b c (s) (s) w' → Bk w' g3 49 [.int .i64 2, .int .i64 hst, .int .i64 an, .int .i64 am, .int .u32 mk, .slice B1 B2 B3, .slice L1 L2 L3] → BO W bx nb hb b c (s) (s) w' ∧ Bk w' g3 49 [.int .i64 2, .int .i64 hst, .int .i64 an, .int .i64 am, .int .u32 mk, .slice B1 B2 B3, .slice L1 L2 L3] ∧ Glob w' ∧ w'.cell? ⟨bx, 0, none⟩ = some (.pointer (some ⟨nb, 0, none⟩)) ∧ w'.cell? ⟨g3, 1, none⟩ = some (.int .i64 hst) ∧ w'.cell? ⟨g3, 2, none⟩ = some (.int .i64 an)) := Lib.hid (fun w' h1 h2 => ⟨h1, h2, Glob_below HG.out h1.net.bel, h1.box.cell 0, h2.cell 1, h2.cell 2⟩)
  have HSC : Hid (∀ w' {p q : Value}, Bk w' bx 45 [.pointer (some ⟨nb, 0, none⟩), p, q] → Bk w' g3 49 [.int .i64 2, .int .i64 hst, .int .i64 an, .int .i64 am, .int .u32 mk, .slice B1 B2 B3, .slice L1 L2 L3] → Bk w' g3 49 [.int .i64 2, .int .i64 hst, .int .i64 an, .int .i64 am, .int .u32 mk, .slice B1 B2 B3, .slice L1 L2 L3] ∧ w'.cell? ⟨bx, 0, none⟩ = some (.pointer (some ⟨nb, 0, none⟩)) ∧ w'.cell? ⟨g3, 1, none⟩ = some (.int .i64 hst) ∧ w'.cell? ⟨g3, 2, none⟩ = some (.int .i64 an)) := Lib.hid (fun w' _ _ h1 h2 => ⟨h2, h1.cell 0, h2.cell 1, h2.cell 2⟩)
  clear h hg hW
  go_enter Tryd.func14, Tryd.ntmps14
  go_upto_region 1 with (fail)
  generalize hw1 : w.alloc (.cells #[.int .i64 2, .int .i64 hst, .int .i64 an, .int .i64 am, .int .u32 mk, .slice B1 B2 B3, .slice L1 L2 L3] 49) = w1
  obtain ⟨h1, h2⟩ := HW1.out w1 hw1.symm
  rw [← hg3] at h2 ⊢
  have k0 : w1.cell? ⟨g3, 0, none⟩ = some (.int .i64 2) := h2.cell 0
  have HB1 := Lib.hid (And.intro h1 h2)
  clear h1 h2 hw1 HW1 hg3
  go_upto_region 10 with (fail)
  refine start_ (n := 17) (S := fun w' => BO W bx nb hb b c (s) (s) w' ∧ Bk w' g3 49 [.int .i64 2, .int .i64 hst, .int .i64 an, .int .i64 am, .int .u32 mk, .slice B1 B2 B3, .slice L1 L2 L3] ∧ Glob w' ∧ w'.cell? ⟨bx, 0, none⟩ = some (.pointer (some ⟨nb, 0, none⟩)) ∧ w'.cell? ⟨g3, 1, none⟩ = some (.int .i64 hst) ∧ w'.cell? ⟨g3, 2, none⟩ = some (.int .i64 an)) (ds := [15]) #[false, false, false, false, false, false, false, false, false, false, false, false, false, false, false, false, false] (by kernel_rfl) rfl rfl (HSA.out _ HB1.out.1.drew (HB1.out.2.below (Below.refl _ _).drew)) (fun hHeld => ?_)
  refine pu_ 0 61 (bm_ 17 0x1) ?_
  refine pu_ 1 62 (bm_ 17 0x3) ?_
  refine pu_ 2 63 (bm_ 17 0x7) ?_
  refine pu_ 3 64 (bm_ 17 0xf) ?_
  refine take_ (i := 4) (N := some 65) (v := .agg #[.int .i64 s.now, .slice (some ⟨b, 0, none⟩) s.n c]) (bm_ 17 0x1f) rfl rfl (by kernel_rfl) (fun _ _ _ h => h) (Or.inl ⟨by rfl, fun w' hs => run_ldq hs.1.box (.tmp 64) rfl rfl⟩) hHeld rfl ?_
  refine nm_ 65 ?_
  refine pu_ 5 66 (bm_ 17 0x3f) ?_
  refine tk_ 6 67 (bm_ 17 0x7f) hHeld ?_
  refine pu_ 7 68 (bm_ 17 0xff) ?_
  refine tk_ 8 69 (bm_ 17 0x1ff) hHeld ?_
  refine on_ 9 (some 70) (bm_ 17 0x3ff) fun K hK => ?_
  refine gd_ Tryd.func38 (want_r hHeld.1.ref hHeld.1.n16 HW.out.now (fun k hk => HW.out.wf.graft k hk) hst an) ?_
  rintro e w10 ⟨v', rfl, hv, hb⟩
  obtain ⟨b5, c5, rfl, hc5, _⟩ := hv.parts
  refine ⟨_, rfl, ?_⟩
  have hS10 := HSA.out _ (hHeld.1.below hb) (hHeld.2.1.below hb)
  have HV := Lib.hid hv
  clear hb hv hc5
  refine hK.out _ _ hS10 (fun hHeldB => ?_)
  clear hK K hHeld hS10
  refine nm_ 70 ?_
  refine pu_ 10 60 (bm_ 17 0x7ff) ?_
  refine pu_ 11 71 (bm_ 17 0xfff) ?_
  refine pu_ 12 72 (bm_ 17 0x1fff) ?_
  refine pu_ 13 73 (bm_ 17 0x3fff) ?_
  refine pu_ 14 74 (bm_ 17 0x7fff) ?_
  refine la_ 15 none (bm_ 17 0xffff) fun K hK => ?_
  refine skip_ (by rfl) rfl (w1 := w10.setCells bx 1 [.int .i64 (s.want hst an).now, .slice (some ⟨b5, 0, none⟩) (s.want hst an).n c5]) (run_stb (hHeldB.1.box) (q := 1) rfl rfl rfl (by kernel_rfl) (by simp) (o_cons rfl (o_cons rfl o_nil))) ?_
  refine hK.out _ _ ?_
  obtain ⟨hbo, hfar⟩ := hHeldB.1.refd (sr' := s.want hst an) HV.out
  have HBN := Lib.hid (And.intro hbo (show Bk (w10.setCells bx 1 [.int .i64 (s.want hst an).now, .slice (some ⟨b5, 0, none⟩) (s.want hst an).n c5]) g3 49 [.int .i64 2, .int .i64 hst, .int .i64 an, .int .i64 am, .int .u32 mk, .slice B1 B2 B3, .slice L1 L2 L3] from (hfar g3 HNE.out).trans hHeldB.2.1))
  generalize w10.setCells bx 1 [.int .i64 (s.want hst an).now, .slice (some ⟨b5, 0, none⟩) (s.want hst an).n c5] = w20 at HBN ⊢
  clear hK K hHeldB hbo hfar HV
  refine pu_ 16 5 (bm_ 17 0x1ffff) ?_
  refine done_ (by kernel_rfl) ?_
  clear HB1 HSA k0
  go_upto_region 11 with (fail)
  refine start_ (n := 12) (S := fun w' => Bk w' g3 49 [.int .i64 2, .int .i64 hst, .int .i64 an, .int .i64 am, .int .u32 mk, .slice B1 B2 B3, .slice L1 L2 L3] ∧ w'.cell? ⟨bx, 0, none⟩ = some (.pointer (some ⟨nb, 0, none⟩)) ∧ w'.cell? ⟨g3, 1, none⟩ = some (.int .i64 hst) ∧ w'.cell? ⟨g3, 2, none⟩ = some (.int .i64 an)) (ds := [10]) #[false, false, false, false, false, false, false, false, false, false, false, false] (by kernel_rfl) rfl rfl (HSC.out _ (HBN.out.1.drew).box (HBN.out.2.below (Below.refl _ _).drew)) (fun hHeld => ?_)
  refine pu_ 0 75 (bm_ 12 0x1) ?_
  refine pu_ 1 76 (bm_ 12 0x3) ?_
  refine pu_ 2 77 (bm_ 12 0x7) ?_
  refine tk_ 3 78 (bm_ 12 0xf) hHeld ?_
  refine pu_ 4 79 (bm_ 12 0x1f) ?_
  refine tk_ 5 80 (bm_ 12 0x3f) hHeld ?_
  refine pu_ 6 81 (bm_ 12 0x7f) ?_
  refine tk_ 7 82 (bm_ 12 0xff) hHeld ?_
  refine pu_ 9 84 (bm_ 12 0x2ff) ?_
  refine on_ 8 (some 83) (bm_ 12 0x3ff) fun K hK => ?_
  refine gd_ Tryd.func18 (wantB HBN.out.1.drew HW.out hst an) ?_
  rintro e w11 ⟨ev, rfl, he2, hbo, hkp⟩
  refine ⟨_, rfl, ?_⟩
  have hA11 : Bk w11 g3 49 [.int .i64 2, .int .i64 hst, .int .i64 an, .int .i64 am, .int .u32 mk, .slice B1 B2 B3, .slice L1 L2 L3] := (HBN.out.2.below (Below.refl _ _).drew).kp hkp (by decide)
  have hS11 := HSC.out _ hbo.box hA11
  have HE := Lib.hid he2
  have HB2 := Lib.hid hbo
  clear he2 hbo hkp hA11
  refine hK.out _ _ hS11 (fun hHeldB => ?_)
  clear hK K hHeld hS11
  refine nm_ 83 ?_
  refine la_ 10 (some 85) (bm_ 12 0x7ff) fun K hK => ?_
  refine gd_ Tryd.func11 (Tells.tells.calls ev _ (s.wantE hst an) { data := #[109, 110, 101, 116, 46, 87, 97, 110, 116] } true _ HE.out (Glob_below HG.out HB2.out.net.bel) (tells_er wantN _)) ?_
  rintro e w12 ⟨rfl, hb⟩
  refine ⟨_, rfl, ?_⟩
  have HB3 := Lib.hid (HB2.out.below hb)
  clear hb
  refine hK.out _ _ ?_
  clear hK K hHeldB HB2 HE
  refine nm_ 85 ?_
  refine pu_ 11 4 (bm_ 12 0xfff) ?_
  refine done_ (by kernel_rfl) ?_
  clear HBN HSC
  go_wp2
  go_ret
  exact ⟨rfl, b5, c5, HB3.out⟩

set_option maxHeartbeats 8000000 in
set_option maxRecDepth 100000 in
theorem step_3 {W : World} {bx nb hb b c : Nat} {s : Nt} {w : World} {L : Nat} (h : BO W bx nb hb b c s s w) (hg : Glob W) (hst an am mk : Int) (B1 : Option Addr) (B2 B3 : Nat) (L1 : Option Addr) (L2 L3 : Nat) (hW : Wm s (L + 1)) : Calls Tryd.prog 14 #[.pointer (some ⟨bx, 0, none⟩), .agg #[.int .i64 3, .int .i64 hst, .int .i64 an, .int .i64 am, .int .u32 mk, .slice B1 B2 B3, .slice L1 L2 L3]] w fun e w' => e = .returned (.bool true) ∧ ∃ b' c', BO W bx nb hb b' c' (s.setGraft hst an) (s.setGraft hst an) w' := by
  obtain ⟨g3, hg3⟩ : ∃ g, g = w.heap.size := ⟨_, rfl⟩
  have HNE : Hid (g3 ≠ bx) := Lib.hid (fun e => absurd h.box.lt (by rw [← e, hg3]; exact Nat.lt_irrefl _))
  have HG := Lib.hid hg
  have HW := Lib.hid hW
  have HW1 : Hid (∀ w1, w1 = w.alloc (.cells #[.int .i64 3, .int .i64 hst, .int .i64 an, .int .i64 am, .int .u32 mk, .slice B1 B2 B3, .slice L1 L2 L3] 49) → BO W bx nb hb b c s s w1 ∧ Bk w1 w.heap.size 49 [.int .i64 3, .int .i64 hst, .int .i64 an, .int .i64 am, .int .u32 mk, .slice B1 B2 B3, .slice L1 L2 L3]) := Lib.hid (by
    rintro w1 rfl
    exact ⟨h.below ((Below.refl _ _).alloc (Nat.le_refl _) _), bk_alloc _ _ _⟩)
  have HSA : Hid (∀ w', BO W bx nb hb b c (s) (s) w' → Bk w' g3 49 [.int .i64 3, .int .i64 hst, .int .i64 an, .int .i64 am, .int .u32 mk, .slice B1 B2 B3, .slice L1 L2 L3] → BO W bx nb hb b c (s) (s) w' ∧ Bk w' g3 49 [.int .i64 3, .int .i64 hst, .int .i64 an, .int .i64 am, .int .u32 mk, .slice B1 B2 B3, .slice L1 L2 L3] ∧ Glob w' ∧ w'.cell? ⟨bx, 0, none⟩ = some (.pointer (some ⟨nb, 0, none⟩)) ∧ w'.cell? ⟨g3, 1, none⟩ = some (.int .i64 hst) ∧ w'.cell? ⟨g3, 2, none⟩ = some (.int .i64 an)) := Lib.hid (fun w' h1 h2 => ⟨h1, h2, Glob_below HG.out h1.net.bel, h1.box.cell 0, h2.cell 1, h2.cell 2⟩)
  have HSC : Hid (∀ w' {p q : Value}, Bk w' bx 45 [.pointer (some ⟨nb, 0, none⟩), p, q] → Bk w' g3 49 [.int .i64 3, .int .i64 hst, .int .i64 an, .int .i64 am, .int .u32 mk, .slice B1 B2 B3, .slice L1 L2 L3] → Bk w' g3 49 [.int .i64 3, .int .i64 hst, .int .i64 an, .int .i64 am, .int .u32 mk, .slice B1 B2 B3, .slice L1 L2 L3] ∧ w'.cell? ⟨bx, 0, none⟩ = some (.pointer (some ⟨nb, 0, none⟩)) ∧ w'.cell? ⟨g3, 1, none⟩ = some (.int .i64 hst) ∧ w'.cell? ⟨g3, 2, none⟩ = some (.int .i64 an)) := Lib.hid (fun w' _ _ h1 h2 => ⟨h2, h1.cell 0, h2.cell 1, h2.cell 2⟩)
  clear h hg hW
  go_enter Tryd.func14, Tryd.ntmps14
  go_upto_region 1 with (fail)
  generalize hw1 : w.alloc (.cells #[.int .i64 3, .int .i64 hst, .int .i64 an, .int .i64 am, .int .u32 mk, .slice B1 B2 B3, .slice L1 L2 L3] 49) = w1
  obtain ⟨h1, h2⟩ := HW1.out w1 hw1.symm
  rw [← hg3] at h2 ⊢
  have k0 : w1.cell? ⟨g3, 0, none⟩ = some (.int .i64 3) := h2.cell 0
  have HB1 := Lib.hid (And.intro h1 h2)
  clear h1 h2 hw1 HW1 hg3
  go_upto_region 13 with (fail)
  refine start_ (n := 17) (S := fun w' => BO W bx nb hb b c (s) (s) w' ∧ Bk w' g3 49 [.int .i64 3, .int .i64 hst, .int .i64 an, .int .i64 am, .int .u32 mk, .slice B1 B2 B3, .slice L1 L2 L3] ∧ Glob w' ∧ w'.cell? ⟨bx, 0, none⟩ = some (.pointer (some ⟨nb, 0, none⟩)) ∧ w'.cell? ⟨g3, 1, none⟩ = some (.int .i64 hst) ∧ w'.cell? ⟨g3, 2, none⟩ = some (.int .i64 an)) (ds := [15]) #[false, false, false, false, false, false, false, false, false, false, false, false, false, false, false, false, false] (by kernel_rfl) rfl rfl (HSA.out _ HB1.out.1.drew (HB1.out.2.below (Below.refl _ _).drew)) (fun hHeld => ?_)
  refine pu_ 0 89 (bm_ 17 0x1) ?_
  refine pu_ 1 90 (bm_ 17 0x3) ?_
  refine pu_ 2 91 (bm_ 17 0x7) ?_
  refine pu_ 3 92 (bm_ 17 0xf) ?_
  refine take_ (i := 4) (N := some 93) (v := .agg #[.int .i64 s.now, .slice (some ⟨b, 0, none⟩) s.n c]) (bm_ 17 0x1f) rfl rfl (by kernel_rfl) (fun _ _ _ h => h) (Or.inl ⟨by rfl, fun w' hs => run_ldq hs.1.box (.tmp 92) rfl rfl⟩) hHeld rfl ?_
  refine nm_ 93 ?_
  refine pu_ 5 94 (bm_ 17 0x3f) ?_
  refine tk_ 6 95 (bm_ 17 0x7f) hHeld ?_
  refine pu_ 7 96 (bm_ 17 0xff) ?_
  refine tk_ 8 97 (bm_ 17 0x1ff) hHeld ?_
  refine on_ 9 (some 98) (bm_ 17 0x3ff) fun K hK => ?_
  refine gd_ Tryd.func39 (graft_r hHeld.1.ref hHeld.1.n16 hst an) ?_
  rintro e w10 ⟨v', rfl, hv, hb⟩
  obtain ⟨b5, c5, rfl, hc5, _⟩ := hv.parts
  refine ⟨_, rfl, ?_⟩
  have hS10 := HSA.out _ (hHeld.1.below hb) (hHeld.2.1.below hb)
  have HV := Lib.hid hv
  clear hb hv hc5
  refine hK.out _ _ hS10 (fun hHeldB => ?_)
  clear hK K hHeld hS10
  refine nm_ 98 ?_
  refine pu_ 10 88 (bm_ 17 0x7ff) ?_
  refine pu_ 11 99 (bm_ 17 0xfff) ?_
  refine pu_ 12 100 (bm_ 17 0x1fff) ?_
  refine pu_ 13 101 (bm_ 17 0x3fff) ?_
  refine pu_ 14 102 (bm_ 17 0x7fff) ?_
  refine la_ 15 none (bm_ 17 0xffff) fun K hK => ?_
  refine skip_ (by rfl) rfl (w1 := w10.setCells bx 1 [.int .i64 (s.setGraft hst an).now, .slice (some ⟨b5, 0, none⟩) (s.setGraft hst an).n c5]) (run_stb (hHeldB.1.box) (q := 1) rfl rfl rfl (by kernel_rfl) (by simp) (o_cons rfl (o_cons rfl o_nil))) ?_
  refine hK.out _ _ ?_
  obtain ⟨hbo, hfar⟩ := hHeldB.1.refd (sr' := s.setGraft hst an) HV.out
  have HBN := Lib.hid (And.intro hbo (show Bk (w10.setCells bx 1 [.int .i64 (s.setGraft hst an).now, .slice (some ⟨b5, 0, none⟩) (s.setGraft hst an).n c5]) g3 49 [.int .i64 3, .int .i64 hst, .int .i64 an, .int .i64 am, .int .u32 mk, .slice B1 B2 B3, .slice L1 L2 L3] from (hfar g3 HNE.out).trans hHeldB.2.1))
  generalize w10.setCells bx 1 [.int .i64 (s.setGraft hst an).now, .slice (some ⟨b5, 0, none⟩) (s.setGraft hst an).n c5] = w20 at HBN ⊢
  clear hK K hHeldB hbo hfar HV
  refine pu_ 16 5 (bm_ 17 0x1ffff) ?_
  refine done_ (by kernel_rfl) ?_
  clear HB1 HSA k0
  go_upto_region 14 with (fail)
  refine start_ (n := 12) (S := fun w' => Bk w' g3 49 [.int .i64 3, .int .i64 hst, .int .i64 an, .int .i64 am, .int .u32 mk, .slice B1 B2 B3, .slice L1 L2 L3] ∧ w'.cell? ⟨bx, 0, none⟩ = some (.pointer (some ⟨nb, 0, none⟩)) ∧ w'.cell? ⟨g3, 1, none⟩ = some (.int .i64 hst) ∧ w'.cell? ⟨g3, 2, none⟩ = some (.int .i64 an)) (ds := [10]) #[false, false, false, false, false, false, false, false, false, false, false, false] (by kernel_rfl) rfl rfl (HSC.out _ (HBN.out.1.drew).box (HBN.out.2.below (Below.refl _ _).drew)) (fun hHeld => ?_)
  refine pu_ 0 103 (bm_ 12 0x1) ?_
  refine pu_ 1 104 (bm_ 12 0x3) ?_
  refine pu_ 2 105 (bm_ 12 0x7) ?_
  refine tk_ 3 106 (bm_ 12 0xf) hHeld ?_
  refine pu_ 4 107 (bm_ 12 0x1f) ?_
  refine tk_ 5 108 (bm_ 12 0x3f) hHeld ?_
  refine pu_ 6 109 (bm_ 12 0x7f) ?_
  refine tk_ 7 110 (bm_ 12 0xff) hHeld ?_
  refine pu_ 9 112 (bm_ 12 0x2ff) ?_
  refine on_ 8 (some 111) (bm_ 12 0x3ff) fun K hK => ?_
  refine gd_ Tryd.func19 (graftB HBN.out.1.drew hst an) ?_
  rintro e w11 ⟨ev, rfl, he2, hbo, hkp⟩
  refine ⟨_, rfl, ?_⟩
  have hA11 : Bk w11 g3 49 [.int .i64 3, .int .i64 hst, .int .i64 an, .int .i64 am, .int .u32 mk, .slice B1 B2 B3, .slice L1 L2 L3] := (HBN.out.2.below (Below.refl _ _).drew).kp hkp (by decide)
  have hS11 := HSC.out _ hbo.box hA11
  have HE := Lib.hid he2
  have HB2 := Lib.hid hbo
  clear he2 hbo hkp hA11
  refine hK.out _ _ hS11 (fun hHeldB => ?_)
  clear hK K hHeld hS11
  refine nm_ 111 ?_
  refine la_ 10 (some 113) (bm_ 12 0x7ff) fun K hK => ?_
  refine gd_ Tryd.func11 (Tells.tells.calls ev _ (s.graftE hst an) { data := #[109, 110, 101, 116, 46, 71, 114, 97, 102, 116] } true _ HE.out (Glob_below HG.out HB2.out.net.bel) (tells_er graftN _)) ?_
  rintro e w12 ⟨rfl, hb⟩
  refine ⟨_, rfl, ?_⟩
  have HB3 := Lib.hid (HB2.out.below hb)
  clear hb
  refine hK.out _ _ ?_
  clear hK K hHeldB HB2 HE
  refine nm_ 113 ?_
  refine pu_ 11 4 (bm_ 12 0xfff) ?_
  refine done_ (by kernel_rfl) ?_
  clear HBN HSC
  go_wp2
  go_ret
  exact ⟨rfl, b5, c5, HB3.out⟩

set_option maxHeartbeats 8000000 in
set_option maxRecDepth 100000 in
theorem step_4 {W : World} {bx nb hb b c : Nat} {s : Nt} {w : World} {L : Nat} (h : BO W bx nb hb b c s s w) (hg : Glob W) (hst an am mk : Int) (B1 : Option Addr) (B2 B3 : Nat) (L1 : Option Addr) (L2 L3 : Nat) (hW : Wm s (L + 1)) : Calls Tryd.prog 14 #[.pointer (some ⟨bx, 0, none⟩), .agg #[.int .i64 4, .int .i64 hst, .int .i64 an, .int .i64 am, .int .u32 mk, .slice B1 B2 B3, .slice L1 L2 L3]] w fun e w' => e = .returned (.bool true) ∧ ∃ b' c', BO W bx nb hb b' c' (s.setCap hst an) (s.setCap hst an) w' := by
  obtain ⟨g3, hg3⟩ : ∃ g, g = w.heap.size := ⟨_, rfl⟩
  have HNE : Hid (g3 ≠ bx) := Lib.hid (fun e => absurd h.box.lt (by rw [← e, hg3]; exact Nat.lt_irrefl _))
  have HG := Lib.hid hg
  have HW := Lib.hid hW
  have HW1 : Hid (∀ w1, w1 = w.alloc (.cells #[.int .i64 4, .int .i64 hst, .int .i64 an, .int .i64 am, .int .u32 mk, .slice B1 B2 B3, .slice L1 L2 L3] 49) → BO W bx nb hb b c s s w1 ∧ Bk w1 w.heap.size 49 [.int .i64 4, .int .i64 hst, .int .i64 an, .int .i64 am, .int .u32 mk, .slice B1 B2 B3, .slice L1 L2 L3]) := Lib.hid (by
    rintro w1 rfl
    exact ⟨h.below ((Below.refl _ _).alloc (Nat.le_refl _) _), bk_alloc _ _ _⟩)
  have HSA : Hid (∀ w', BO W bx nb hb b c (s) (s) w' → Bk w' g3 49 [.int .i64 4, .int .i64 hst, .int .i64 an, .int .i64 am, .int .u32 mk, .slice B1 B2 B3, .slice L1 L2 L3] → BO W bx nb hb b c (s) (s) w' ∧ Bk w' g3 49 [.int .i64 4, .int .i64 hst, .int .i64 an, .int .i64 am, .int .u32 mk, .slice B1 B2 B3, .slice L1 L2 L3] ∧ Glob w' ∧ w'.cell? ⟨bx, 0, none⟩ = some (.pointer (some ⟨nb, 0, none⟩)) ∧ w'.cell? ⟨g3, 1, none⟩ = some (.int .i64 hst) ∧ w'.cell? ⟨g3, 2, none⟩ = some (.int .i64 an)) := Lib.hid (fun w' h1 h2 => ⟨h1, h2, Glob_below HG.out h1.net.bel, h1.box.cell 0, h2.cell 1, h2.cell 2⟩)
  have HSC : Hid (∀ w' {p q : Value}, Bk w' bx 45 [.pointer (some ⟨nb, 0, none⟩), p, q] → Bk w' g3 49 [.int .i64 4, .int .i64 hst, .int .i64 an, .int .i64 am, .int .u32 mk, .slice B1 B2 B3, .slice L1 L2 L3] → Bk w' g3 49 [.int .i64 4, .int .i64 hst, .int .i64 an, .int .i64 am, .int .u32 mk, .slice B1 B2 B3, .slice L1 L2 L3] ∧ w'.cell? ⟨bx, 0, none⟩ = some (.pointer (some ⟨nb, 0, none⟩)) ∧ w'.cell? ⟨g3, 1, none⟩ = some (.int .i64 hst) ∧ w'.cell? ⟨g3, 2, none⟩ = some (.int .i64 an)) := Lib.hid (fun w' _ _ h1 h2 => ⟨h2, h1.cell 0, h2.cell 1, h2.cell 2⟩)
  clear h hg hW
  go_enter Tryd.func14, Tryd.ntmps14
  go_upto_region 1 with (fail)
  generalize hw1 : w.alloc (.cells #[.int .i64 4, .int .i64 hst, .int .i64 an, .int .i64 am, .int .u32 mk, .slice B1 B2 B3, .slice L1 L2 L3] 49) = w1
  obtain ⟨h1, h2⟩ := HW1.out w1 hw1.symm
  rw [← hg3] at h2 ⊢
  have k0 : w1.cell? ⟨g3, 0, none⟩ = some (.int .i64 4) := h2.cell 0
  have HB1 := Lib.hid (And.intro h1 h2)
  clear h1 h2 hw1 HW1 hg3
  go_upto_region 16 with (fail)
  refine start_ (n := 17) (S := fun w' => BO W bx nb hb b c (s) (s) w' ∧ Bk w' g3 49 [.int .i64 4, .int .i64 hst, .int .i64 an, .int .i64 am, .int .u32 mk, .slice B1 B2 B3, .slice L1 L2 L3] ∧ Glob w' ∧ w'.cell? ⟨bx, 0, none⟩ = some (.pointer (some ⟨nb, 0, none⟩)) ∧ w'.cell? ⟨g3, 1, none⟩ = some (.int .i64 hst) ∧ w'.cell? ⟨g3, 2, none⟩ = some (.int .i64 an)) (ds := [15]) #[false, false, false, false, false, false, false, false, false, false, false, false, false, false, false, false, false] (by kernel_rfl) rfl rfl (HSA.out _ HB1.out.1.drew (HB1.out.2.below (Below.refl _ _).drew)) (fun hHeld => ?_)
  refine pu_ 0 117 (bm_ 17 0x1) ?_
  refine pu_ 1 118 (bm_ 17 0x3) ?_
  refine pu_ 2 119 (bm_ 17 0x7) ?_
  refine pu_ 3 120 (bm_ 17 0xf) ?_
  refine take_ (i := 4) (N := some 121) (v := .agg #[.int .i64 s.now, .slice (some ⟨b, 0, none⟩) s.n c]) (bm_ 17 0x1f) rfl rfl (by kernel_rfl) (fun _ _ _ h => h) (Or.inl ⟨by rfl, fun w' hs => run_ldq hs.1.box (.tmp 120) rfl rfl⟩) hHeld rfl ?_
  refine nm_ 121 ?_
  refine pu_ 5 122 (bm_ 17 0x3f) ?_
  refine tk_ 6 123 (bm_ 17 0x7f) hHeld ?_
  refine pu_ 7 124 (bm_ 17 0xff) ?_
  refine tk_ 8 125 (bm_ 17 0x1ff) hHeld ?_
  refine on_ 9 (some 126) (bm_ 17 0x3ff) fun K hK => ?_
  refine gd_ Tryd.func40 (cap_r hHeld.1.ref hHeld.1.n16 hst an) ?_
  rintro e w10 ⟨v', rfl, hv, hb⟩
  obtain ⟨b5, c5, rfl, hc5, _⟩ := hv.parts
  refine ⟨_, rfl, ?_⟩
  have hS10 := HSA.out _ (hHeld.1.below hb) (hHeld.2.1.below hb)
  have HV := Lib.hid hv
  clear hb hv hc5
  refine hK.out _ _ hS10 (fun hHeldB => ?_)
  clear hK K hHeld hS10
  refine nm_ 126 ?_
  refine pu_ 10 116 (bm_ 17 0x7ff) ?_
  refine pu_ 11 127 (bm_ 17 0xfff) ?_
  refine pu_ 12 128 (bm_ 17 0x1fff) ?_
  refine pu_ 13 129 (bm_ 17 0x3fff) ?_
  refine pu_ 14 130 (bm_ 17 0x7fff) ?_
  refine la_ 15 none (bm_ 17 0xffff) fun K hK => ?_
  refine skip_ (by rfl) rfl (w1 := w10.setCells bx 1 [.int .i64 (s.setCap hst an).now, .slice (some ⟨b5, 0, none⟩) (s.setCap hst an).n c5]) (run_stb (hHeldB.1.box) (q := 1) rfl rfl rfl (by kernel_rfl) (by simp) (o_cons rfl (o_cons rfl o_nil))) ?_
  refine hK.out _ _ ?_
  obtain ⟨hbo, hfar⟩ := hHeldB.1.refd (sr' := s.setCap hst an) HV.out
  have HBN := Lib.hid (And.intro hbo (show Bk (w10.setCells bx 1 [.int .i64 (s.setCap hst an).now, .slice (some ⟨b5, 0, none⟩) (s.setCap hst an).n c5]) g3 49 [.int .i64 4, .int .i64 hst, .int .i64 an, .int .i64 am, .int .u32 mk, .slice B1 B2 B3, .slice L1 L2 L3] from (hfar g3 HNE.out).trans hHeldB.2.1))
  generalize w10.setCells bx 1 [.int .i64 (s.setCap hst an).now, .slice (some ⟨b5, 0, none⟩) (s.setCap hst an).n c5] = w20 at HBN ⊢
  clear hK K hHeldB hbo hfar HV
  refine pu_ 16 5 (bm_ 17 0x1ffff) ?_
  refine done_ (by kernel_rfl) ?_
  clear HB1 HSA k0
  go_upto_region 17 with (fail)
  refine start_ (n := 12) (S := fun w' => Bk w' g3 49 [.int .i64 4, .int .i64 hst, .int .i64 an, .int .i64 am, .int .u32 mk, .slice B1 B2 B3, .slice L1 L2 L3] ∧ w'.cell? ⟨bx, 0, none⟩ = some (.pointer (some ⟨nb, 0, none⟩)) ∧ w'.cell? ⟨g3, 1, none⟩ = some (.int .i64 hst) ∧ w'.cell? ⟨g3, 2, none⟩ = some (.int .i64 an)) (ds := [10]) #[false, false, false, false, false, false, false, false, false, false, false, false] (by kernel_rfl) rfl rfl (HSC.out _ (HBN.out.1.drew).box (HBN.out.2.below (Below.refl _ _).drew)) (fun hHeld => ?_)
  refine pu_ 0 131 (bm_ 12 0x1) ?_
  refine pu_ 1 132 (bm_ 12 0x3) ?_
  refine pu_ 2 133 (bm_ 12 0x7) ?_
  refine tk_ 3 134 (bm_ 12 0xf) hHeld ?_
  refine pu_ 4 135 (bm_ 12 0x1f) ?_
  refine tk_ 5 136 (bm_ 12 0x3f) hHeld ?_
  refine pu_ 6 137 (bm_ 12 0x7f) ?_
  refine tk_ 7 138 (bm_ 12 0xff) hHeld ?_
  refine pu_ 9 140 (bm_ 12 0x2ff) ?_
  refine on_ 8 (some 139) (bm_ 12 0x3ff) fun K hK => ?_
  refine gd_ Tryd.func20 (capB HBN.out.1.drew hst an) ?_
  rintro e w11 ⟨ev, rfl, he2, hbo, hkp⟩
  refine ⟨_, rfl, ?_⟩
  have hA11 : Bk w11 g3 49 [.int .i64 4, .int .i64 hst, .int .i64 an, .int .i64 am, .int .u32 mk, .slice B1 B2 B3, .slice L1 L2 L3] := (HBN.out.2.below (Below.refl _ _).drew).kp hkp (by decide)
  have hS11 := HSC.out _ hbo.box hA11
  have HE := Lib.hid he2
  have HB2 := Lib.hid hbo
  clear he2 hbo hkp hA11
  refine hK.out _ _ hS11 (fun hHeldB => ?_)
  clear hK K hHeld hS11
  refine nm_ 139 ?_
  refine la_ 10 (some 141) (bm_ 12 0x7ff) fun K hK => ?_
  refine gd_ Tryd.func11 (Tells.tells.calls ev _ (s.capE hst an) { data := #[109, 110, 101, 116, 46, 67, 97, 112, 97, 99, 105, 116, 121] } true _ HE.out (Glob_below HG.out HB2.out.net.bel) (tells_er capacityN _)) ?_
  rintro e w12 ⟨rfl, hb⟩
  refine ⟨_, rfl, ?_⟩
  have HB3 := Lib.hid (HB2.out.below hb)
  clear hb
  refine hK.out _ _ ?_
  clear hK K hHeldB HB2 HE
  refine nm_ 141 ?_
  refine pu_ 11 4 (bm_ 12 0xfff) ?_
  refine done_ (by kernel_rfl) ?_
  clear HBN HSC
  go_wp2
  go_ret
  exact ⟨rfl, b5, c5, HB3.out⟩

end
section
open Go.RowKit Go.Deep Go.Proofs.YtpfpdbbgiimnmaaDoor.Er Go.Proofs.YtpfpdbbgiimnmaaDoor.As Go.Proofs.YtpfpdbbgiimnmaaDoor.Mod Go.Proofs.YtpfpdbbgiimnmaaDoorW.PrintWords Go.Proofs.YtpfpdbbgiimnmaaDoorW.PrintLast
set_option maxHeartbeats 8000000 in
set_option maxRecDepth 100000 in
theorem step_6 {W : World} {bx nb hb b c : Nat} {s : Nt} {w : World} {L : Nat} (h : BO W bx nb hb b c s s w) (hg : Glob W) (hst an am mk : Int) (B1 : Option Addr) (B2 B3 : Nat) (L1 : Option Addr) (L2 L3 : Nat) (hW : Wm s (L + 1)) : Calls Tryd.prog 14 #[.pointer (some ⟨bx, 0, none⟩), .agg #[.int .i64 6, .int .i64 hst, .int .i64 an, .int .i64 am, .int .u32 mk, .slice B1 B2 B3, .slice L1 L2 L3]] w fun e w' => e = .returned (.bool true) ∧ ∃ b' c', BO W bx nb hb b' c' (s.tick) (s.tick) w' := by
  obtain ⟨g3, hg3⟩ : ∃ g, g = w.heap.size := ⟨_, rfl⟩
  have HNE : Hid (g3 ≠ bx) := Lib.hid (fun e => absurd h.box.lt (by rw [← e, hg3]; exact Nat.lt_irrefl _))
  have HG := Lib.hid hg
  have HW := Lib.hid hW
  have HW1 : Hid (∀ w1, w1 = w.alloc (.cells #[.int .i64 6, .int .i64 hst, .int .i64 an, .int .i64 am, .int .u32 mk, .slice B1 B2 B3, .slice L1 L2 L3] 49) → BO W bx nb hb b c s s w1 ∧ Bk w1 w.heap.size 49 [.int .i64 6, .int .i64 hst, .int .i64 an, .int .i64 am, .int .u32 mk, .slice B1 B2 B3, .slice L1 L2 L3]) := Lib.hid (by
    rintro w1 rfl
    exact ⟨h.below ((Below.refl _ _).alloc (Nat.le_refl _) _), bk_alloc _ _ _⟩)
  have HSA : Hid (∀ w', BO W bx nb hb b c (s) (s) w' → Bk w' g3 49 [.int .i64 6, .int .i64 hst, .int .i64 an, .int .i64 am, .int .u32 mk, .slice B1 B2 B3, .slice L1 L2 L3] → BO W bx nb hb b c (s) (s) w' ∧ Bk w' g3 49 [.int .i64 6, .int .i64 hst, .int .i64 an, .int .i64 am, .int .u32 mk, .slice B1 B2 B3, .slice L1 L2 L3] ∧ Glob w' ∧ w'.cell? ⟨bx, 0, none⟩ = some (.pointer (some ⟨nb, 0, none⟩))) := Lib.hid (fun w' h1 h2 => ⟨h1, h2, Glob_below HG.out h1.net.bel, h1.box.cell 0⟩)
  have HSC : Hid (∀ w' {p q : Value}, Bk w' bx 45 [.pointer (some ⟨nb, 0, none⟩), p, q] → Bk w' g3 49 [.int .i64 6, .int .i64 hst, .int .i64 an, .int .i64 am, .int .u32 mk, .slice B1 B2 B3, .slice L1 L2 L3] → Bk w' g3 49 [.int .i64 6, .int .i64 hst, .int .i64 an, .int .i64 am, .int .u32 mk, .slice B1 B2 B3, .slice L1 L2 L3] ∧ w'.cell? ⟨bx, 0, none⟩ = some (.pointer (some ⟨nb, 0, none⟩))) := Lib.hid (fun w' _ _ h1 h2 => ⟨h2, h1.cell 0⟩)
  clear h hg hW
  go_enter Tryd.func14, Tryd.ntmps14
  go_upto_region 1 with (fail)
  generalize hw1 : w.alloc (.cells #[.int .i64 6, .int .i64 hst, .int .i64 an, .int .i64 am, .int .u32 mk, .slice B1 B2 B3, .slice L1 L2 L3] 49) = w1
  obtain ⟨h1, h2⟩ := HW1.out w1 hw1.symm
  rw [← hg3] at h2 ⊢
  have k0 : w1.cell? ⟨g3, 0, none⟩ = some (.int .i64 6) := h2.cell 0
  have HB1 := Lib.hid (And.intro h1 h2)
  clear h1 h2 hw1 HW1 hg3
  go_upto_region 21 with (fail)
  have a0 : w1.cell? ⟨bx, 0, none⟩ = some (.pointer (some ⟨nb, 0, none⟩)) := HB1.out.1.box.cell 0
  have a1 : w1.cell? ⟨bx, 1, none⟩ = some (.int .i64 s.now) := HB1.out.1.box.cell 1
  have a2 : w1.cell? ⟨bx, 2, none⟩ = some (.slice (some ⟨b, 0, none⟩) s.n c) := HB1.out.1.box.cell 2
  go_upto_region 22 with (first
    | (go_at_call 42; refine (tick_r HB1.out.1.ref HB1.out.1.n16 HW.out.now).mono ?_; rintro e w10 ⟨v', rfl, hv, hb⟩; obtain ⟨b5, c5, rfl, _, _⟩ := hv.parts; have HV := Lib.hid hv; have HB2 := Lib.hid (And.intro (HB1.out.1.below hb) (HB1.out.2.below hb)); have e1 : w10.cell? ⟨bx, 1, none⟩ = some (.int .i64 s.now) := HB2.out.1.box.cell 1; have e2 : w10.cell? ⟨bx, 2, none⟩ = some (.slice (some ⟨b, 0, none⟩) s.n c) := HB2.out.1.box.cell 2; have f1 := HB2.out.1.box.frozen 1; have f2 := HB2.out.1.box.frozen 2; clear hb hv a0 a1 a2))
  have HB3 : Hid (BO W bx nb hb b5 c5 s.tick s ((w10.setCell ⟨bx, 1, none⟩ (.int .i64 s.tick.now)).setCell ⟨bx, 2, none⟩ (.slice (some ⟨b5, 0, none⟩) s.tick.n c5))) := Lib.hid (HB2.out.1.refd (sr' := s.tick) HV.out).1
  generalize (w10.setCell ⟨bx, 1, none⟩ (.int .i64 s.tick.now)).setCell ⟨bx, 2, none⟩ (.slice (some ⟨b5, 0, none⟩) s.tick.n c5) = w20 at HB3 ⊢
  clear e1 e2 f1 f2 HB2 HV
  have a0 : w20.cell? ⟨bx, 0, none⟩ = some (.pointer (some ⟨nb, 0, none⟩)) := HB3.out.box.cell 0
  go_wp2_with (first
    | (go_at_call 22; refine (tickB HB3.out HW.out).mono ?_; rintro e w11 ⟨rfl, hbo, _⟩; have HB4 := Lib.hid hbo; clear hbo))
  go_ret
  exact ⟨rfl, b5, c5, HB4.out⟩

end
section
open Go.RowKit Go.Deep Go.Proofs.YtpfpdbbgiimnmaaDoor.Er Go.Proofs.YtpfpdbbgiimnmaaDoor.As Go.Proofs.YtpfpdbbgiimnmaaDoor.Mod Go.Proofs.YtpfpdbbgiimnmaaDoorW.PrintWords Go.Proofs.YtpfpdbbgiimnmaaDoorW.PrintLast
theorem run_al {o : Oper} {a : Act} {W : World} {t : TypeId} {cs : List Value} (ho : o.op = .alloc t) (hr : ∀ W : World, (Instr.alloc t true (.tuple #[])).run Tryd.prog W = .ok (.pointer (some ⟨W.heap.size, 0, none⟩)) (W.alloc (.cells cs.toArray t (0, 0)))) : (execOp a.eval o).run Tryd.prog W = .ok (.value (.pointer (some ⟨W.heap.size, 0, none⟩))) (W.alloc (.cells cs.toArray t (0, 0))) := by
  unfold execOp
  simp only [ho, Sem.run_bind, hr W, Result.andThen_ok, Sem.run_pure]
theorem OutQ.kp {B : Nat} {w w' : World} {v : Value} {l : List (List Int)} (h : OutQ B w v l) (k : KP w w') : OutQ B w' v l := by
  obtain ⟨vs, h1, h2, h3⟩ := h
  refine ⟨vs, h1, own_keep h2 (fun b hb => ?_), fun p hp => (h3 p hp).keepT (fun i cur fr hc => k i cur _ fr hc (fun _ => by decide))⟩
  obtain ⟨_, cur, hc⟩ := own_at h2 hb
  exact k b cur _ _ hc (fun _ => by decide)
/-- A net is written into a box of one's own. -/
theorem BO.put {W : World} {bx nb hb b c : Nat} {sr sp : Nt} {w : World} (h : BO W bx nb hb b c sr sp w) {g : Nat} {cs : List Value} (hk : Bk w g 40 cs) (hg : W.heap.size ≤ g) (seg : List Value) : BO W bx nb hb b c sr sp (w.setCells g 0 seg) ∧ ∀ i, i ≠ g → (w.setCells g 0 seg).heap[i]? = w.heap[i]? := by
  obtain ⟨s1, s2, s3, s4, s5⟩ := setCells_blk w g seg 0
  have hbox := h.box
  have hkk := hk
  unfold Bk at hbox hkk
  refine ⟨⟨?_, h.ref.keep (fun k cur t hc ht => s5 k (fun e => ?_)), ?_, h.old⟩, s5⟩
  · have hne : bx ≠ g := by
      rintro rfl
      rw [hbox] at hkk
      cases hkk
    exact (s5 bx hne).trans h.box
  · subst e
    rw [hkk] at hc
    cases hc
    rcases ht with h | h | h <;> exact absurd h (by decide)
  · obtain ⟨bb, qv, h1, h2, h3⟩ := h.net
    have hf : Fr w (w.setCells g 0 seg) (fun k => k = g) := ⟨s2, s3, s4, by rw [s1]; exact Nat.le_refl _, fun k _ hk => s5 k hk⟩
    refine ⟨bb, qv, h1.keep (S := fun k => k = g) hf (fun k e hk1 => ?_) (fun k cur e _ hc => ?_) (fun k e _ => e), hf.below h2 h2.size (fun k e => by rw [e]; exact hg), h3⟩
    · subst e
      obtain ⟨cur, t, e1, e2⟩ := h1.kinds hk1
      rw [hkk] at e1
      cases e1
      rcases e2 with h | h | h <;> exact absurd h (by decide)
    · subst e
      rw [hkk] at hc
      cases hc
theorem taken_le {s : Nt} {L : Nat} (hs : Wm s L) (i : Int) : (s.taken i).length ≤ 5000000000000 := by
  unfold Nt.taken
  split
  · rename_i ha
    obtain ⟨k, rfl, hk⟩ := at_of ha
    have := hs.q k hk
    unfold dueNow
    rw [List.length_map, Int.toNat_natCast]
    have := List.length_filter_le (fun x => decide (x.due ≤ s.now)) (s.h k).q
    omega
  · simp
theorem takeB {W : World} {bx nb hb b c : Nat} {sr sp : Nt} {w : World} {L : Nat} (h : BO W bx nb hb b c sr sp w) (hs : Wm sp L) (i : Int) : Calls Tryd.prog 23 #[.pointer (some ⟨nb, 0, none⟩), .int .i64 i] w fun e w' => ∃ v, e = .returned v ∧ OutV w' v (sp.taken i) ∧ BO W bx nb hb b c sr (sp.take i) w' ∧ KP w w' := by
  have hby := h.bytes
  obtain ⟨bb, qv, h1, h2, h3⟩ := h.net
  have hc : Calls Tryd.prog 23 #[.pointer (some ⟨nb, 0, none⟩), .int .i64 i] w fun e w' => ∃ v, e = .returned v ∧ TakeP bb w nb hb sp.n qv (sp.take i) (sp.taken i) v w' := by
    by_cases ha : sp.at i = 0
    · obtain ⟨k, rfl, hk⟩ := at_of ha
      exact take_ok h1 k hk (by have := hs.q k hk; omega)
    · exact take_bad h1 i ha
  refine hc.mono ?_
  rintro e w' ⟨v, rfl, bb', qv', g1, g2, g3⟩
  refine ⟨v, rfl, g3.val (taken_le hs i) (fun x hx => ?_), h.step h1 h2 h3 ⟨bb', qv', g1, g2⟩ (take_n _ _)⟩
  unfold Nt.taken at hx
  split at hx
  · rename_i ha
    obtain ⟨k, rfl, hk⟩ := at_of ha
    rw [Int.toNat_natCast] at hx
    unfold dueNow at hx
    obtain ⟨y, hy, rfl⟩ := List.mem_map.1 hx
    exact (hby k hk y (List.mem_filter.1 hy).1).1
  · cases hx
set_option maxHeartbeats 8000000 in
set_option maxRecDepth 100000 in
theorem step_7 {W : World} {bx nb hb b c : Nat} {s : Nt} {w : World} {L : Nat} (h : BO W bx nb hb b c s s w) (hg : Glob W) (hst an am mk : Int) (B1 : Option Addr) (B2 B3 : Nat) (L1 : Option Addr) (L2 L3 : Nat) (hW : Wm s (L + 1)) : Calls Tryd.prog 14 #[.pointer (some ⟨bx, 0, none⟩), .agg #[.int .i64 7, .int .i64 hst, .int .i64 an, .int .i64 am, .int .u32 mk, .slice B1 B2 B3, .slice L1 L2 L3]] w fun e w' => e = .returned (.bool true) ∧ ∃ b' c', BO W bx nb hb b' c' (s.take hst) (s.take hst) w' := by
  obtain ⟨g3, hg3⟩ : ∃ g, g = w.heap.size := ⟨_, rfl⟩
  have HNE : Hid (g3 ≠ bx) := Lib.hid (fun e => absurd h.box.lt (by rw [← e, hg3]; exact Nat.lt_irrefl _))
  have HG := Lib.hid hg
  have HW := Lib.hid hW
  have HW1 : Hid (∀ w1, w1 = w.alloc (.cells #[.int .i64 7, .int .i64 hst, .int .i64 an, .int .i64 am, .int .u32 mk, .slice B1 B2 B3, .slice L1 L2 L3] 49) → BO W bx nb hb b c s s w1 ∧ Bk w1 w.heap.size 49 [.int .i64 7, .int .i64 hst, .int .i64 an, .int .i64 am, .int .u32 mk, .slice B1 B2 B3, .slice L1 L2 L3]) := Lib.hid (by
    rintro w1 rfl
    exact ⟨h.below ((Below.refl _ _).alloc (Nat.le_refl _) _), bk_alloc _ _ _⟩)
  have HSA : Hid (∀ w', BO W bx nb hb b c (s) (s) w' → Bk w' g3 49 [.int .i64 7, .int .i64 hst, .int .i64 an, .int .i64 am, .int .u32 mk, .slice B1 B2 B3, .slice L1 L2 L3] → BO W bx nb hb b c (s) (s) w' ∧ Bk w' g3 49 [.int .i64 7, .int .i64 hst, .int .i64 an, .int .i64 am, .int .u32 mk, .slice B1 B2 B3, .slice L1 L2 L3] ∧ Glob w' ∧ w'.cell? ⟨bx, 0, none⟩ = some (.pointer (some ⟨nb, 0, none⟩)) ∧ w'.cell? ⟨g3, 1, none⟩ = some (.int .i64 hst)) := Lib.hid (fun w' h1 h2 => ⟨h1, h2, Glob_below HG.out h1.net.bel, h1.box.cell 0, h2.cell 1⟩)
  have HSC : Hid (∀ w' {p q : Value}, Bk w' bx 45 [.pointer (some ⟨nb, 0, none⟩), p, q] → Bk w' g3 49 [.int .i64 7, .int .i64 hst, .int .i64 an, .int .i64 am, .int .u32 mk, .slice B1 B2 B3, .slice L1 L2 L3] → Bk w' g3 49 [.int .i64 7, .int .i64 hst, .int .i64 an, .int .i64 am, .int .u32 mk, .slice B1 B2 B3, .slice L1 L2 L3] ∧ w'.cell? ⟨bx, 0, none⟩ = some (.pointer (some ⟨nb, 0, none⟩)) ∧ w'.cell? ⟨g3, 1, none⟩ = some (.int .i64 hst)) := Lib.hid (fun w' _ _ h1 h2 => ⟨h2, h1.cell 0, h2.cell 1⟩)
  clear h hg hW
  go_enter Tryd.func14, Tryd.ntmps14
  go_upto_region 1 with (fail)
  generalize hw1 : w.alloc (.cells #[.int .i64 7, .int .i64 hst, .int .i64 an, .int .i64 am, .int .u32 mk, .slice B1 B2 B3, .slice L1 L2 L3] 49) = w1
  obtain ⟨h1, h2⟩ := HW1.out w1 hw1.symm
  rw [← hg3] at h2 ⊢
  have k0 : w1.cell? ⟨g3, 0, none⟩ = some (.int .i64 7) := h2.cell 0
  have HB1 := Lib.hid (And.intro h1 h2)
  clear h1 h2 hw1 HW1 hg3
  go_upto_region 24 with (fail)
  refine start_ (n := 13) (S := fun w' => BO W bx nb hb b c (s) (s) w' ∧ Bk w' g3 49 [.int .i64 7, .int .i64 hst, .int .i64 an, .int .i64 am, .int .u32 mk, .slice B1 B2 B3, .slice L1 L2 L3] ∧ Glob w' ∧ w'.cell? ⟨bx, 0, none⟩ = some (.pointer (some ⟨nb, 0, none⟩)) ∧ w'.cell? ⟨g3, 1, none⟩ = some (.int .i64 hst)) (ds := [11]) #[false, false, false, false, false, false, false, false, false, false, false, false, false] (by kernel_rfl) rfl rfl (HSA.out _ HB1.out.1.drew (HB1.out.2.below (Below.refl _ _).drew)) (fun hHeld => ?_)
  refine pu_ 0 167 (bm_ 13 0x1) ?_
  refine pu_ 1 168 (bm_ 13 0x3) ?_
  refine pu_ 2 169 (bm_ 13 0x7) ?_
  refine take_ (i := 3) (N := some 170) (v := .agg #[.int .i64 s.now, .slice (some ⟨b, 0, none⟩) s.n c]) (bm_ 13 0xf) rfl rfl (by kernel_rfl) (fun _ _ _ h => h) (Or.inl ⟨by rfl, fun w' hs => run_ldq hs.1.box (.tmp 169) rfl rfl⟩) hHeld rfl ?_
  refine nm_ 170 ?_
  refine pu_ 4 171 (bm_ 13 0x1f) ?_
  refine tk_ 5 172 (bm_ 13 0x3f) hHeld ?_
  refine join_ (σ := Nat × Nat × Nat × Value) 0 (bm_ 13 0x1fff) (fun z => [(173, .tuple #[.agg #[.int .i64 (s.take hst).now, .slice (some ⟨z.2.1, 0, none⟩) (s.take hst).n z.2.2.1], z.2.2.2]), (166, .tuple #[.agg #[.int .i64 (s.take hst).now, .slice (some ⟨z.2.1, 0, none⟩) (s.take hst).n z.2.2.1], z.2.2.2]), (174, .agg #[.int .i64 (s.take hst).now, .slice (some ⟨z.2.1, 0, none⟩) (s.take hst).n z.2.2.1]), (175, z.2.2.2), (6, .pointer (some ⟨z.1, 0, none⟩)), (7, z.2.2.2)]) (fun z w' => BO W bx nb hb b c s s w' ∧ Bk w' g3 49 [.int .i64 7, .int .i64 hst, .int .i64 an, .int .i64 am, .int .u32 mk, .slice B1 B2 B3, .slice L1 L2 L3] ∧ Bk w' z.1 40 [.int .i64 (s.take hst).now, .slice (some ⟨z.2.1, 0, none⟩) (s.take hst).n z.2.2.1] ∧ z.1 ≠ bx ∧ NRef w' (.agg #[.int .i64 (s.take hst).now, .slice (some ⟨z.2.1, 0, none⟩) (s.take hst).n z.2.2.1]) (s.take hst) ∧ ∃ B, OutQ B w' z.2.2.2 (s.taken hst)) ?_ (fun hc => ?_)
  rotate_left
  · skip
    refine two_ (i := 6) (j := 10) (Ni := some 173) (Nj := some 6) (bm_ 13 0x7f) (bm_ 13 0x43f) rfl rfl rfl rfl (by kernel_rfl) (by decide) (by decide) (fun K hK => ?_) (fun K hK => ?_)
    · skip
      refine gd_ Tryd.func43 (take_r hHeld.1.ref hHeld.1.n16 (fun k hk => by have := HW.out.q k hk; omega) hHeld.1.bytes hst) ?_
      rintro e w10 ⟨v', vo, rfl, hv, hq, hbl⟩
      obtain ⟨b5, c5, rfl, _, _⟩ := hv.parts
      refine ⟨_, rfl, ?_⟩
      have hS10 := HSA.out _ (hHeld.1.below hbl) (hHeld.2.1.below hbl)
      have HV := Lib.hid hv
      have HO := Lib.hid hq
      clear hbl hv hq
      refine hK.out _ _ hS10 (fun hHeldB => ?_)
      clear hK K hS10
      refine nm_ 173 ?_
      refine pu_ 7 166 (bm_ 13 0xff) ?_
      refine pu_ 8 174 (bm_ 13 0x1ff) ?_
      refine pu_ 9 175 (bm_ 13 0x3ff) ?_
      refine on_ 10 (some 6) (bm_ 13 0x7ff) fun K hK => ?_
      refine value_ (by rfl) rfl (w1 := w10.alloc (.cells #[.int .i64 0, .slice none 0 0] 40)) (run_al (cs := [.int .i64 0, .slice none 0 0]) rfl al_T) ?_
      have hbA : Below w10.heap.size w10 (w10.alloc (.cells #[.int .i64 0, .slice none 0 0] 40)) := (Below.refl _ _).alloc (Nat.le_refl _) _
      have HAA : Hid (BO W bx nb hb b c s s (w10.alloc (.cells #[.int .i64 0, .slice none 0 0] 40)) ∧ Bk (w10.alloc (.cells #[.int .i64 0, .slice none 0 0] 40)) g3 49 [.int .i64 7, .int .i64 hst, .int .i64 an, .int .i64 am, .int .u32 mk, .slice B1 B2 B3, .slice L1 L2 L3] ∧ Bk (w10.alloc (.cells #[.int .i64 0, .slice none 0 0] 40)) w10.heap.size 40 [.int .i64 0, .slice none 0 0] ∧ NRef (w10.alloc (.cells #[.int .i64 0, .slice none 0 0] 40)) (.agg #[.int .i64 (s.take hst).now, .slice (some ⟨b5, 0, none⟩) (s.take hst).n c5]) (s.take hst) ∧ (∃ B, OutQ B (w10.alloc (.cells #[.int .i64 0, .slice none 0 0] 40)) vo (s.taken hst)) ∧ W.heap.size ≤ w10.heap.size ∧ w10.heap.size ≠ bx) := Lib.hid ⟨hHeldB.1.below hbA, hHeldB.2.1.below hbA, bk_alloc _ _ _, HV.out.below hbA, ⟨_, HO.out.below hbA⟩, hHeldB.1.net.bel.size, fun e => absurd hHeldB.1.box.lt (by rw [← e]; exact Nat.lt_irrefl _)⟩
      refine hK.out _ _ (HSA.out _ HAA.out.1 HAA.out.2.1) (fun _ => ?_)
      clear hK K hbA hHeldB HV HO
      refine nm_ 6 ?_
      generalize w10.alloc (.cells #[.int .i64 0, .slice none 0 0] 40) = w15 at HAA ⊢
      generalize w10.heap.size = gq at HAA ⊢
      refine la_ 11 none (bm_ 13 0xfff) fun K hK => ?_
      obtain ⟨q1, q2, q3, q4, ⟨B0, q5⟩, q6, q7⟩ := HAA.out
      obtain ⟨hp1, hp2⟩ := q1.put q3 q6 [.int .i64 (s.take hst).now, .slice (some ⟨b5, 0, none⟩) (s.take hst).n c5]
      refine skip_ (by rfl) rfl (w1 := w15.setCells gq 0 [.int .i64 (s.take hst).now, .slice (some ⟨b5, 0, none⟩) (s.take hst).n c5]) (run_stb q3 (q := 0) rfl rfl rfl (by kernel_rfl) (by simp) (o_cons rfl (o_cons rfl o_nil))) ?_
      refine hK.out _ _ ?_
      clear hK K
      refine pu_ 12 7 (bm_ 13 0x1fff) ?_
      refine norm_ ?_ (hc (gq, b5, c5, vo) _ ⟨hp1, (hp2 g3 (fun e => ?_)).trans q2, q3.seg [.int .i64 (s.take hst).now, .slice (some ⟨b5, 0, none⟩) (s.take hst).n c5] 0 (by simp), q7, q4.st ⟨q3, hp2⟩, B0, q5.st ⟨q3, hp2⟩ (by decide)⟩)
      · simp only [putAll, Act.put, List.setIfInBounds_toArray, List.set_cons_zero, List.set_cons_succ]
      · subst e
        have e1 := q2
        have e2 := q3
        unfold Bk at e1 e2
        rw [e1] at e2
        cases e2
    · skip
      refine value_ (by rfl) rfl (w1 := w1.drew.alloc (.cells #[.int .i64 0, .slice none 0 0] 40)) (run_al (cs := [.int .i64 0, .slice none 0 0]) rfl al_T) ?_
      have hbA : Below w1.drew.heap.size w1.drew (w1.drew.alloc (.cells #[.int .i64 0, .slice none 0 0] 40)) := (Below.refl _ _).alloc (Nat.le_refl _) _
      have HBB : Hid (BO W bx nb hb b c s s (w1.drew.alloc (.cells #[.int .i64 0, .slice none 0 0] 40)) ∧ Bk (w1.drew.alloc (.cells #[.int .i64 0, .slice none 0 0] 40)) g3 49 [.int .i64 7, .int .i64 hst, .int .i64 an, .int .i64 am, .int .u32 mk, .slice B1 B2 B3, .slice L1 L2 L3] ∧ Bk (w1.drew.alloc (.cells #[.int .i64 0, .slice none 0 0] 40)) w1.drew.heap.size 40 [.int .i64 0, .slice none 0 0] ∧ W.heap.size ≤ w1.drew.heap.size ∧ w1.drew.heap.size ≠ bx) := Lib.hid ⟨hHeld.1.below hbA, hHeld.2.1.below hbA, bk_alloc _ _ _, hHeld.1.net.bel.size, fun e => absurd hHeld.1.box.lt (by rw [← e]; exact Nat.lt_irrefl _)⟩
      refine hK.out _ _ (HSA.out _ HBB.out.1 HBB.out.2.1) (fun _ => ?_)
      clear hK K hbA
      refine nm_ 6 ?_
      generalize w1.drew.alloc (.cells #[.int .i64 0, .slice none 0 0] 40) = w14 at HBB ⊢
      generalize w1.drew.heap.size = gq at HBB ⊢
      refine on_ 6 (some 173) (bm_ 13 0x47f) fun K hK => ?_
      refine gd_ Tryd.func43 (take_r HBB.out.1.ref HBB.out.1.n16 (fun k hk => by have := HW.out.q k hk; omega) HBB.out.1.bytes hst) ?_
      rintro e w10 ⟨v', vo, rfl, hv, hq, hbl⟩
      obtain ⟨b5, c5, rfl, _, _⟩ := hv.parts
      refine ⟨_, rfl, ?_⟩
      have HAA : Hid (BO W bx nb hb b c s s w10 ∧ Bk w10 g3 49 [.int .i64 7, .int .i64 hst, .int .i64 an, .int .i64 am, .int .u32 mk, .slice B1 B2 B3, .slice L1 L2 L3] ∧ Bk w10 gq 40 [.int .i64 0, .slice none 0 0] ∧ NRef w10 (.agg #[.int .i64 (s.take hst).now, .slice (some ⟨b5, 0, none⟩) (s.take hst).n c5]) (s.take hst) ∧ (∃ B, OutQ B w10 vo (s.taken hst)) ∧ W.heap.size ≤ gq ∧ gq ≠ bx) := Lib.hid ⟨HBB.out.1.below hbl, HBB.out.2.1.below hbl, HBB.out.2.2.1.below hbl, hv, ⟨_, hq⟩, HBB.out.2.2.2⟩
      clear hbl hv hq
      refine hK.out _ _ (HSA.out _ HAA.out.1 HAA.out.2.1) (fun _ => ?_)
      clear hK K HBB
      refine nm_ 173 ?_
      refine pu_ 7 166 (bm_ 13 0x4ff) ?_
      refine pu_ 8 174 (bm_ 13 0x5ff) ?_
      refine pu_ 9 175 (bm_ 13 0x7ff) ?_
      generalize w10 = w15 at HAA ⊢
      refine la_ 11 none (bm_ 13 0xfff) fun K hK => ?_
      obtain ⟨q1, q2, q3, q4, ⟨B0, q5⟩, q6, q7⟩ := HAA.out
      obtain ⟨hp1, hp2⟩ := q1.put q3 q6 [.int .i64 (s.take hst).now, .slice (some ⟨b5, 0, none⟩) (s.take hst).n c5]
      refine skip_ (by rfl) rfl (w1 := w15.setCells gq 0 [.int .i64 (s.take hst).now, .slice (some ⟨b5, 0, none⟩) (s.take hst).n c5]) (run_stb q3 (q := 0) rfl rfl rfl (by kernel_rfl) (by simp) (o_cons rfl (o_cons rfl o_nil))) ?_
      refine hK.out _ _ ?_
      clear hK K
      refine pu_ 12 7 (bm_ 13 0x1fff) ?_
      refine norm_ ?_ (hc (gq, b5, c5, vo) _ ⟨hp1, (hp2 g3 (fun e => ?_)).trans q2, q3.seg [.int .i64 (s.take hst).now, .slice (some ⟨b5, 0, none⟩) (s.take hst).n c5] 0 (by simp), q7, q4.st ⟨q3, hp2⟩, B0, q5.st ⟨q3, hp2⟩ (by decide)⟩)
      · simp only [putAll, Act.put, List.setIfInBounds_toArray, List.set_cons_zero, List.set_cons_succ]
      · subst e
        have e1 := q2
        have e2 := q3
        unfold Bk at e1 e2
        rw [e1] at e2
        cases e2
  rintro ⟨gq, b5, c5, vo⟩ w20 hF
  refine norm_ (a' := ?_) ?_ ?_
  rotate_left
  · simp only [putAll, Act.put, List.setIfInBounds_toArray, List.set_cons_zero, List.set_cons_succ]
    rfl
  refine done_ (by kernel_rfl) ?_
  obtain ⟨hbo, hac, hgq, hne, hv, B0, ho⟩ := hF
  dsimp only at hbo hac hgq hne hv ho
  have HF := Lib.hid (And.intro hbo (And.intro hac (And.intro hv ho)))
  have a1 : w20.cell? ⟨bx, 1, none⟩ = some (.int .i64 s.now) := hbo.box.cell 1
  have a2 : w20.cell? ⟨bx, 2, none⟩ = some (.slice (some ⟨b, 0, none⟩) s.n c) := hbo.box.cell 2
  have f1 := hbo.box.frozen 1
  have f2 := hbo.box.frozen 2
  have e0 : w20.cell? ⟨gq, 0, none⟩ = some (.int .i64 (s.take hst).now) := hgq.cell 0
  have e1 : w20.cell? ⟨gq, 1, none⟩ = some (.slice (some ⟨b5, 0, none⟩) (s.take hst).n c5) := hgq.cell 1
  clear hbo hac hgq hne hv ho HB1 HSA k0
  go_upto_region 26 with (fail)
  have HBN : Hid (BO W bx nb hb b5 c5 (s.take hst) s ((w20.setCell ⟨bx, 1, none⟩ (.int .i64 (s.take hst).now)).setCell ⟨bx, 2, none⟩ (.slice (some ⟨b5, 0, none⟩) (s.take hst).n c5)) ∧ Bk ((w20.setCell ⟨bx, 1, none⟩ (.int .i64 (s.take hst).now)).setCell ⟨bx, 2, none⟩ (.slice (some ⟨b5, 0, none⟩) (s.take hst).n c5)) g3 49 [.int .i64 7, .int .i64 hst, .int .i64 an, .int .i64 am, .int .u32 mk, .slice B1 B2 B3, .slice L1 L2 L3]) := Lib.hid (by
    obtain ⟨h1, h2⟩ := HF.out.1.refd (sr' := s.take hst) HF.out.2.2.1
    exact ⟨h1, (h2 g3 HNE.out).trans HF.out.2.1⟩)
  have HO : Hid (OutQ B0 ((w20.setCell ⟨bx, 1, none⟩ (.int .i64 (s.take hst).now)).setCell ⟨bx, 2, none⟩ (.slice (some ⟨b5, 0, none⟩) (s.take hst).n c5)) vo (s.taken hst)) := Lib.hid (by
    obtain ⟨h1, h2⟩ := HF.out.1.refd (sr' := s.take hst) HF.out.2.2.1
    exact HF.out.2.2.2.st ⟨HF.out.1.box, h2⟩ (by decide))
  generalize (w20.setCell ⟨bx, 1, none⟩ (.int .i64 (s.take hst).now)).setCell ⟨bx, 2, none⟩ (.slice (some ⟨b5, 0, none⟩) (s.take hst).n c5) = w30 at HBN HO ⊢
  clear a1 a2 f1 f2 e0 e1 HF
  refine start_ (n := 10) (S := fun w' => Bk w' g3 49 [.int .i64 7, .int .i64 hst, .int .i64 an, .int .i64 am, .int .u32 mk, .slice B1 B2 B3, .slice L1 L2 L3] ∧ w'.cell? ⟨bx, 0, none⟩ = some (.pointer (some ⟨nb, 0, none⟩)) ∧ w'.cell? ⟨g3, 1, none⟩ = some (.int .i64 hst)) (ds := [8]) #[false, false, false, false, false, false, false, false, false, false] (by kernel_rfl) rfl rfl (HSC.out _ (HBN.out.1.drew).box (HBN.out.2.below (Below.refl _ _).drew)) (fun hHeld => ?_)
  refine pu_ 0 180 (bm_ 10 0x1) ?_
  refine pu_ 1 181 (bm_ 10 0x3) ?_
  refine pu_ 2 182 (bm_ 10 0x7) ?_
  refine tk_ 3 183 (bm_ 10 0xf) hHeld ?_
  refine pu_ 4 184 (bm_ 10 0x1f) ?_
  refine tk_ 5 185 (bm_ 10 0x3f) hHeld ?_
  refine pu_ 7 187 (bm_ 10 0xbf) ?_
  refine on_ 6 (some 186) (bm_ 10 0xff) fun K hK => ?_
  refine gd_ Tryd.func23 (takeB HBN.out.1.drew HW.out hst) ?_
  rintro e w11 ⟨v, rfl, hov, hbo, hkp⟩
  refine ⟨_, rfl, ?_⟩
  have hA11 : Bk w11 g3 49 [.int .i64 7, .int .i64 hst, .int .i64 an, .int .i64 am, .int .u32 mk, .slice B1 B2 B3, .slice L1 L2 L3] := (HBN.out.2.below (Below.refl _ _).drew).kp hkp (by decide)
  have hS11 := HSC.out _ hbo.box hA11
  have HOQ : Hid (OutV w11 vo (s.taken hst)) := Lib.hid (((HO.out.below (Below.refl _ _).drew).kp hkp).outV (taken_le HW.out hst))
  have HOV := Lib.hid hov
  have HB2 := Lib.hid hbo
  clear hov hbo hkp hA11
  refine hK.out _ _ hS11 (fun hHeldB => ?_)
  clear hK K hHeld hS11
  refine nm_ 186 ?_
  refine la_ 8 (some 188) (bm_ 10 0x1ff) fun K hK => ?_
  refine gd_ Tryd.func44 (same_calls w11 v vo (s.taken hst) HOV.out HOQ.out) ?_
  rintro e w12 ⟨rfl, hb⟩
  refine ⟨_, rfl, ?_⟩
  have HB3 := Lib.hid (HB2.out.below hb)
  clear hb
  refine hK.out _ _ ?_
  clear hK K hHeldB HB2 HOV HOQ
  refine nm_ 188 ?_
  refine pu_ 9 4 (bm_ 10 0x3ff) ?_
  refine done_ (by kernel_rfl) ?_
  clear HBN HSC HO
  go_wp2
  go_ret
  exact ⟨rfl, b5, c5, HB3.out⟩

end
section
open Go.RowKit Go.Deep Go.Proofs.YtpfpdbbgiimnmaaDoor.Er Go.Proofs.YtpfpdbbgiimnmaaDoor.As Go.Proofs.YtpfpdbbgiimnmaaDoor.Mod Go.Proofs.YtpfpdbbgiimnmaaDoorW.PrintWords Go.Proofs.YtpfpdbbgiimnmaaDoorW.PrintLast
set_option maxHeartbeats 8000000 in
set_option maxRecDepth 100000 in
theorem spoils_8 {W : World} {bx nb hb b c : Nat} {s : Nt} {w : World} {L : Nat} (h : BO W bx nb hb b c s s w) (hg : Glob W) (hst an am mk : Int) (B1 : Option Addr) (B2 B3 : Nat) (L1 : Option Addr) (L2 L3 : Nat) (hW : Wm s (L + 1)) : Calls Tryd.prog 45 #[.pointer (some ⟨bx, 0, none⟩), .agg #[.int .i64 8, .int .i64 hst, .int .i64 an, .int .i64 am, .int .u32 mk, .slice B1 B2 B3, .slice L1 L2 L3]] w fun e w' => e = .returned (.bool true) ∧ ∃ b' c', BO W bx nb hb b' c' (s.drop hst an) (s.drop hst an) w' := by
  obtain ⟨g3, hg3⟩ : ∃ g, g = w.heap.size := ⟨_, rfl⟩
  have HNE : Hid (g3 ≠ bx) := Lib.hid (fun e => absurd h.box.lt (by rw [← e, hg3]; exact Nat.lt_irrefl _))
  have HG := Lib.hid hg
  have HW := Lib.hid hW
  have HW1 : Hid (∀ w1, w1 = w.alloc (.cells #[.int .i64 8, .int .i64 hst, .int .i64 an, .int .i64 am, .int .u32 mk, .slice B1 B2 B3, .slice L1 L2 L3] 49) → BO W bx nb hb b c s s w1 ∧ Bk w1 w.heap.size 49 [.int .i64 8, .int .i64 hst, .int .i64 an, .int .i64 am, .int .u32 mk, .slice B1 B2 B3, .slice L1 L2 L3]) := Lib.hid (by
    rintro w1 rfl
    exact ⟨h.below ((Below.refl _ _).alloc (Nat.le_refl _) _), bk_alloc _ _ _⟩)
  have HSA : Hid (∀ w', BO W bx nb hb b c (s) (s) w' → Bk w' g3 49 [.int .i64 8, .int .i64 hst, .int .i64 an, .int .i64 am, .int .u32 mk, .slice B1 B2 B3, .slice L1 L2 L3] → BO W bx nb hb b c (s) (s) w' ∧ Bk w' g3 49 [.int .i64 8, .int .i64 hst, .int .i64 an, .int .i64 am, .int .u32 mk, .slice B1 B2 B3, .slice L1 L2 L3] ∧ Glob w' ∧ w'.cell? ⟨bx, 0, none⟩ = some (.pointer (some ⟨nb, 0, none⟩)) ∧ w'.cell? ⟨g3, 1, none⟩ = some (.int .i64 hst) ∧ w'.cell? ⟨g3, 2, none⟩ = some (.int .i64 an)) := Lib.hid (fun w' h1 h2 => ⟨h1, h2, Glob_below HG.out h1.net.bel, h1.box.cell 0, h2.cell 1, h2.cell 2⟩)
  have HSC : Hid (∀ w' {p q : Value}, Bk w' bx 45 [.pointer (some ⟨nb, 0, none⟩), p, q] → Bk w' g3 49 [.int .i64 8, .int .i64 hst, .int .i64 an, .int .i64 am, .int .u32 mk, .slice B1 B2 B3, .slice L1 L2 L3] → Bk w' g3 49 [.int .i64 8, .int .i64 hst, .int .i64 an, .int .i64 am, .int .u32 mk, .slice B1 B2 B3, .slice L1 L2 L3] ∧ w'.cell? ⟨bx, 0, none⟩ = some (.pointer (some ⟨nb, 0, none⟩)) ∧ w'.cell? ⟨g3, 1, none⟩ = some (.int .i64 hst) ∧ w'.cell? ⟨g3, 2, none⟩ = some (.int .i64 an)) := Lib.hid (fun w' _ _ h1 h2 => ⟨h2, h1.cell 0, h2.cell 1, h2.cell 2⟩)
  clear h hg hW
  go_enter Tryd.func45, Tryd.ntmps45
  go_upto_region 1 with (fail)
  generalize hw1 : w.alloc (.cells #[.int .i64 8, .int .i64 hst, .int .i64 an, .int .i64 am, .int .u32 mk, .slice B1 B2 B3, .slice L1 L2 L3] 49) = w1
  obtain ⟨h1, h2⟩ := HW1.out w1 hw1.symm
  rw [← hg3] at h2 ⊢
  have k0 : w1.cell? ⟨g3, 0, none⟩ = some (.int .i64 8) := h2.cell 0
  have HB1 := Lib.hid (And.intro h1 h2)
  clear h1 h2 hw1 HW1 hg3
  go_upto_region 4 with (fail)
  refine start_ (n := 17) (S := fun w' => BO W bx nb hb b c (s) (s) w' ∧ Bk w' g3 49 [.int .i64 8, .int .i64 hst, .int .i64 an, .int .i64 am, .int .u32 mk, .slice B1 B2 B3, .slice L1 L2 L3] ∧ Glob w' ∧ w'.cell? ⟨bx, 0, none⟩ = some (.pointer (some ⟨nb, 0, none⟩)) ∧ w'.cell? ⟨g3, 1, none⟩ = some (.int .i64 hst) ∧ w'.cell? ⟨g3, 2, none⟩ = some (.int .i64 an)) (ds := [15]) #[false, false, false, false, false, false, false, false, false, false, false, false, false, false, false, false, false] (by kernel_rfl) rfl rfl (HSA.out _ HB1.out.1.drew (HB1.out.2.below (Below.refl _ _).drew)) (fun hHeld => ?_)
  refine pu_ 0 14 (bm_ 17 0x1) ?_
  refine pu_ 1 15 (bm_ 17 0x3) ?_
  refine pu_ 2 16 (bm_ 17 0x7) ?_
  refine pu_ 3 17 (bm_ 17 0xf) ?_
  refine take_ (i := 4) (N := some 18) (v := .agg #[.int .i64 s.now, .slice (some ⟨b, 0, none⟩) s.n c]) (bm_ 17 0x1f) rfl rfl (by kernel_rfl) (fun _ _ _ h => h) (Or.inl ⟨by rfl, fun w' hs => run_ldq hs.1.box (.tmp 17) rfl rfl⟩) hHeld rfl ?_
  refine nm_ 18 ?_
  refine pu_ 5 19 (bm_ 17 0x3f) ?_
  refine tk_ 6 20 (bm_ 17 0x7f) hHeld ?_
  refine pu_ 7 21 (bm_ 17 0xff) ?_
  refine tk_ 8 22 (bm_ 17 0x1ff) hHeld ?_
  refine on_ 9 (some 23) (bm_ 17 0x3ff) fun K hK => ?_
  refine gd_ Tryd.func56 (drop_r hHeld.1.ref hHeld.1.n16 (fun k hk => by have := HW.out.q k hk; omega) hst an) ?_
  rintro e w10 ⟨v', rfl, hv, hb⟩
  obtain ⟨b5, c5, rfl, hc5, _⟩ := hv.parts
  refine ⟨_, rfl, ?_⟩
  have hS10 := HSA.out _ (hHeld.1.below hb) (hHeld.2.1.below hb)
  have HV := Lib.hid hv
  clear hb hv hc5
  refine hK.out _ _ hS10 (fun hHeldB => ?_)
  clear hK K hHeld hS10
  refine nm_ 23 ?_
  refine pu_ 10 13 (bm_ 17 0x7ff) ?_
  refine pu_ 11 24 (bm_ 17 0xfff) ?_
  refine pu_ 12 25 (bm_ 17 0x1fff) ?_
  refine pu_ 13 26 (bm_ 17 0x3fff) ?_
  refine pu_ 14 27 (bm_ 17 0x7fff) ?_
  refine la_ 15 none (bm_ 17 0xffff) fun K hK => ?_
  refine skip_ (by rfl) rfl (w1 := w10.setCells bx 1 [.int .i64 (s.drop hst an).now, .slice (some ⟨b5, 0, none⟩) (s.drop hst an).n c5]) (run_stb (hHeldB.1.box) (q := 1) rfl rfl rfl (by kernel_rfl) (by simp) (o_cons rfl (o_cons rfl o_nil))) ?_
  refine hK.out _ _ ?_
  obtain ⟨hbo, hfar⟩ := hHeldB.1.refd (sr' := s.drop hst an) HV.out
  have HBN := Lib.hid (And.intro hbo (show Bk (w10.setCells bx 1 [.int .i64 (s.drop hst an).now, .slice (some ⟨b5, 0, none⟩) (s.drop hst an).n c5]) g3 49 [.int .i64 8, .int .i64 hst, .int .i64 an, .int .i64 am, .int .u32 mk, .slice B1 B2 B3, .slice L1 L2 L3] from (hfar g3 HNE.out).trans hHeldB.2.1))
  generalize w10.setCells bx 1 [.int .i64 (s.drop hst an).now, .slice (some ⟨b5, 0, none⟩) (s.drop hst an).n c5] = w20 at HBN ⊢
  clear hK K hHeldB hbo hfar HV
  refine pu_ 16 5 (bm_ 17 0x1ffff) ?_
  refine done_ (by kernel_rfl) ?_
  clear HB1 HSA k0
  go_upto_region 5 with (fail)
  refine start_ (n := 12) (S := fun w' => Bk w' g3 49 [.int .i64 8, .int .i64 hst, .int .i64 an, .int .i64 am, .int .u32 mk, .slice B1 B2 B3, .slice L1 L2 L3] ∧ w'.cell? ⟨bx, 0, none⟩ = some (.pointer (some ⟨nb, 0, none⟩)) ∧ w'.cell? ⟨g3, 1, none⟩ = some (.int .i64 hst) ∧ w'.cell? ⟨g3, 2, none⟩ = some (.int .i64 an)) (ds := [10]) #[false, false, false, false, false, false, false, false, false, false, false, false] (by kernel_rfl) rfl rfl (HSC.out _ (HBN.out.1.drew).box (HBN.out.2.below (Below.refl _ _).drew)) (fun hHeld => ?_)
  refine pu_ 0 28 (bm_ 12 0x1) ?_
  refine pu_ 1 29 (bm_ 12 0x3) ?_
  refine pu_ 2 30 (bm_ 12 0x7) ?_
  refine tk_ 3 31 (bm_ 12 0xf) hHeld ?_
  refine pu_ 4 32 (bm_ 12 0x1f) ?_
  refine tk_ 5 33 (bm_ 12 0x3f) hHeld ?_
  refine pu_ 6 34 (bm_ 12 0x7f) ?_
  refine tk_ 7 35 (bm_ 12 0xff) hHeld ?_
  refine pu_ 9 37 (bm_ 12 0x2ff) ?_
  refine on_ 8 (some 36) (bm_ 12 0x3ff) fun K hK => ?_
  refine gd_ Tryd.func24 (dropB HBN.out.1.drew hst an) ?_
  rintro e w11 ⟨ev, rfl, he2, hbo, hkp⟩
  refine ⟨_, rfl, ?_⟩
  have hA11 : Bk w11 g3 49 [.int .i64 8, .int .i64 hst, .int .i64 an, .int .i64 am, .int .u32 mk, .slice B1 B2 B3, .slice L1 L2 L3] := (HBN.out.2.below (Below.refl _ _).drew).kp hkp (by decide)
  have hS11 := HSC.out _ hbo.box hA11
  have HE := Lib.hid he2
  have HB2 := Lib.hid hbo
  clear he2 hbo hkp hA11
  refine hK.out _ _ hS11 (fun hHeldB => ?_)
  clear hK K hHeld hS11
  refine nm_ 36 ?_
  refine la_ 10 (some 38) (bm_ 12 0x7ff) fun K hK => ?_
  refine gd_ Tryd.func11 (Tells.tells.calls ev _ (s.placeE hst an) { data := #[109, 110, 101, 116, 46, 68, 114, 111, 112] } true _ HE.out (Glob_below HG.out HB2.out.net.bel) (tells_er dropN _)) ?_
  rintro e w12 ⟨rfl, hb⟩
  refine ⟨_, rfl, ?_⟩
  have HB3 := Lib.hid (HB2.out.below hb)
  clear hb
  refine hK.out _ _ ?_
  clear hK K hHeldB HB2 HE
  refine nm_ 38 ?_
  refine pu_ 11 4 (bm_ 12 0xfff) ?_
  refine done_ (by kernel_rfl) ?_
  clear HBN HSC
  go_wp2
  go_ret
  exact ⟨rfl, b5, c5, HB3.out⟩

set_option maxHeartbeats 8000000 in
set_option maxRecDepth 100000 in
theorem spoils_9 {W : World} {bx nb hb b c : Nat} {s : Nt} {w : World} {L : Nat} (h : BO W bx nb hb b c s s w) (hg : Glob W) (hst an am mk : Int) (B1 : Option Addr) (B2 B3 : Nat) (L1 : Option Addr) (L2 L3 : Nat) (hW : Wm s (L + 1)) : Calls Tryd.prog 45 #[.pointer (some ⟨bx, 0, none⟩), .agg #[.int .i64 9, .int .i64 hst, .int .i64 an, .int .i64 am, .int .u32 mk, .slice B1 B2 B3, .slice L1 L2 L3]] w fun e w' => e = .returned (.bool true) ∧ ∃ b' c', BO W bx nb hb b' c' (s.double hst an) (s.double hst an) w' := by
  obtain ⟨g3, hg3⟩ : ∃ g, g = w.heap.size := ⟨_, rfl⟩
  have HNE : Hid (g3 ≠ bx) := Lib.hid (fun e => absurd h.box.lt (by rw [← e, hg3]; exact Nat.lt_irrefl _))
  have HG := Lib.hid hg
  have HW := Lib.hid hW
  have HW1 : Hid (∀ w1, w1 = w.alloc (.cells #[.int .i64 9, .int .i64 hst, .int .i64 an, .int .i64 am, .int .u32 mk, .slice B1 B2 B3, .slice L1 L2 L3] 49) → BO W bx nb hb b c s s w1 ∧ Bk w1 w.heap.size 49 [.int .i64 9, .int .i64 hst, .int .i64 an, .int .i64 am, .int .u32 mk, .slice B1 B2 B3, .slice L1 L2 L3]) := Lib.hid (by
    rintro w1 rfl
    exact ⟨h.below ((Below.refl _ _).alloc (Nat.le_refl _) _), bk_alloc _ _ _⟩)
  have HSA : Hid (∀ w', BO W bx nb hb b c (s) (s) w' → Bk w' g3 49 [.int .i64 9, .int .i64 hst, .int .i64 an, .int .i64 am, .int .u32 mk, .slice B1 B2 B3, .slice L1 L2 L3] → BO W bx nb hb b c (s) (s) w' ∧ Bk w' g3 49 [.int .i64 9, .int .i64 hst, .int .i64 an, .int .i64 am, .int .u32 mk, .slice B1 B2 B3, .slice L1 L2 L3] ∧ Glob w' ∧ w'.cell? ⟨bx, 0, none⟩ = some (.pointer (some ⟨nb, 0, none⟩)) ∧ w'.cell? ⟨g3, 1, none⟩ = some (.int .i64 hst) ∧ w'.cell? ⟨g3, 2, none⟩ = some (.int .i64 an)) := Lib.hid (fun w' h1 h2 => ⟨h1, h2, Glob_below HG.out h1.net.bel, h1.box.cell 0, h2.cell 1, h2.cell 2⟩)
  have HSC : Hid (∀ w' {p q : Value}, Bk w' bx 45 [.pointer (some ⟨nb, 0, none⟩), p, q] → Bk w' g3 49 [.int .i64 9, .int .i64 hst, .int .i64 an, .int .i64 am, .int .u32 mk, .slice B1 B2 B3, .slice L1 L2 L3] → Bk w' g3 49 [.int .i64 9, .int .i64 hst, .int .i64 an, .int .i64 am, .int .u32 mk, .slice B1 B2 B3, .slice L1 L2 L3] ∧ w'.cell? ⟨bx, 0, none⟩ = some (.pointer (some ⟨nb, 0, none⟩)) ∧ w'.cell? ⟨g3, 1, none⟩ = some (.int .i64 hst) ∧ w'.cell? ⟨g3, 2, none⟩ = some (.int .i64 an)) := Lib.hid (fun w' _ _ h1 h2 => ⟨h2, h1.cell 0, h2.cell 1, h2.cell 2⟩)
  clear h hg hW
  go_enter Tryd.func45, Tryd.ntmps45
  go_upto_region 1 with (fail)
  generalize hw1 : w.alloc (.cells #[.int .i64 9, .int .i64 hst, .int .i64 an, .int .i64 am, .int .u32 mk, .slice B1 B2 B3, .slice L1 L2 L3] 49) = w1
  obtain ⟨h1, h2⟩ := HW1.out w1 hw1.symm
  rw [← hg3] at h2 ⊢
  have k0 : w1.cell? ⟨g3, 0, none⟩ = some (.int .i64 9) := h2.cell 0
  have HB1 := Lib.hid (And.intro h1 h2)
  clear h1 h2 hw1 HW1 hg3
  go_upto_region 7 with (fail)
  refine start_ (n := 17) (S := fun w' => BO W bx nb hb b c (s) (s) w' ∧ Bk w' g3 49 [.int .i64 9, .int .i64 hst, .int .i64 an, .int .i64 am, .int .u32 mk, .slice B1 B2 B3, .slice L1 L2 L3] ∧ Glob w' ∧ w'.cell? ⟨bx, 0, none⟩ = some (.pointer (some ⟨nb, 0, none⟩)) ∧ w'.cell? ⟨g3, 1, none⟩ = some (.int .i64 hst) ∧ w'.cell? ⟨g3, 2, none⟩ = some (.int .i64 an)) (ds := [15]) #[false, false, false, false, false, false, false, false, false, false, false, false, false, false, false, false, false] (by kernel_rfl) rfl rfl (HSA.out _ HB1.out.1.drew (HB1.out.2.below (Below.refl _ _).drew)) (fun hHeld => ?_)
  refine pu_ 0 42 (bm_ 17 0x1) ?_
  refine pu_ 1 43 (bm_ 17 0x3) ?_
  refine pu_ 2 44 (bm_ 17 0x7) ?_
  refine pu_ 3 45 (bm_ 17 0xf) ?_
  refine take_ (i := 4) (N := some 46) (v := .agg #[.int .i64 s.now, .slice (some ⟨b, 0, none⟩) s.n c]) (bm_ 17 0x1f) rfl rfl (by kernel_rfl) (fun _ _ _ h => h) (Or.inl ⟨by rfl, fun w' hs => run_ldq hs.1.box (.tmp 45) rfl rfl⟩) hHeld rfl ?_
  refine nm_ 46 ?_
  refine pu_ 5 47 (bm_ 17 0x3f) ?_
  refine tk_ 6 48 (bm_ 17 0x7f) hHeld ?_
  refine pu_ 7 49 (bm_ 17 0xff) ?_
  refine tk_ 8 50 (bm_ 17 0x1ff) hHeld ?_
  refine on_ 9 (some 51) (bm_ 17 0x3ff) fun K hK => ?_
  refine gd_ Tryd.func57 (double_r hHeld.1.ref hHeld.1.n16 (fun k hk => by have := HW.out.q k hk; omega) hst an) ?_
  rintro e w10 ⟨v', rfl, hv, hb⟩
  obtain ⟨b5, c5, rfl, hc5, _⟩ := hv.parts
  refine ⟨_, rfl, ?_⟩
  have hS10 := HSA.out _ (hHeld.1.below hb) (hHeld.2.1.below hb)
  have HV := Lib.hid hv
  clear hb hv hc5
  refine hK.out _ _ hS10 (fun hHeldB => ?_)
  clear hK K hHeld hS10
  refine nm_ 51 ?_
  refine pu_ 10 41 (bm_ 17 0x7ff) ?_
  refine pu_ 11 52 (bm_ 17 0xfff) ?_
  refine pu_ 12 53 (bm_ 17 0x1fff) ?_
  refine pu_ 13 54 (bm_ 17 0x3fff) ?_
  refine pu_ 14 55 (bm_ 17 0x7fff) ?_
  refine la_ 15 none (bm_ 17 0xffff) fun K hK => ?_
  refine skip_ (by rfl) rfl (w1 := w10.setCells bx 1 [.int .i64 (s.double hst an).now, .slice (some ⟨b5, 0, none⟩) (s.double hst an).n c5]) (run_stb (hHeldB.1.box) (q := 1) rfl rfl rfl (by kernel_rfl) (by simp) (o_cons rfl (o_cons rfl o_nil))) ?_
  refine hK.out _ _ ?_
  obtain ⟨hbo, hfar⟩ := hHeldB.1.refd (sr' := s.double hst an) HV.out
  have HBN := Lib.hid (And.intro hbo (show Bk (w10.setCells bx 1 [.int .i64 (s.double hst an).now, .slice (some ⟨b5, 0, none⟩) (s.double hst an).n c5]) g3 49 [.int .i64 9, .int .i64 hst, .int .i64 an, .int .i64 am, .int .u32 mk, .slice B1 B2 B3, .slice L1 L2 L3] from (hfar g3 HNE.out).trans hHeldB.2.1))
  generalize w10.setCells bx 1 [.int .i64 (s.double hst an).now, .slice (some ⟨b5, 0, none⟩) (s.double hst an).n c5] = w20 at HBN ⊢
  clear hK K hHeldB hbo hfar HV
  refine pu_ 16 5 (bm_ 17 0x1ffff) ?_
  refine done_ (by kernel_rfl) ?_
  clear HB1 HSA k0
  go_upto_region 8 with (fail)
  refine start_ (n := 12) (S := fun w' => Bk w' g3 49 [.int .i64 9, .int .i64 hst, .int .i64 an, .int .i64 am, .int .u32 mk, .slice B1 B2 B3, .slice L1 L2 L3] ∧ w'.cell? ⟨bx, 0, none⟩ = some (.pointer (some ⟨nb, 0, none⟩)) ∧ w'.cell? ⟨g3, 1, none⟩ = some (.int .i64 hst) ∧ w'.cell? ⟨g3, 2, none⟩ = some (.int .i64 an)) (ds := [10]) #[false, false, false, false, false, false, false, false, false, false, false, false] (by kernel_rfl) rfl rfl (HSC.out _ (HBN.out.1.drew).box (HBN.out.2.below (Below.refl _ _).drew)) (fun hHeld => ?_)
  refine pu_ 0 56 (bm_ 12 0x1) ?_
  refine pu_ 1 57 (bm_ 12 0x3) ?_
  refine pu_ 2 58 (bm_ 12 0x7) ?_
  refine tk_ 3 59 (bm_ 12 0xf) hHeld ?_
  refine pu_ 4 60 (bm_ 12 0x1f) ?_
  refine tk_ 5 61 (bm_ 12 0x3f) hHeld ?_
  refine pu_ 6 62 (bm_ 12 0x7f) ?_
  refine tk_ 7 63 (bm_ 12 0xff) hHeld ?_
  refine pu_ 9 65 (bm_ 12 0x2ff) ?_
  refine on_ 8 (some 64) (bm_ 12 0x3ff) fun K hK => ?_
  refine gd_ Tryd.func9 (doubleB HBN.out.1.drew HW.out hst an) ?_
  rintro e w11 ⟨ev, rfl, he2, hbo, hkp⟩
  refine ⟨_, rfl, ?_⟩
  have hA11 : Bk w11 g3 49 [.int .i64 9, .int .i64 hst, .int .i64 an, .int .i64 am, .int .u32 mk, .slice B1 B2 B3, .slice L1 L2 L3] := (HBN.out.2.below (Below.refl _ _).drew).kp hkp (by decide)
  have hS11 := HSC.out _ hbo.box hA11
  have HE := Lib.hid he2
  have HB2 := Lib.hid hbo
  clear he2 hbo hkp hA11
  refine hK.out _ _ hS11 (fun hHeldB => ?_)
  clear hK K hHeld hS11
  refine nm_ 64 ?_
  refine la_ 10 (some 66) (bm_ 12 0x7ff) fun K hK => ?_
  refine gd_ Tryd.func11 (Tells.tells.calls ev _ (s.placeE hst an) { data := #[109, 110, 101, 116, 46, 68, 111, 117, 98, 108, 101] } true _ HE.out (Glob_below HG.out HB2.out.net.bel) (tells_er doubleN _)) ?_
  rintro e w12 ⟨rfl, hb⟩
  refine ⟨_, rfl, ?_⟩
  have HB3 := Lib.hid (HB2.out.below hb)
  clear hb
  refine hK.out _ _ ?_
  clear hK K hHeldB HB2 HE
  refine nm_ 66 ?_
  refine pu_ 11 4 (bm_ 12 0xfff) ?_
  refine done_ (by kernel_rfl) ?_
  clear HBN HSC
  go_wp2
  go_ret
  exact ⟨rfl, b5, c5, HB3.out⟩

set_option maxHeartbeats 8000000 in
set_option maxRecDepth 100000 in
theorem spoils_10 {W : World} {bx nb hb b c : Nat} {s : Nt} {w : World} {L : Nat} (h : BO W bx nb hb b c s s w) (hg : Glob W) (hst an am mk : Int) (B1 : Option Addr) (B2 B3 : Nat) (L1 : Option Addr) (L2 L3 : Nat) (hW : Wm s (L + 1)) : Calls Tryd.prog 45 #[.pointer (some ⟨bx, 0, none⟩), .agg #[.int .i64 10, .int .i64 hst, .int .i64 an, .int .i64 am, .int .u32 mk, .slice B1 B2 B3, .slice L1 L2 L3]] w fun e w' => e = .returned (.bool true) ∧ ∃ b' c', BO W bx nb hb b' c' (s.delay hst an am) (s.delay hst an am) w' := by
  obtain ⟨g3, hg3⟩ : ∃ g, g = w.heap.size := ⟨_, rfl⟩
  have HNE : Hid (g3 ≠ bx) := Lib.hid (fun e => absurd h.box.lt (by rw [← e, hg3]; exact Nat.lt_irrefl _))
  have HG := Lib.hid hg
  have HW := Lib.hid hW
  have HW1 : Hid (∀ w1, w1 = w.alloc (.cells #[.int .i64 10, .int .i64 hst, .int .i64 an, .int .i64 am, .int .u32 mk, .slice B1 B2 B3, .slice L1 L2 L3] 49) → BO W bx nb hb b c s s w1 ∧ Bk w1 w.heap.size 49 [.int .i64 10, .int .i64 hst, .int .i64 an, .int .i64 am, .int .u32 mk, .slice B1 B2 B3, .slice L1 L2 L3]) := Lib.hid (by
    rintro w1 rfl
    exact ⟨h.below ((Below.refl _ _).alloc (Nat.le_refl _) _), bk_alloc _ _ _⟩)
  have HSA : Hid (∀ w', BO W bx nb hb b c (s) (s) w' → Bk w' g3 49 [.int .i64 10, .int .i64 hst, .int .i64 an, .int .i64 am, .int .u32 mk, .slice B1 B2 B3, .slice L1 L2 L3] → BO W bx nb hb b c (s) (s) w' ∧ Bk w' g3 49 [.int .i64 10, .int .i64 hst, .int .i64 an, .int .i64 am, .int .u32 mk, .slice B1 B2 B3, .slice L1 L2 L3] ∧ Glob w' ∧ w'.cell? ⟨bx, 0, none⟩ = some (.pointer (some ⟨nb, 0, none⟩)) ∧ w'.cell? ⟨g3, 1, none⟩ = some (.int .i64 hst) ∧ w'.cell? ⟨g3, 2, none⟩ = some (.int .i64 an) ∧ w'.cell? ⟨g3, 3, none⟩ = some (.int .i64 am)) := Lib.hid (fun w' h1 h2 => ⟨h1, h2, Glob_below HG.out h1.net.bel, h1.box.cell 0, h2.cell 1, h2.cell 2, h2.cell 3⟩)
  have HSC : Hid (∀ w' {p q : Value}, Bk w' bx 45 [.pointer (some ⟨nb, 0, none⟩), p, q] → Bk w' g3 49 [.int .i64 10, .int .i64 hst, .int .i64 an, .int .i64 am, .int .u32 mk, .slice B1 B2 B3, .slice L1 L2 L3] → Bk w' g3 49 [.int .i64 10, .int .i64 hst, .int .i64 an, .int .i64 am, .int .u32 mk, .slice B1 B2 B3, .slice L1 L2 L3] ∧ w'.cell? ⟨bx, 0, none⟩ = some (.pointer (some ⟨nb, 0, none⟩)) ∧ w'.cell? ⟨g3, 1, none⟩ = some (.int .i64 hst) ∧ w'.cell? ⟨g3, 2, none⟩ = some (.int .i64 an) ∧ w'.cell? ⟨g3, 3, none⟩ = some (.int .i64 am)) := Lib.hid (fun w' _ _ h1 h2 => ⟨h2, h1.cell 0, h2.cell 1, h2.cell 2, h2.cell 3⟩)
  clear h hg hW
  go_enter Tryd.func45, Tryd.ntmps45
  go_upto_region 1 with (fail)
  generalize hw1 : w.alloc (.cells #[.int .i64 10, .int .i64 hst, .int .i64 an, .int .i64 am, .int .u32 mk, .slice B1 B2 B3, .slice L1 L2 L3] 49) = w1
  obtain ⟨h1, h2⟩ := HW1.out w1 hw1.symm
  rw [← hg3] at h2 ⊢
  have k0 : w1.cell? ⟨g3, 0, none⟩ = some (.int .i64 10) := h2.cell 0
  have HB1 := Lib.hid (And.intro h1 h2)
  clear h1 h2 hw1 HW1 hg3
  go_upto_region 10 with (fail)
  refine start_ (n := 19) (S := fun w' => BO W bx nb hb b c (s) (s) w' ∧ Bk w' g3 49 [.int .i64 10, .int .i64 hst, .int .i64 an, .int .i64 am, .int .u32 mk, .slice B1 B2 B3, .slice L1 L2 L3] ∧ Glob w' ∧ w'.cell? ⟨bx, 0, none⟩ = some (.pointer (some ⟨nb, 0, none⟩)) ∧ w'.cell? ⟨g3, 1, none⟩ = some (.int .i64 hst) ∧ w'.cell? ⟨g3, 2, none⟩ = some (.int .i64 an) ∧ w'.cell? ⟨g3, 3, none⟩ = some (.int .i64 am)) (ds := [17]) #[false, false, false, false, false, false, false, false, false, false, false, false, false, false, false, false, false, false, false] (by kernel_rfl) rfl rfl (HSA.out _ HB1.out.1.drew (HB1.out.2.below (Below.refl _ _).drew)) (fun hHeld => ?_)
  refine pu_ 0 70 (bm_ 19 0x1) ?_
  refine pu_ 1 71 (bm_ 19 0x3) ?_
  refine pu_ 2 72 (bm_ 19 0x7) ?_
  refine pu_ 3 73 (bm_ 19 0xf) ?_
  refine take_ (i := 4) (N := some 74) (v := .agg #[.int .i64 s.now, .slice (some ⟨b, 0, none⟩) s.n c]) (bm_ 19 0x1f) rfl rfl (by kernel_rfl) (fun _ _ _ h => h) (Or.inl ⟨by rfl, fun w' hs => run_ldq hs.1.box (.tmp 73) rfl rfl⟩) hHeld rfl ?_
  refine nm_ 74 ?_
  refine pu_ 5 75 (bm_ 19 0x3f) ?_
  refine tk_ 6 76 (bm_ 19 0x7f) hHeld ?_
  refine pu_ 7 77 (bm_ 19 0xff) ?_
  refine tk_ 8 78 (bm_ 19 0x1ff) hHeld ?_
  refine pu_ 9 79 (bm_ 19 0x3ff) ?_
  refine tk_ 10 80 (bm_ 19 0x7ff) hHeld ?_
  refine on_ 11 (some 81) (bm_ 19 0xfff) fun K hK => ?_
  refine gd_ Tryd.func58 (delay_r hHeld.1.ref hHeld.1.n16 (fun k hk => by have := HW.out.q k hk; omega) HW.out.due hst an am) ?_
  rintro e w10 ⟨v', rfl, hv, hb⟩
  obtain ⟨b5, c5, rfl, hc5, _⟩ := hv.parts
  refine ⟨_, rfl, ?_⟩
  have hS10 := HSA.out _ (hHeld.1.below hb) (hHeld.2.1.below hb)
  have HV := Lib.hid hv
  clear hb hv hc5
  refine hK.out _ _ hS10 (fun hHeldB => ?_)
  clear hK K hHeld hS10
  refine nm_ 81 ?_
  refine pu_ 12 69 (bm_ 19 0x1fff) ?_
  refine pu_ 13 82 (bm_ 19 0x3fff) ?_
  refine pu_ 14 83 (bm_ 19 0x7fff) ?_
  refine pu_ 15 84 (bm_ 19 0xffff) ?_
  refine pu_ 16 85 (bm_ 19 0x1ffff) ?_
  refine la_ 17 none (bm_ 19 0x3ffff) fun K hK => ?_
  refine skip_ (by rfl) rfl (w1 := w10.setCells bx 1 [.int .i64 (s.delay hst an am).now, .slice (some ⟨b5, 0, none⟩) (s.delay hst an am).n c5]) (run_stb (hHeldB.1.box) (q := 1) rfl rfl rfl (by kernel_rfl) (by simp) (o_cons rfl (o_cons rfl o_nil))) ?_
  refine hK.out _ _ ?_
  obtain ⟨hbo, hfar⟩ := hHeldB.1.refd (sr' := s.delay hst an am) HV.out
  have HBN := Lib.hid (And.intro hbo (show Bk (w10.setCells bx 1 [.int .i64 (s.delay hst an am).now, .slice (some ⟨b5, 0, none⟩) (s.delay hst an am).n c5]) g3 49 [.int .i64 10, .int .i64 hst, .int .i64 an, .int .i64 am, .int .u32 mk, .slice B1 B2 B3, .slice L1 L2 L3] from (hfar g3 HNE.out).trans hHeldB.2.1))
  generalize w10.setCells bx 1 [.int .i64 (s.delay hst an am).now, .slice (some ⟨b5, 0, none⟩) (s.delay hst an am).n c5] = w20 at HBN ⊢
  clear hK K hHeldB hbo hfar HV
  refine pu_ 18 5 (bm_ 19 0x7ffff) ?_
  refine done_ (by kernel_rfl) ?_
  clear HB1 HSA k0
  go_upto_region 11 with (fail)
  refine start_ (n := 14) (S := fun w' => Bk w' g3 49 [.int .i64 10, .int .i64 hst, .int .i64 an, .int .i64 am, .int .u32 mk, .slice B1 B2 B3, .slice L1 L2 L3] ∧ w'.cell? ⟨bx, 0, none⟩ = some (.pointer (some ⟨nb, 0, none⟩)) ∧ w'.cell? ⟨g3, 1, none⟩ = some (.int .i64 hst) ∧ w'.cell? ⟨g3, 2, none⟩ = some (.int .i64 an) ∧ w'.cell? ⟨g3, 3, none⟩ = some (.int .i64 am)) (ds := [12]) #[false, false, false, false, false, false, false, false, false, false, false, false, false, false] (by kernel_rfl) rfl rfl (HSC.out _ (HBN.out.1.drew).box (HBN.out.2.below (Below.refl _ _).drew)) (fun hHeld => ?_)
  refine pu_ 0 86 (bm_ 14 0x1) ?_
  refine pu_ 1 87 (bm_ 14 0x3) ?_
  refine pu_ 2 88 (bm_ 14 0x7) ?_
  refine tk_ 3 89 (bm_ 14 0xf) hHeld ?_
  refine pu_ 4 90 (bm_ 14 0x1f) ?_
  refine tk_ 5 91 (bm_ 14 0x3f) hHeld ?_
  refine pu_ 6 92 (bm_ 14 0x7f) ?_
  refine tk_ 7 93 (bm_ 14 0xff) hHeld ?_
  refine pu_ 8 94 (bm_ 14 0x1ff) ?_
  refine tk_ 9 95 (bm_ 14 0x3ff) hHeld ?_
  refine pu_ 11 97 (bm_ 14 0xbff) ?_
  refine on_ 10 (some 96) (bm_ 14 0xfff) fun K hK => ?_
  refine gd_ Tryd.func25 (delayB HBN.out.1.drew HW.out hst an am) ?_
  rintro e w11 ⟨ev, rfl, he2, hbo, hkp⟩
  refine ⟨_, rfl, ?_⟩
  have hA11 : Bk w11 g3 49 [.int .i64 10, .int .i64 hst, .int .i64 an, .int .i64 am, .int .u32 mk, .slice B1 B2 B3, .slice L1 L2 L3] := (HBN.out.2.below (Below.refl _ _).drew).kp hkp (by decide)
  have hS11 := HSC.out _ hbo.box hA11
  have HE := Lib.hid he2
  have HB2 := Lib.hid hbo
  clear he2 hbo hkp hA11
  refine hK.out _ _ hS11 (fun hHeldB => ?_)
  clear hK K hHeld hS11
  refine nm_ 96 ?_
  refine la_ 12 (some 98) (bm_ 14 0x1fff) fun K hK => ?_
  refine gd_ Tryd.func11 (Tells.tells.calls ev _ (s.delayE hst an am) { data := #[109, 110, 101, 116, 46, 68, 101, 108, 97, 121] } true _ HE.out (Glob_below HG.out HB2.out.net.bel) (tells_er delayN _)) ?_
  rintro e w12 ⟨rfl, hb⟩
  refine ⟨_, rfl, ?_⟩
  have HB3 := Lib.hid (HB2.out.below hb)
  clear hb
  refine hK.out _ _ ?_
  clear hK K hHeldB HB2 HE
  refine nm_ 98 ?_
  refine pu_ 13 4 (bm_ 14 0x3fff) ?_
  refine done_ (by kernel_rfl) ?_
  clear HBN HSC
  go_wp2
  go_ret
  exact ⟨rfl, b5, c5, HB3.out⟩

set_option maxHeartbeats 8000000 in
set_option maxRecDepth 100000 in
theorem spoils_11 {W : World} {bx nb hb b c : Nat} {s : Nt} {w : World} {L : Nat} (h : BO W bx nb hb b c s s w) (hg : Glob W) (hst an am mk : Int) (B1 : Option Addr) (B2 B3 : Nat) (L1 : Option Addr) (L2 L3 : Nat) (hW : Wm s (L + 1)) (ham : (-9223372036854775808 ≤ am ∧ am ≤ 9223372036854775807) ∧ (0 ≤ mk ∧ mk < 4294967296)) : Calls Tryd.prog 45 #[.pointer (some ⟨bx, 0, none⟩), .agg #[.int .i64 11, .int .i64 hst, .int .i64 an, .int .i64 am, .int .u32 mk, .slice B1 B2 B3, .slice L1 L2 L3]] w fun e w' => e = .returned (.bool true) ∧ ∃ b' c', BO W bx nb hb b' c' (s.spoil hst an am mk) (s.spoil hst an am mk) w' := by
  obtain ⟨g3, hg3⟩ : ∃ g, g = w.heap.size := ⟨_, rfl⟩
  have HNE : Hid (g3 ≠ bx) := Lib.hid (fun e => absurd h.box.lt (by rw [← e, hg3]; exact Nat.lt_irrefl _))
  have HG := Lib.hid hg
  have HW := Lib.hid hW
  have HAM := Lib.hid ham
  have HW1 : Hid (∀ w1, w1 = w.alloc (.cells #[.int .i64 11, .int .i64 hst, .int .i64 an, .int .i64 am, .int .u32 mk, .slice B1 B2 B3, .slice L1 L2 L3] 49) → BO W bx nb hb b c s s w1 ∧ Bk w1 w.heap.size 49 [.int .i64 11, .int .i64 hst, .int .i64 an, .int .i64 am, .int .u32 mk, .slice B1 B2 B3, .slice L1 L2 L3]) := Lib.hid (by
    rintro w1 rfl
    exact ⟨h.below ((Below.refl _ _).alloc (Nat.le_refl _) _), bk_alloc _ _ _⟩)
  have HSA : Hid (∀ w', BO W bx nb hb b c (s) (s) w' → Bk w' g3 49 [.int .i64 11, .int .i64 hst, .int .i64 an, .int .i64 am, .int .u32 mk, .slice B1 B2 B3, .slice L1 L2 L3] → BO W bx nb hb b c (s) (s) w' ∧ Bk w' g3 49 [.int .i64 11, .int .i64 hst, .int .i64 an, .int .i64 am, .int .u32 mk, .slice B1 B2 B3, .slice L1 L2 L3] ∧ Glob w' ∧ w'.cell? ⟨bx, 0, none⟩ = some (.pointer (some ⟨nb, 0, none⟩)) ∧ w'.cell? ⟨g3, 1, none⟩ = some (.int .i64 hst) ∧ w'.cell? ⟨g3, 2, none⟩ = some (.int .i64 an) ∧ w'.cell? ⟨g3, 3, none⟩ = some (.int .i64 am) ∧ w'.cell? ⟨g3, 4, none⟩ = some (.int .u32 mk)) := Lib.hid (fun w' h1 h2 => ⟨h1, h2, Glob_below HG.out h1.net.bel, h1.box.cell 0, h2.cell 1, h2.cell 2, h2.cell 3, h2.cell 4⟩)
  have HSC : Hid (∀ w' {p q : Value}, Bk w' bx 45 [.pointer (some ⟨nb, 0, none⟩), p, q] → Bk w' g3 49 [.int .i64 11, .int .i64 hst, .int .i64 an, .int .i64 am, .int .u32 mk, .slice B1 B2 B3, .slice L1 L2 L3] → Bk w' g3 49 [.int .i64 11, .int .i64 hst, .int .i64 an, .int .i64 am, .int .u32 mk, .slice B1 B2 B3, .slice L1 L2 L3] ∧ w'.cell? ⟨bx, 0, none⟩ = some (.pointer (some ⟨nb, 0, none⟩)) ∧ w'.cell? ⟨g3, 1, none⟩ = some (.int .i64 hst) ∧ w'.cell? ⟨g3, 2, none⟩ = some (.int .i64 an) ∧ w'.cell? ⟨g3, 3, none⟩ = some (.int .i64 am) ∧ w'.cell? ⟨g3, 4, none⟩ = some (.int .u32 mk)) := Lib.hid (fun w' _ _ h1 h2 => ⟨h2, h1.cell 0, h2.cell 1, h2.cell 2, h2.cell 3, h2.cell 4⟩)
  clear h hg hW ham
  go_enter Tryd.func45, Tryd.ntmps45
  go_upto_region 1 with (fail)
  generalize hw1 : w.alloc (.cells #[.int .i64 11, .int .i64 hst, .int .i64 an, .int .i64 am, .int .u32 mk, .slice B1 B2 B3, .slice L1 L2 L3] 49) = w1
  obtain ⟨h1, h2⟩ := HW1.out w1 hw1.symm
  rw [← hg3] at h2 ⊢
  have k0 : w1.cell? ⟨g3, 0, none⟩ = some (.int .i64 11) := h2.cell 0
  have HB1 := Lib.hid (And.intro h1 h2)
  clear h1 h2 hw1 HW1 hg3
  go_upto_region 13 with (fail)
  refine start_ (n := 21) (S := fun w' => BO W bx nb hb b c (s) (s) w' ∧ Bk w' g3 49 [.int .i64 11, .int .i64 hst, .int .i64 an, .int .i64 am, .int .u32 mk, .slice B1 B2 B3, .slice L1 L2 L3] ∧ Glob w' ∧ w'.cell? ⟨bx, 0, none⟩ = some (.pointer (some ⟨nb, 0, none⟩)) ∧ w'.cell? ⟨g3, 1, none⟩ = some (.int .i64 hst) ∧ w'.cell? ⟨g3, 2, none⟩ = some (.int .i64 an) ∧ w'.cell? ⟨g3, 3, none⟩ = some (.int .i64 am) ∧ w'.cell? ⟨g3, 4, none⟩ = some (.int .u32 mk)) (ds := [19]) #[false, false, false, false, false, false, false, false, false, false, false, false, false, false, false, false, false, false, false, false, false] (by kernel_rfl) rfl rfl (HSA.out _ HB1.out.1.drew (HB1.out.2.below (Below.refl _ _).drew)) (fun hHeld => ?_)
  refine pu_ 0 102 (bm_ 21 0x1) ?_
  refine pu_ 1 103 (bm_ 21 0x3) ?_
  refine pu_ 2 104 (bm_ 21 0x7) ?_
  refine pu_ 3 105 (bm_ 21 0xf) ?_
  refine take_ (i := 4) (N := some 106) (v := .agg #[.int .i64 s.now, .slice (some ⟨b, 0, none⟩) s.n c]) (bm_ 21 0x1f) rfl rfl (by kernel_rfl) (fun _ _ _ h => h) (Or.inl ⟨by rfl, fun w' hs => run_ldq hs.1.box (.tmp 105) rfl rfl⟩) hHeld rfl ?_
  refine nm_ 106 ?_
  refine pu_ 5 107 (bm_ 21 0x3f) ?_
  refine tk_ 6 108 (bm_ 21 0x7f) hHeld ?_
  refine pu_ 7 109 (bm_ 21 0xff) ?_
  refine tk_ 8 110 (bm_ 21 0x1ff) hHeld ?_
  refine pu_ 9 111 (bm_ 21 0x3ff) ?_
  refine tk_ 10 112 (bm_ 21 0x7ff) hHeld ?_
  refine pu_ 11 113 (bm_ 21 0xfff) ?_
  refine tk_ 12 114 (bm_ 21 0x1fff) hHeld ?_
  refine on_ 13 (some 115) (bm_ 21 0x3fff) fun K hK => ?_
  refine gd_ Tryd.func59 (spoil_r hHeld.1.ref hHeld.1.n16 (fun k hk => by have := HW.out.q k hk; omega) HB1.out.1.bytes hst an am mk HAM.out.1 HAM.out.2) ?_
  rintro e w10 ⟨v', rfl, hv, hb⟩
  obtain ⟨b5, c5, rfl, hc5, _⟩ := hv.parts
  refine ⟨_, rfl, ?_⟩
  have hS10 := HSA.out _ (hHeld.1.below hb) (hHeld.2.1.below hb)
  have HV := Lib.hid hv
  clear hb hv hc5
  refine hK.out _ _ hS10 (fun hHeldB => ?_)
  clear hK K hHeld hS10
  refine nm_ 115 ?_
  refine pu_ 14 101 (bm_ 21 0x7fff) ?_
  refine pu_ 15 116 (bm_ 21 0xffff) ?_
  refine pu_ 16 117 (bm_ 21 0x1ffff) ?_
  refine pu_ 17 118 (bm_ 21 0x3ffff) ?_
  refine pu_ 18 119 (bm_ 21 0x7ffff) ?_
  refine la_ 19 none (bm_ 21 0xfffff) fun K hK => ?_
  refine skip_ (by rfl) rfl (w1 := w10.setCells bx 1 [.int .i64 (s.spoil hst an am mk).now, .slice (some ⟨b5, 0, none⟩) (s.spoil hst an am mk).n c5]) (run_stb (hHeldB.1.box) (q := 1) rfl rfl rfl (by kernel_rfl) (by simp) (o_cons rfl (o_cons rfl o_nil))) ?_
  refine hK.out _ _ ?_
  obtain ⟨hbo, hfar⟩ := hHeldB.1.refd (sr' := s.spoil hst an am mk) HV.out
  have HBN := Lib.hid (And.intro hbo (show Bk (w10.setCells bx 1 [.int .i64 (s.spoil hst an am mk).now, .slice (some ⟨b5, 0, none⟩) (s.spoil hst an am mk).n c5]) g3 49 [.int .i64 11, .int .i64 hst, .int .i64 an, .int .i64 am, .int .u32 mk, .slice B1 B2 B3, .slice L1 L2 L3] from (hfar g3 HNE.out).trans hHeldB.2.1))
  generalize w10.setCells bx 1 [.int .i64 (s.spoil hst an am mk).now, .slice (some ⟨b5, 0, none⟩) (s.spoil hst an am mk).n c5] = w20 at HBN ⊢
  clear hK K hHeldB hbo hfar HV
  refine pu_ 20 5 (bm_ 21 0x1fffff) ?_
  refine done_ (by kernel_rfl) ?_
  clear HB1 HSA k0
  go_upto_region 14 with (fail)
  refine start_ (n := 16) (S := fun w' => Bk w' g3 49 [.int .i64 11, .int .i64 hst, .int .i64 an, .int .i64 am, .int .u32 mk, .slice B1 B2 B3, .slice L1 L2 L3] ∧ w'.cell? ⟨bx, 0, none⟩ = some (.pointer (some ⟨nb, 0, none⟩)) ∧ w'.cell? ⟨g3, 1, none⟩ = some (.int .i64 hst) ∧ w'.cell? ⟨g3, 2, none⟩ = some (.int .i64 an) ∧ w'.cell? ⟨g3, 3, none⟩ = some (.int .i64 am) ∧ w'.cell? ⟨g3, 4, none⟩ = some (.int .u32 mk)) (ds := [14]) #[false, false, false, false, false, false, false, false, false, false, false, false, false, false, false, false] (by kernel_rfl) rfl rfl (HSC.out _ (HBN.out.1.drew).box (HBN.out.2.below (Below.refl _ _).drew)) (fun hHeld => ?_)
  refine pu_ 0 120 (bm_ 16 0x1) ?_
  refine pu_ 1 121 (bm_ 16 0x3) ?_
  refine pu_ 2 122 (bm_ 16 0x7) ?_
  refine tk_ 3 123 (bm_ 16 0xf) hHeld ?_
  refine pu_ 4 124 (bm_ 16 0x1f) ?_
  refine tk_ 5 125 (bm_ 16 0x3f) hHeld ?_
  refine pu_ 6 126 (bm_ 16 0x7f) ?_
  refine tk_ 7 127 (bm_ 16 0xff) hHeld ?_
  refine pu_ 8 128 (bm_ 16 0x1ff) ?_
  refine tk_ 9 129 (bm_ 16 0x3ff) hHeld ?_
  refine pu_ 10 130 (bm_ 16 0x7ff) ?_
  refine tk_ 11 131 (bm_ 16 0xfff) hHeld ?_
  refine pu_ 13 133 (bm_ 16 0x2fff) ?_
  refine on_ 12 (some 132) (bm_ 16 0x3fff) fun K hK => ?_
  refine gd_ Tryd.func10 (spoilB' HBN.out.1.drew hst an am mk HAM.out.1 HAM.out.2) ?_
  rintro e w11 ⟨ev, rfl, he2, hbo, hkp⟩
  refine ⟨_, rfl, ?_⟩
  have hA11 : Bk w11 g3 49 [.int .i64 11, .int .i64 hst, .int .i64 an, .int .i64 am, .int .u32 mk, .slice B1 B2 B3, .slice L1 L2 L3] := (HBN.out.2.below (Below.refl _ _).drew).kp hkp (by decide)
  have hS11 := HSC.out _ hbo.box hA11
  have HE := Lib.hid he2
  have HB2 := Lib.hid hbo
  clear he2 hbo hkp hA11
  refine hK.out _ _ hS11 (fun hHeldB => ?_)
  clear hK K hHeld hS11
  refine nm_ 132 ?_
  refine la_ 14 (some 134) (bm_ 16 0x7fff) fun K hK => ?_
  refine gd_ Tryd.func11 (Tells.tells.calls ev _ (s.spoilE hst an am mk) { data := #[109, 110, 101, 116, 46, 83, 112, 111, 105, 108] } true _ HE.out (Glob_below HG.out HB2.out.net.bel) (tells_sp s hst an am mk)) ?_
  rintro e w12 ⟨rfl, hb⟩
  refine ⟨_, rfl, ?_⟩
  have HB3 := Lib.hid (HB2.out.below hb)
  clear hb
  refine hK.out _ _ ?_
  clear hK K hHeldB HB2 HE
  refine nm_ 134 ?_
  refine pu_ 15 4 (bm_ 16 0xffff) ?_
  refine done_ (by kernel_rfl) ?_
  clear HBN HSC
  go_wp2
  go_ret
  exact ⟨rfl, b5, c5, HB3.out⟩

end
section
open Go.RowKit Go.Deep Go.Proofs.YtpfpdbbgiimnmaaDoor.Er Go.Proofs.YtpfpdbbgiimnmaaDoor.As Go.Proofs.YtpfpdbbgiimnmaaDoor.Mod Go.Proofs.YtpfpdbbgiimnmaaDoorW.PrintWords Go.Proofs.YtpfpdbbgiimnmaaDoorW.PrintLast
def LP (W : World) (nb hb : Nat) (s : Nt) (P : Nat → Prop) (w : World) : Prop := ∃ bb qv, IsNet bb w nb hb qv s ∧ Below W.heap.size W w ∧ (∀ k, NB nb hb s.n qv k ∨ bb k → W.heap.size ≤ k) ∧ ∀ k, P k → k < w.heap.size ∧ ¬ NB nb hb s.n qv k ∧ ¬ bb k
theorem LP.ln {W : World} {nb hb : Nat} {s : Nt} {P : Nat → Prop} {w : World} (h : LP W nb hb s P w) : LN W nb hb s w := by
  obtain ⟨bb, qv, h1, h2, h3, _⟩ := h
  exact ⟨bb, qv, h1, h2, h3⟩
theorem LP.below {W : World} {nb hb : Nat} {s : Nt} {P : Nat → Prop} {w w' : World} (h : LP W nb hb s P w) (hb' : Below w.heap.size w w') : LP W nb hb s P w' := by
  obtain ⟨bb, qv, h1, h2, h3, h4⟩ := h
  exact ⟨bb, qv, h1.below hb', h2.trans (hb'.mono h2.size), h3, fun k hk => ⟨Nat.lt_of_lt_of_le (h4 k hk).1 hb'.size, (h4 k hk).2⟩⟩
/-- What has been made since is one's own. -/
theorem LN.own {W : World} {nb hb : Nat} {s : Nt} {w w' : World} (h : LN W nb hb s w) (hb' : Below w.heap.size w w') : LP W nb hb s (fun k => w.heap.size ≤ k ∧ k < w'.heap.size) w' := by
  obtain ⟨bb, qv, h1, h2, h3⟩ := h
  have hf : Fr w w' (fun _ => False) := ⟨hb'.os, hb'.tape, hb'.output, hb'.size, fun k hk _ => hb'.block k hk⟩
  refine ⟨fun k => bb k ∧ k < w.heap.size, qv, h1.keep (S := fun _ => False) hf (fun k e => e.elim) (fun k cur e => e.elim) (fun k e1 e2 => ⟨e1, e2⟩), h2.trans (hb'.mono h2.size), fun k hk => h3 k (hk.imp id (·.1)), fun k hk => ⟨hk.2, fun e => ?_, fun e => absurd e.2 (by omega)⟩⟩
  have := h1.lt e
  omega
theorem LP.step {W : World} {nb hb : Nat} {s s' : Nt} {P : Nat → Prop} {w w' : World} {bb : Nat → Prop} {qv : Nat → Value} (h : IsNet bb w nb hb qv s) (hb' : Below W.heap.size W w) (ho : ∀ k, NB nb hb s.n qv k ∨ bb k → W.heap.size ≤ k) (h4 : ∀ k, P k → k < w.heap.size ∧ ¬ NB nb hb s.n qv k ∧ ¬ bb k) (hp : NetP bb w nb hb s.n qv s' w') (hn : s'.n = s.n) : LP W nb hb s' P w' ∧ ∀ k, P k → w'.heap[k]? = w.heap[k]? := by
  obtain ⟨bb', qv', h1, h2⟩ := hp
  refine ⟨⟨bb', qv', h1, h2.fr.below hb' hb'.size (fun k e => ho k (.inl e)), fun k e => ?_, fun k hk => ⟨Nat.lt_of_lt_of_le (h4 k hk).1 h2.fr.size, fun e => ?_, fun e => ?_⟩⟩, fun k hk => h2.fr.block k (h4 k hk).1 (h4 k hk).2.1⟩
  · rw [hn] at e
    rcases e with e | e
    · rcases h2.blk k e with e | e
      · exact ho k (.inl e)
      · exact Nat.le_trans hb'.size e
    · rcases h2.byt k e with e | e
      · exact ho k (.inr e)
      · exact Nat.le_trans hb'.size e
  · rw [hn] at e
    rcases h2.blk k e with e | e
    · exact (h4 k hk).2.1 e
    · have := (h4 k hk).1; omega
  · rcases h2.byt k e with e | e
    · exact (h4 k hk).2.2 e
    · have := (h4 k hk).1; omega
/-- A block that is none of the net's, nor its bytes, may be written. -/
theorem LP.wr {W : World} {nb hb : Nat} {s : Nt} {P : Nat → Prop} {w w' : World} (h : LP W nb hb s P w) {g : Nat} (hg : W.heap.size ≤ g) (hP : P g ∨ ∃ cur t fr, w.heap[g]? = some (.cells cur t fr) ∧ t ≠ 72 ∧ t ≠ 69 ∧ t ≠ 74 ∧ t ≠ 5) (hs : w'.heap.size = w.heap.size) (ho : w'.os = w.os) (ht : w'.tape = w.tape) (hu : w'.output = w.output) (hf : ∀ i, i ≠ g → w'.heap[i]? = w.heap[i]?) : LP W nb hb s P w' := by
  obtain ⟨bb, qv, h1, h2, h3, h4⟩ := h
  have hfr : Fr w w' (fun k => k = g) := ⟨ho, ht, hu, by rw [hs]; exact Nat.le_refl _, fun k _ hk => hf k hk⟩
  refine ⟨bb, qv, h1.keep (S := fun k => k = g) hfr (fun k e hk1 => ?_) (fun k cur e hb1 hc => ?_) (fun k e _ => e), hfr.below h2 h2.size (fun k e => by rw [e]; exact hg), h3, fun k hk => by rw [hs]; exact h4 k hk⟩
  · subst e
    rcases hP with hP | ⟨cur, t, fr, e1, e2, e3, e4, _⟩
    · exact (h4 _ hP).2.1 hk1
    · obtain ⟨cur', t', k1, k2⟩ := h1.kinds hk1
      rw [e1] at k1
      cases k1
      rcases k2 with k2 | k2 | k2
      · exact e2 k2
      · exact e3 k2
      · exact e4 k2
  · subst e
    rcases hP with hP | ⟨cur', t, fr, e1, _, _, _, e5⟩
    · exact (h4 _ hP).2.2 hb1
    · rw [e1] at hc
      cases hc
      exact e5 rfl
structure BP (W : World) (bx nb hb b c : Nat) (sr sp : Nt) (P : Nat → Prop) (w : World) : Prop where
  box : Bk w bx 45 [.pointer (some ⟨nb, 0, none⟩), .int .i64 sr.now, .slice (some ⟨b, 0, none⟩) sr.n c]
  ref : NRef w (.agg #[.int .i64 sr.now, .slice (some ⟨b, 0, none⟩) sr.n c]) sr
  net : LP W nb hb sp P w
  old : W.heap.size ≤ bx
  own : ∀ k, P k → W.heap.size ≤ k
theorem BP.bo {W : World} {bx nb hb b c : Nat} {sr sp : Nt} {P : Nat → Prop} {w : World} (h : BP W bx nb hb b c sr sp P w) : BO W bx nb hb b c sr sp w := ⟨h.box, h.ref, h.net.ln, h.old⟩
theorem BP.below {W : World} {bx nb hb b c : Nat} {sr sp : Nt} {P : Nat → Prop} {w w' : World} (h : BP W bx nb hb b c sr sp P w) (hb' : Below w.heap.size w w') : BP W bx nb hb b c sr sp P w' := ⟨h.box.below hb', h.ref.below hb', h.net.below hb', h.old, h.own⟩
theorem BP.drew {W : World} {bx nb hb b c : Nat} {sr sp : Nt} {P : Nat → Prop} {w : World} (h : BP W bx nb hb b c sr sp P w) : BP W bx nb hb b c sr sp P w.drew := h.below (Below.refl _ _).drew
theorem BO.own {W : World} {bx nb hb b c : Nat} {sr sp : Nt} {w w' : World} (h : BO W bx nb hb b c sr sp w) (hb' : Below w.heap.size w w') : BP W bx nb hb b c sr sp (fun k => w.heap.size ≤ k ∧ k < w'.heap.size) w' := ⟨h.box.below hb', h.ref.below hb', h.net.own hb', h.old, fun k hk => Nat.le_trans h.net.bel.size hk.1⟩
theorem BP.refd {W : World} {bx nb hb b c b' c' : Nat} {sr sr' sp : Nt} {P : Nat → Prop} {w : World} (h : BP W bx nb hb b c sr sp P w) (hr : NRef w (.agg #[.int .i64 sr'.now, .slice (some ⟨b', 0, none⟩) sr'.n c']) sr') : BP W bx nb hb b' c' sr' sp P (w.setCells bx 1 [.int .i64 sr'.now, .slice (some ⟨b', 0, none⟩) sr'.n c']) ∧ ∀ i, i ≠ bx → (w.setCells bx 1 [.int .i64 sr'.now, .slice (some ⟨b', 0, none⟩) sr'.n c']).heap[i]? = w.heap[i]? := by
  obtain ⟨h1, h2⟩ := h.bo.refd hr
  obtain ⟨s1, s2, s3, s4, s5⟩ := setCells_blk w bx [.int .i64 sr'.now, .slice (some ⟨b', 0, none⟩) sr'.n c'] 1
  exact ⟨⟨h1.box, h1.ref, h.net.wr h.old (.inr ⟨_, _, _, h.box, by decide, by decide, by decide, by decide⟩) s1 s2 s3 s4 s5, h.old, h.own⟩, h2⟩
/-- One of one's own bytes is written. -/
theorem BP.wr {W : World} {bx nb hb b c : Nat} {sr sp : Nt} {P : Nat → Prop} {w : World} (h : BP W bx nb hb b c sr sp P w) {g : Nat} (hP : P g) {cur : Array Value} (hc : w.heap[g]? = some (.cells cur 5 (0, 0))) (j : Nat) (v : Value) : BP W bx nb hb b c sr sp P (w.setCell ⟨g, j, none⟩ v) := by
  have hf : ∀ i, i ≠ g → (w.setCell ⟨g, j, none⟩ v).heap[i]? = w.heap[i]? := fun i hi => Below.heap_setCell w ⟨g, j, none⟩ v i hi
  obtain ⟨s1, s2, s3, s4, s5⟩ := setCells_blk w g [v] j
  have hbox := h.box
  unfold Bk at hbox
  refine ⟨(hf bx ?_).trans h.box, h.ref.keep (fun k cur' t hc' ht => hf k (fun e => ?_)), h.net.wr (h.own g hP) (.inl hP) s1 s2 s3 s4 s5, h.old, h.own⟩
  · rintro rfl
    rw [hbox] at hc
    cases hc
  · subst e
    rw [hc] at hc'
    cases hc'
    rcases ht with h | h | h <;> exact absurd h (by decide)
theorem injectP {W : World} {bx nb hb b c : Nat} {sr sp : Nt} {P : Nat → Prop} {w : World} {L : Nat} (h : BP W bx nb hb b c sr sp P w) (hs : Wm sp L) (i : Int) {D : Nat → Prop} (v : Value) (lb : List Int) (hl : RdB D w v lb) (hD : ∀ k, D k → k < w.heap.size) : Calls Tryd.prog 8 #[.pointer (some ⟨nb, 0, none⟩), .int .i64 i, v] w fun e w' => ∃ ev, e = .returned ev ∧ ErR w' ev (er injectN (sp.injectE i lb)) ∧ BP W bx nb hb b c sr (sp.inject i lb) P w' ∧ KP w w' ∧ ∀ k, P k → w'.heap[k]? = w.heap[k]? := by
  obtain ⟨bb, qv, h1, h2, h3, h4⟩ := h.net
  refine (inject_calls h1 i v lb hl hD (fun k hk => by have := hs.q k hk; omega)).mono ?_
  rintro e w' ⟨ev, e1, e2, e3⟩
  obtain ⟨g1, g2⟩ := h.bo.step h1 h2 h3 e3 (inject_n _ _ _)
  obtain ⟨g3, g4⟩ := LP.step (P := P) h1 h2 h3 h4 e3 (inject_n _ _ _)
  exact ⟨ev, e1, e2, ⟨g1.box, g1.ref, g3, h.old, h.own⟩, g2, g4⟩
end
section
open Go.RowKit Go.Deep Go.Proofs.YtpfpdbbgiimnmaaDoor.Er Go.Proofs.YtpfpdbbgiimnmaaDoor.As Go.Proofs.YtpfpdbbgiimnmaaDoor.Mod Go.Proofs.YtpfpdbbgiimnmaaDoorW.PrintWords Go.Proofs.YtpfpdbbgiimnmaaDoorW.PrintLast
/-- Bytes of one's own: they may be read and written, one by one. -/
def Own (P : Nat → Prop) (w : World) (A : Option Addr) (n : Nat) : Prop := n = 0 ∨ ∃ bo cur, A = some ⟨bo, 0, none⟩ ∧ P bo ∧ w.heap[bo]? = some (.cells cur 5 (0, 0)) ∧ ∀ j, j < n → ∃ x, cur[j]? = some (.int .u8 x)
theorem RB.own {P : Nat → Prop} {w : World} {A : Option Addr} {n c : Nat} {l : List Int} (h : RB P w (.slice A n c) l) : Own P w A n := by
  obtain ⟨A', c', e, h1, _, _, h5⟩ := h
  cases e
  by_cases hl : l = []
  · exact .inl (by rw [hl]; rfl)
  · obtain ⟨bo, cur, rfl, hp, hc, hx⟩ := h5 hl
    exact .inr ⟨bo, cur, rfl, hp, hc, fun j hj => ⟨l[j], hx j _ (List.getElem?_eq_getElem hj)⟩⟩
theorem Own.wr {P : Nat → Prop} {w : World} {A : Option Addr} {n : Nat} (h : Own P w A n) {bo : Nat} {cur : Array Value} (hc : w.heap[bo]? = some (.cells cur 5 (0, 0))) (j : Nat) (y : Int) (hA : A = some ⟨bo, 0, none⟩) : Own P (w.setCell ⟨bo, j, none⟩ (.int .u8 y)) A n := by
  rcases h with h0 | ⟨bo', cur', e1, e2, e3, e4⟩
  · exact .inl h0
  obtain rfl : bo' = bo := by rw [hA] at e1; cases e1; rfl
  have hk : Bk w bo' 5 cur'.toList := by unfold Bk; simpa using e3
  have h2 := hk.set j (.int .u8 y)
  unfold Bk at h2
  refine .inr ⟨bo', _, e1, e2, h2, fun i hi => ?_⟩
  obtain ⟨x, hx⟩ := e4 i hi
  have hlt : i < cur'.size := (Array.getElem?_eq_some_iff.1 hx).1
  by_cases e : j = i
  · subst e
    exact ⟨y, by simp [hlt]⟩
  · exact ⟨x, by simpa [List.getElem?_set, e] using hx⟩
set_option maxHeartbeats 8000000 in
set_option maxRecDepth 100000 in
theorem spoils_12 {W : World} {bx nb hb b c : Nat} {s : Nt} {w : World} {L : Nat} (h : BO W bx nb hb b c s s w) (hg : Glob W) (hst an am mk : Int) (B1 : Option Addr) (B2 B3 : Nat) (L1 : Option Addr) (L2 L3 : Nat) (hW : Wm s (L + 1)) {D : Nat → Prop} (lb : List Int) (hrd : RdB D W (.slice B1 B2 B3) lb) (hD : ∀ k, D k → k < W.heap.size) : Calls Tryd.prog 45 #[.pointer (some ⟨bx, 0, none⟩), .agg #[.int .i64 12, .int .i64 hst, .int .i64 an, .int .i64 am, .int .u32 mk, .slice B1 B2 B3, .slice L1 L2 L3]] w fun e w' => e = .returned (.bool true) ∧ ∃ b' c', BO W bx nb hb b' c' (s.inject hst lb) (s.inject hst lb) w' := by
  obtain ⟨g3, hg3⟩ : ∃ g, g = w.heap.size := ⟨_, rfl⟩
  have HNE : Hid (g3 ≠ bx) := Lib.hid (fun e => absurd h.box.lt (by rw [← e, hg3]; exact Nat.lt_irrefl _))
  have HG := Lib.hid hg
  have HW := Lib.hid hW
  have HW1 : Hid (∀ w1, w1 = w.alloc (.cells #[.int .i64 12, .int .i64 hst, .int .i64 an, .int .i64 am, .int .u32 mk, .slice B1 B2 B3, .slice L1 L2 L3] 49) → BO W bx nb hb b c s s w1 ∧ Bk w1 w.heap.size 49 [.int .i64 12, .int .i64 hst, .int .i64 an, .int .i64 am, .int .u32 mk, .slice B1 B2 B3, .slice L1 L2 L3]) := Lib.hid (by
    rintro w1 rfl
    exact ⟨h.below ((Below.refl _ _).alloc (Nat.le_refl _) _), bk_alloc _ _ _⟩)
  have HSC : Hid (∀ w' {p q : Value}, Bk w' bx 45 [.pointer (some ⟨nb, 0, none⟩), p, q] → Bk w' g3 49 [.int .i64 12, .int .i64 hst, .int .i64 an, .int .i64 am, .int .u32 mk, .slice B1 B2 B3, .slice L1 L2 L3] → Bk w' g3 49 [.int .i64 12, .int .i64 hst, .int .i64 an, .int .i64 am, .int .u32 mk, .slice B1 B2 B3, .slice L1 L2 L3] ∧ w'.cell? ⟨bx, 0, none⟩ = some (.pointer (some ⟨nb, 0, none⟩)) ∧ w'.cell? ⟨g3, 1, none⟩ = some (.int .i64 hst) ∧ w'.cell? ⟨g3, 5, none⟩ = some (.slice B1 B2 B3)) := Lib.hid (fun w' _ _ h1 h2 => ⟨h2, h1.cell 0, h2.cell 1, h2.cell 5⟩)
  obtain ⟨hB2, hc0, hlm⟩ : B2 = lb.length ∧ B2 ≤ B3 ∧ B2 ≤ 140737488355328 := by
    obtain ⟨A', c', e, h1, h2, _⟩ := hrd
    cases e
    exact ⟨rfl, h1, h2⟩
  have HB2L := Lib.hid hB2
  have HRD0 := Lib.hid hrd
  have HD0 := Lib.hid hD
  clear h hg hW hrd hD hB2
  go_enter Tryd.func45, Tryd.ntmps45
  go_upto_region 1 with (fail)
  generalize hw1 : w.alloc (.cells #[.int .i64 12, .int .i64 hst, .int .i64 an, .int .i64 am, .int .u32 mk, .slice B1 B2 B3, .slice L1 L2 L3] 49) = w1
  obtain ⟨h1, h2⟩ := HW1.out w1 hw1.symm
  rw [← hg3] at h2 ⊢
  have k0 : w1.cell? ⟨g3, 0, none⟩ = some (.int .i64 12) := h2.cell 0
  have HB1 := Lib.hid (And.intro h1 h2)
  clear h1 h2 hw1 HW1 hg3
  go_upto_region 16 with (fail)
  have a5 : w1.cell? ⟨g3, 5, none⟩ = some (.slice B1 B2 B3) := HB1.out.2.cell 5
  have a6 : (w1.alloc (.cells #[] 5)).cell? ⟨g3, 5, none⟩ = some (.slice B1 B2 B3) := (HB1.out.2.below (below_alloc (Below.refl _ _) _)).cell 5
  have HRD1 : Hid (∀ w', Below w1.heap.size w1 w' → RdB D w' (.slice B1 B2 B3) lb ∧ ∀ k, D k → k < w'.heap.size) := Lib.hid (fun w' hb => by
    have hb2 := HB1.out.1.net.bel.trans (hb.mono HB1.out.1.net.bel.size)
    exact ⟨HRD0.out.keep (fun k hk => hb2.block k (HD0.out k hk)), fun k hk => Nat.lt_of_lt_of_le (HD0.out k hk) hb2.size⟩)
  go_wp2_with (first
    | (at_builtin; refine wp_copy rfl (.tmp 137) (.tmp 139) rfl rfl rfl (HRD1.out _ ?c0).1 ?_))
  case c0 => exact below_alloc (Below.refl _ _) _
  rw [← HB2L.out]
  intro A6 c6 w2 hrb hbl
  have HOWN := Lib.hid (And.intro hrb hbl)
  clear hrb hbl
  go_upto_region 17 with (fail)
  obtain ⟨P, HB1N, HRB0⟩ : ∃ P : Nat → Prop, Hid (BP W bx nb hb b c s s P w2 ∧ Bk w2 g3 49 [.int .i64 12, .int .i64 hst, .int .i64 an, .int .i64 am, .int .u32 mk, .slice B1 B2 B3, .slice L1 L2 L3]) ∧ Hid (RB P w2 (.slice A6 B2 c6) lb) := by
    have hbl : Below w1.heap.size w1 w2 := (below_alloc (Below.refl _ _) _).trans (HOWN.out.2.mono (by simp))
    refine ⟨fun k => w1.heap.size ≤ k ∧ k < w2.heap.size, Lib.hid ⟨HB1.out.1.own hbl, HB1.out.2.below hbl⟩, Lib.hid (HOWN.out.1.keep (fun k cur e1 e2 => ⟨rfl, ?_, lt_of e2⟩))⟩
    have : w1.heap.size + 1 ≤ k := e1
    omega
  have hc6 : B2 ≤ c6 := by
    obtain ⟨A', c', e, h1, _⟩ := HRB0.out
    cases e
    exact h1
  have HRD2 : Hid (RdB D w2 (.slice B1 B2 B3) lb ∧ ∀ k, D k → k < w2.heap.size) := Lib.hid (HRD1.out w2 ((below_alloc (Below.refl _ _) _).trans (HOWN.out.2.mono (by simp))))
  clear HB1 HRD1 HOWN a5 a6 k0
  have HSA : Hid (∀ w', BP W bx nb hb b c (s) (s) P w' → Bk w' g3 49 [.int .i64 12, .int .i64 hst, .int .i64 an, .int .i64 am, .int .u32 mk, .slice B1 B2 B3, .slice L1 L2 L3] → RB P w' (.slice A6 B2 c6) lb → BP W bx nb hb b c (s) (s) P w' ∧ Bk w' g3 49 [.int .i64 12, .int .i64 hst, .int .i64 an, .int .i64 am, .int .u32 mk, .slice B1 B2 B3, .slice L1 L2 L3] ∧ (Glob w' ∧ RB P w' (.slice A6 B2 c6) lb) ∧ w'.cell? ⟨bx, 0, none⟩ = some (.pointer (some ⟨nb, 0, none⟩)) ∧ w'.cell? ⟨g3, 1, none⟩ = some (.int .i64 hst) ∧ w'.cell? ⟨g3, 5, none⟩ = some (.slice B1 B2 B3)) := Lib.hid (fun w' h1 h2 h3 => ⟨h1, h2, ⟨Glob_below HG.out h1.bo.net.bel, h3⟩, h1.box.cell 0, h2.cell 1, h2.cell 5⟩)
  have HRD3 : Hid (RdB D w2.drew (.slice B1 B2 B3) lb ∧ ∀ k, D k → k < w2.drew.heap.size) := Lib.hid HRD2.out
  refine start_ (n := 17) (S := fun w' => BP W bx nb hb b c (s) (s) P w' ∧ Bk w' g3 49 [.int .i64 12, .int .i64 hst, .int .i64 an, .int .i64 am, .int .u32 mk, .slice B1 B2 B3, .slice L1 L2 L3] ∧ (Glob w' ∧ RB P w' (.slice A6 B2 c6) lb) ∧ w'.cell? ⟨bx, 0, none⟩ = some (.pointer (some ⟨nb, 0, none⟩)) ∧ w'.cell? ⟨g3, 1, none⟩ = some (.int .i64 hst) ∧ w'.cell? ⟨g3, 5, none⟩ = some (.slice B1 B2 B3)) (ds := [15]) #[false, false, false, false, false, false, false, false, false, false, false, false, false, false, false, false, false] (by kernel_rfl) rfl rfl (HSA.out _ HB1N.out.1.drew (HB1N.out.2.below (Below.refl _ _).drew) (HRB0.out.below (Below.refl _ _).drew)) (fun hHeld => ?_)
  refine pu_ 0 142 (bm_ 17 0x1) ?_
  refine pu_ 1 143 (bm_ 17 0x3) ?_
  refine pu_ 2 144 (bm_ 17 0x7) ?_
  refine pu_ 3 145 (bm_ 17 0xf) ?_
  refine take_ (i := 4) (N := some 146) (v := .agg #[.int .i64 s.now, .slice (some ⟨b, 0, none⟩) s.n c]) (bm_ 17 0x1f) rfl rfl (by kernel_rfl) (fun _ _ _ h => h) (Or.inl ⟨by rfl, fun w' hs => run_ldq hs.1.box (.tmp 145) rfl rfl⟩) hHeld rfl ?_
  refine nm_ 146 ?_
  refine pu_ 5 147 (bm_ 17 0x3f) ?_
  refine tk_ 6 148 (bm_ 17 0x7f) hHeld ?_
  refine pu_ 7 149 (bm_ 17 0xff) ?_
  refine tk_ 8 150 (bm_ 17 0x1ff) hHeld ?_
  refine on_ 9 (some 151) (bm_ 17 0x3ff) fun K hK => ?_
  refine gd_ Tryd.func60 (inject_r hHeld.1.ref hHeld.1.bo.n16 hst B1 B2 B3 lb (HRD3.out.1) HRD3.out.2 (fun k hk => by have := HW.out.q k hk; omega)) ?_
  rintro e w10 ⟨v', rfl, hv, hb⟩
  obtain ⟨b5, c5, rfl, hc5, _⟩ := hv.parts
  refine ⟨_, rfl, ?_⟩
  have hS10 := HSA.out _ (hHeld.1.below hb) (hHeld.2.1.below hb) (hHeld.2.2.1.2.below hb)
  have HV := Lib.hid hv
  clear hb hv hc5
  refine hK.out _ _ hS10 (fun hHeldB => ?_)
  clear hK K hHeld hS10
  refine nm_ 151 ?_
  refine pu_ 10 141 (bm_ 17 0x7ff) ?_
  refine pu_ 11 152 (bm_ 17 0xfff) ?_
  refine pu_ 12 153 (bm_ 17 0x1fff) ?_
  refine pu_ 13 154 (bm_ 17 0x3fff) ?_
  refine pu_ 14 155 (bm_ 17 0x7fff) ?_
  refine la_ 15 none (bm_ 17 0xffff) fun K hK => ?_
  refine skip_ (by rfl) rfl (w1 := w10.setCells bx 1 [.int .i64 (s.inject hst lb).now, .slice (some ⟨b5, 0, none⟩) (s.inject hst lb).n c5]) (run_stb (hHeldB.1.box) (q := 1) rfl rfl rfl (by kernel_rfl) (by simp) (o_cons rfl (o_cons rfl o_nil))) ?_
  refine hK.out _ _ ?_
  obtain ⟨hbo, hfar⟩ := hHeldB.1.refd (sr' := s.inject hst lb) HV.out
  have HBN := Lib.hid (And.intro hbo (show Bk (w10.setCells bx 1 [.int .i64 (s.inject hst lb).now, .slice (some ⟨b5, 0, none⟩) (s.inject hst lb).n c5]) g3 49 [.int .i64 12, .int .i64 hst, .int .i64 an, .int .i64 am, .int .u32 mk, .slice B1 B2 B3, .slice L1 L2 L3] from (hfar g3 HNE.out).trans hHeldB.2.1))
  have HRN : Hid (RB P (w10.setCells bx 1 [.int .i64 (s.inject hst lb).now, .slice (some ⟨b5, 0, none⟩) (s.inject hst lb).n c5]) (.slice A6 B2 c6) lb) := Lib.hid (hHeldB.2.2.1.2.keep (fun k cur e1 e2 => ⟨hfar k (fun e => by
    subst e
    have e3 := hHeldB.1.box
    unfold Bk at e3
    rw [e3] at e2
    cases e2), e1⟩))
  generalize w10.setCells bx 1 [.int .i64 (s.inject hst lb).now, .slice (some ⟨b5, 0, none⟩) (s.inject hst lb).n c5] = w20 at HBN HRN ⊢
  clear hK K hHeldB hbo hfar HV
  refine pu_ 16 5 (bm_ 17 0x1ffff) ?_
  refine done_ (by kernel_rfl) ?_
  clear HB1N HRB0 HSA HRD2 HRD3
  go_upto_region 18 with (fail)
  have HRX : Hid (RdB (fun k => k < w20.drew.heap.size) w20.drew (.slice A6 B2 c6) lb) := Lib.hid (by
    have h1 := (HRN.out.keep (bb' := fun k => k < w20.drew.heap.size) (fun k cur e1 e2 => ⟨rfl, lt_of e2⟩)).rd (by rw [← HB2L.out]; exact hlm)
    exact h1)
  refine start_ (n := 9) (S := fun w' => Bk w' g3 49 [.int .i64 12, .int .i64 hst, .int .i64 an, .int .i64 am, .int .u32 mk, .slice B1 B2 B3, .slice L1 L2 L3] ∧ w'.cell? ⟨bx, 0, none⟩ = some (.pointer (some ⟨nb, 0, none⟩)) ∧ w'.cell? ⟨g3, 1, none⟩ = some (.int .i64 hst)) (ds := [7]) #[false, false, false, false, false, false, false, false, false] (by kernel_rfl) rfl rfl ⟨HBN.out.2.below (Below.refl _ _).drew, HBN.out.1.drew.box.cell 0, (HBN.out.2.below (Below.refl _ _).drew).cell 1⟩ (fun hHeld => ?_)
  refine pu_ 0 156 (bm_ 9 0x1) ?_
  refine pu_ 1 157 (bm_ 9 0x3) ?_
  refine pu_ 2 158 (bm_ 9 0x7) ?_
  refine tk_ 3 159 (bm_ 9 0xf) hHeld ?_
  refine pu_ 4 160 (bm_ 9 0x1f) ?_
  refine tk_ 5 161 (bm_ 9 0x3f) hHeld ?_
  refine pu_ 6 162 (bm_ 9 0x7f) ?_
  refine la_ 7 (some 163) (bm_ 9 0xff) fun K hK => ?_
  refine gd_ Tryd.func8 (injectP HBN.out.1.drew HW.out hst (.slice A6 B2 c6) lb (HRX.out) (fun k hk => hk)) ?_
  rintro e w11 ⟨ev, rfl, he2, hbp, hkp, hpk⟩
  refine ⟨_, rfl, ?_⟩
  have HB3 : Hid (BP W bx nb hb b5 c5 (s.inject hst lb) (s.inject hst lb) P w11 ∧ Own P w11 A6 B2 ∧ ErR w11 ev (er injectN (s.injectE hst lb))) := Lib.hid ⟨hbp, ((HRN.out.below (Below.refl _ _).drew).keep (bb' := P) (fun k cur e1 e2 => ⟨hpk k e1, e1⟩)).own, he2⟩
  clear hbp hkp hpk he2
  refine hK.out _ _ ?_
  clear hK K hHeld
  refine nm_ 163 ?_
  refine pu_ 8 7 (bm_ 9 0x1ff) ?_
  refine done_ (by kernel_rfl) ?_
  clear HBN HRN HRX HSC
  go_wp2
  go_loopg [8] (B2 + 1) (fun kq v8 wr => ∃ j : Nat, v8 = .int .i64 j ∧ Hid (j ≤ B2 ∧ kq = B2 + 1 - j) ∧ Hid (BP W bx nb hb b5 c5 (s.inject hst lb) (s.inject hst lb) P wr ∧ Own P wr A6 B2 ∧ ErR wr ev (er injectN (s.injectE hst lb))))
  case atStart => exact ⟨0, rfl, Lib.hid ⟨by omega, by omega⟩, HB3⟩
  case round =>
    obtain ⟨j, rfl, HJ, HBr⟩ := hrel
    clear HB3
    by_cases hj : j < B2
    · obtain ⟨bo, cur, x, rfl, hP, hcur, hx⟩ : ∃ bo cur x, A6 = some ⟨bo, 0, none⟩ ∧ P bo ∧ wr.heap[bo]? = some (.cells cur 5 (0, 0)) ∧ cur[j]? = some (.int .u8 x) := by
        rcases HBr.out.2.1 with h0 | ⟨bo, cur, e1, e2, e3, e4⟩
        · omega
        · obtain ⟨x, hx⟩ := e4 j hj
          exact ⟨bo, cur, x, e1, e2, e3, hx⟩
      have HO := Lib.hid (And.intro hP (And.intro hcur hx))
      have c0 : wr.cell? ⟨bo, j, none⟩ = some (.int .u8 x) := (blk_cell hcur j).trans hx
      have f0 : wr.frozen? ⟨bo, j, none⟩ = false := blk_frozen hcur j
      clear hP hcur hx
      go_wp2
      have HBN : Hid (BP W bx nb hb b5 c5 (s.inject hst lb) (s.inject hst lb) P (wr.setCell ⟨bo, j, none⟩ (.int .u8 ((255 - x) % 256))) ∧ Own P (wr.setCell ⟨bo, j, none⟩ (.int .u8 ((255 - x) % 256))) (some ⟨bo, 0, none⟩) B2 ∧ ErR (wr.setCell ⟨bo, j, none⟩ (.int .u8 ((255 - x) % 256))) ev (er injectN (s.injectE hst lb))) := Lib.hid ⟨HBr.out.1.wr HO.out.1 HO.out.2.1 j _, HBr.out.2.1.wr HO.out.2.1 j _ rfl, ErR_set ⟨_, _, _, HO.out.2.1, by decide⟩ HBr.out.2.2⟩
      go_roundg (B2 - j)
      case measure => have := HJ.out; omega
      case rel => exact ⟨j + 1, by go_num, Lib.hid ⟨by omega, by omega⟩, HBN⟩
    · go_wp2_with (first
        | (go_at_call 11; refine (Tells.tells.calls ev _ (s.injectE hst lb) _ true _ HBr.out.2.2 (Glob_below HG.out HBr.out.1.bo.net.bel) (tells_er injectN _)).mono ?_; rintro e w12 ⟨rfl, hbl⟩; have HB4 := Lib.hid (HBr.out.1.bo.below hbl); clear hbl))
      go_ret
      exact ⟨rfl, b5, c5, HB4.out⟩

end
section
open Go.RowKit Go.Deep Go.Proofs.YtpfpdbbgiimnmaaDoor.Er Go.Proofs.YtpfpdbbgiimnmaaDoor.As Go.Proofs.YtpfpdbbgiimnmaaDoor.Mod Go.Proofs.YtpfpdbbgiimnmaaDoorW.PrintWords Go.Proofs.YtpfpdbbgiimnmaaDoorW.PrintLast
set_option maxHeartbeats 8000000 in
set_option maxRecDepth 100000 in
theorem spoils_other {W : World} {bx nb hb b c : Nat} {s : Nt} {w : World} {L : Nat} (h : BO W bx nb hb b c s s w) (hg : Glob W) (hst an am mk : Int) (B1 : Option Addr) (B2 B3 : Nat) (L1 : Option Addr) (L2 L3 : Nat) (hW : Wm s (L + 1)) (kd : Int) (hk : ¬ (8 ≤ kd ∧ kd ≤ 12)) : Calls Tryd.prog 45 #[.pointer (some ⟨bx, 0, none⟩), .agg #[.int .i64 kd, .int .i64 hst, .int .i64 an, .int .i64 am, .int .u32 mk, .slice B1 B2 B3, .slice L1 L2 L3]] w fun e w' => e = .returned (.bool true) ∧ ∃ b' c', BO W bx nb hb b' c' (s) (s) w' := by
  obtain ⟨g3, hg3⟩ : ∃ g, g = w.heap.size := ⟨_, rfl⟩
  have HNE : Hid (g3 ≠ bx) := Lib.hid (fun e => absurd h.box.lt (by rw [← e, hg3]; exact Nat.lt_irrefl _))
  have HG := Lib.hid hg
  have HW := Lib.hid hW
  have HW1 : Hid (∀ w1, w1 = w.alloc (.cells #[.int .i64 kd, .int .i64 hst, .int .i64 an, .int .i64 am, .int .u32 mk, .slice B1 B2 B3, .slice L1 L2 L3] 49) → BO W bx nb hb b c s s w1 ∧ Bk w1 w.heap.size 49 [.int .i64 kd, .int .i64 hst, .int .i64 an, .int .i64 am, .int .u32 mk, .slice B1 B2 B3, .slice L1 L2 L3]) := Lib.hid (by
    rintro w1 rfl
    exact ⟨h.below ((Below.refl _ _).alloc (Nat.le_refl _) _), bk_alloc _ _ _⟩)
  clear h hg hW
  have e8 : (kd == 8) = false := beq_eq_false_iff_ne.2 (by omega)
  have e9 : (kd == 9) = false := beq_eq_false_iff_ne.2 (by omega)
  have e10 : (kd == 10) = false := beq_eq_false_iff_ne.2 (by omega)
  have e11 : (kd == 11) = false := beq_eq_false_iff_ne.2 (by omega)
  have e12 : (kd == 12) = false := beq_eq_false_iff_ne.2 (by omega)
  clear hk
  go_enter Tryd.func45, Tryd.ntmps45
  go_upto_region 1 with (fail)
  generalize hw1 : w.alloc (.cells #[.int .i64 kd, .int .i64 hst, .int .i64 an, .int .i64 am, .int .u32 mk, .slice B1 B2 B3, .slice L1 L2 L3] 49) = w1
  obtain ⟨h1, h2⟩ := HW1.out w1 hw1.symm
  rw [← hg3] at h2 ⊢
  have k0 : w1.cell? ⟨g3, 0, none⟩ = some (.int .i64 kd) := h2.cell 0
  have HB1 := Lib.hid (And.intro h1 h2)
  clear h1 h2 hw1 HW1 hg3
  go_wp2
  go_ret
  exact ⟨rfl, b, c, HB1.out.1⟩

end
section
open Go.RowKit Go.Deep Go.Proofs.YtpfpdbbgiimnmaaDoor.Er Go.Proofs.YtpfpdbbgiimnmaaDoor.As Go.Proofs.YtpfpdbbgiimnmaaDoor.Mod Go.Proofs.YtpfpdbbgiimnmaaDoorW.PrintWords Go.Proofs.YtpfpdbbgiimnmaaDoorW.PrintLast
set_option maxHeartbeats 8000000 in
set_option maxRecDepth 100000 in
theorem step_sp {W : World} {bx nb hb b c : Nat} {s : Nt} {w : World} {L : Nat} (h : BO W bx nb hb b c s s w) (hg : Glob W) (hst an am mk : Int) (B1 : Option Addr) (B2 B3 : Nat) (L1 : Option Addr) (L2 L3 : Nat) (hW : Wm s (L + 1)) (kd : Int) (hk : ¬ (0 ≤ kd ∧ kd ≤ 7)) {S1 : Nt} (hsp : ∀ w1, BO W bx nb hb b c s s w1 → Calls Tryd.prog 45 #[.pointer (some ⟨bx, 0, none⟩), .agg #[.int .i64 kd, .int .i64 hst, .int .i64 an, .int .i64 am, .int .u32 mk, .slice B1 B2 B3, .slice L1 L2 L3]] w1 fun e w' => e = .returned (.bool true) ∧ ∃ b' c', BO W bx nb hb b' c' (S1) (S1) w') : Calls Tryd.prog 14 #[.pointer (some ⟨bx, 0, none⟩), .agg #[.int .i64 kd, .int .i64 hst, .int .i64 an, .int .i64 am, .int .u32 mk, .slice B1 B2 B3, .slice L1 L2 L3]] w fun e w' => e = .returned (.bool true) ∧ ∃ b' c', BO W bx nb hb b' c' (S1) (S1) w' := by
  obtain ⟨g3, hg3⟩ : ∃ g, g = w.heap.size := ⟨_, rfl⟩
  have HNE : Hid (g3 ≠ bx) := Lib.hid (fun e => absurd h.box.lt (by rw [← e, hg3]; exact Nat.lt_irrefl _))
  have HG := Lib.hid hg
  have HW := Lib.hid hW
  have HW1 : Hid (∀ w1, w1 = w.alloc (.cells #[.int .i64 kd, .int .i64 hst, .int .i64 an, .int .i64 am, .int .u32 mk, .slice B1 B2 B3, .slice L1 L2 L3] 49) → BO W bx nb hb b c s s w1 ∧ Bk w1 w.heap.size 49 [.int .i64 kd, .int .i64 hst, .int .i64 an, .int .i64 am, .int .u32 mk, .slice B1 B2 B3, .slice L1 L2 L3]) := Lib.hid (by
    rintro w1 rfl
    exact ⟨h.below ((Below.refl _ _).alloc (Nat.le_refl _) _), bk_alloc _ _ _⟩)
  clear h hg hW
  have HSP := Lib.hid hsp
  have e0 : (kd == 0) = false := beq_eq_false_iff_ne.2 (by omega)
  have e1 : (kd == 1) = false := beq_eq_false_iff_ne.2 (by omega)
  have e2 : (kd == 2) = false := beq_eq_false_iff_ne.2 (by omega)
  have e3 : (kd == 3) = false := beq_eq_false_iff_ne.2 (by omega)
  have e4 : (kd == 4) = false := beq_eq_false_iff_ne.2 (by omega)
  have e5 : (kd == 5) = false := beq_eq_false_iff_ne.2 (by omega)
  have e6 : (kd == 6) = false := beq_eq_false_iff_ne.2 (by omega)
  have e7 : (kd == 7) = false := beq_eq_false_iff_ne.2 (by omega)
  clear hk hsp
  go_enter Tryd.func14, Tryd.ntmps14
  go_upto_region 1 with (fail)
  generalize hw1 : w.alloc (.cells #[.int .i64 kd, .int .i64 hst, .int .i64 an, .int .i64 am, .int .u32 mk, .slice B1 B2 B3, .slice L1 L2 L3] 49) = w1
  obtain ⟨h1, h2⟩ := HW1.out w1 hw1.symm
  rw [← hg3] at h2 ⊢
  have k0 : w1.cell? ⟨g3, 0, none⟩ = some (.int .i64 kd) := h2.cell 0
  have k1 : w1.cell? ⟨g3, 1, none⟩ = some (.int .i64 hst) := h2.cell 1
  have k2 : w1.cell? ⟨g3, 2, none⟩ = some (.int .i64 an) := h2.cell 2
  have k3 : w1.cell? ⟨g3, 3, none⟩ = some (.int .i64 am) := h2.cell 3
  have k4 : w1.cell? ⟨g3, 4, none⟩ = some (.int .u32 mk) := h2.cell 4
  have k5 : w1.cell? ⟨g3, 5, none⟩ = some (.slice B1 B2 B3) := h2.cell 5
  have k6 : w1.cell? ⟨g3, 6, none⟩ = some (.slice L1 L2 L3) := h2.cell 6
  have HB1 := Lib.hid (And.intro h1 h2)
  clear h1 h2 hw1 HW1 hg3
  go_wp2_with (first
    | (go_at_call 45; refine (HSP.out _ HB1.out.1).mono ?_; rintro e w3 ⟨rfl, b5, c5, hb3⟩; have HB3 := Lib.hid hb3; clear hb3))
  go_ret
  exact ⟨rfl, b5, c5, HB3.out⟩

end
end Go.Proofs.YtpfpdbbgiimnmaaDoor.Net
