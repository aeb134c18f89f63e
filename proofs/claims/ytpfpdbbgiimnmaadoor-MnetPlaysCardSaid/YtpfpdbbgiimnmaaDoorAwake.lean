/- geyserlaw22.awake and one, by their contracts. Conditions: a level from 0 to 7. -/
import Derived.Test.YtpfpdbbgiimnmaaDoorLn
namespace Go.Proofs.YtpfpdbbgiimnmaaDoor.Net
set_option linter.unusedSimpArgs false
set_option linter.unusedVariables false
open Go.RowKit Go.Deep Go.Proofs.YtpfpdbbgiimnmaaDoor.Er Go.Proofs.YtpfpdbbgiimnmaaDoor.Mod Go.Proofs.YtpfpdbbgiimnmaaDoorW.PrintWords
theorem Wf.put {s : Nt} {L : Nat} (h : Wf s L) (k : Nat) (x : Ho) (h1 : -1 ≤ x.level ∧ x.level < 8) (h2 : 0 ≤ x.graft ∧ x.graft ≤ 64) (h3 : 0 ≤ x.got ∧ x.got + L < 5000000000000) (h4 : x.q.length + L ≤ 5000000000000) : Wf (s.put k x) L := by
  refine ⟨fun i hi => ?_, fun i hi => ?_, h.now, fun i hi => ?_, fun i hi => ?_⟩ <;> unfold Nt.put <;> dsimp only <;> split
  · exact h1
  · exact h.level i hi
  · exact h2
  · exact h.graft i hi
  · exact h3
  · exact h.got i hi
  · exact h4
  · exact h.q i hi
theorem Wf.join {s : Nt} {L : Nat} (h : Wf s L) (hL : L < 5000000000000) (i : Int) : Wf (s.join i) L := by
  unfold Nt.join
  split
  · rename_i e
    have ha : s.at i = 0 := Classical.byContradiction (fun c => by unfold Nt.joinE at e; rw [if_neg c] at e; exact c e)
    obtain ⟨k, rfl, hk⟩ := at_of ha
    rw [Int.toNat_natCast]
    exact h.put k _ ⟨by simp, by simp⟩ (h.graft k hk) (h.got k hk) (by simp; omega)
  · exact h
theorem Wf.want {s : Nt} {L : Nat} (h : Wf s L) (i l : Int) : Wf (s.want i l) L := by
  unfold Nt.want
  split
  · rename_i e
    unfold Nt.wantE at e
    by_cases ha : s.at i = 0
    · rw [if_pos ha] at e
      obtain ⟨k, rfl, hk⟩ := at_of ha
      rw [Int.toNat_natCast] at e ⊢
      have hl : -1 ≤ l ∧ l < 8 := by
        split at e
        · split at e
          · omega
          · omega
        · omega
      exact h.put k _ hl (h.graft k hk) (h.got k hk) (h.q k hk)
    · rw [if_neg ha] at e; exact absurd e ha
  · exact h
theorem Wf.new (n L : Nat) (hL : L < 5000000000000) : Wf (nt0 n) L := ⟨fun _ _ => (show (-1 : Int) ≤ -1 ∧ (-1 : Int) < 8 by decide), fun _ _ => (show (0 : Int) ≤ 0 ∧ (0 : Int) ≤ 64 by decide), (show (0 : Int) ≤ 0 ∧ (0 : Int) + L < 5000000000000 by omega), fun _ _ => (show (0 : Int) ≤ 0 ∧ (0 : Int) + L < 5000000000000 by omega), fun _ _ => (show 0 + L ≤ 5000000000000 by omega)⟩
theorem Wf.send {s : Nt} {L M : Nat} (h : Wf s (L + M)) (l : List Dg) (hl : l.length ≤ M) : Wf (s.send l) L := by
  refine ⟨fun i hi => ?_, fun i hi => ?_, ⟨h.now.1, by have := h.now.2; show s.now + L < _; omega⟩, fun i hi => ?_, fun i hi => ?_⟩
  · show -1 ≤ (if i < s.n then (s.h i).send s.now l else s.h i).level ∧ (if i < s.n then (s.h i).send s.now l else s.h i).level < 8
    rw [if_pos (show i < s.n from hi), (send_bd _ _ _).1]; exact h.level i hi
  · show 0 ≤ (if i < s.n then (s.h i).send s.now l else s.h i).graft ∧ (if i < s.n then (s.h i).send s.now l else s.h i).graft ≤ 64
    rw [if_pos (show i < s.n from hi)]
    have : ∀ (l : List Dg) (x : Ho), (x.send s.now l).graft = x.graft := by
      intro l
      induction l with
      | nil => intro x; rfl
      | cons d l ih =>
        intro x
        show ((x.send1 s.now d).send s.now l).graft = _
        rw [ih]
        unfold Ho.send1 Ho.count
        split <;> (try split) <;> rfl
    rw [this]; exact h.graft i hi
  · show 0 ≤ (if i < s.n then (s.h i).send s.now l else s.h i).got ∧ (if i < s.n then (s.h i).send s.now l else s.h i).got + L < _
    rw [if_pos (show i < s.n from hi)]
    have := send_bd s.now l (s.h i)
    have := h.got i hi
    omega
  · show (if i < s.n then (s.h i).send s.now l else s.h i).q.length + L ≤ _
    rw [if_pos (show i < s.n from hi)]
    have := send_bd s.now l (s.h i)
    have := h.q i hi
    omega
theorem Wf.take {s : Nt} {L : Nat} (h : Wf s L) (i : Int) : Wf (s.take i) L := by
  unfold Nt.take
  split
  · rename_i ha
    obtain ⟨k, rfl, hk⟩ := at_of ha
    rw [Int.toNat_natCast]
    refine h.put k _ (h.level k hk) (h.graft k hk) (h.got k hk) ?_
    have h1 := h.q k hk
    have h2 := List.length_filter_le (fun x : It => !decide (x.due ≤ s.now)) (s.h k).q
    show (later s.now (s.h k).q).length + L ≤ _
    unfold later
    omega
  · exact h
theorem Wf.mono {s : Nt} {L M : Nat} (h : Wf s M) (hl : L ≤ M) : Wf s L := ⟨h.level, h.graft, ⟨h.now.1, by have := h.now.2; omega⟩, fun i hi => ⟨(h.got i hi).1, by have := (h.got i hi).2; omega⟩, fun i hi => by have := h.q i hi; omega⟩
theorem send_two {W : World} {nb hb : Nat} {s : Nt} {w0 w5 : World} {L : Nat} (h : LN W nb hb s w0) (hs : Wf s L) (hL : 2 ≤ L) (b1 b2 : Nat) (l1 l2 : List Int) (i1 i2 : Int) (h1 : l1.length ≤ 100 ∧ ∀ x ∈ l1, 0 ≤ x ∧ x < 256) (h2 : l2.length ≤ 100 ∧ ∀ x ∈ l2, 0 ≤ x ∧ x < 256) (g1 : w5.heap[b1]? = some (.cells (l1.map (Value.int .u8)).toArray 5 (0, 0))) (g2 : w5.heap[b2]? = some (.cells (l2.map (Value.int .u8)).toArray 5 (0, 0))) (hb' : Below w0.heap.size w0 w5) (k1 : w0.heap.size ≤ b1) (k2 : w0.heap.size ≤ b2) :
    Calls Tryd.prog 21 #[.pointer (some ⟨nb, 0, none⟩), .slice (some ⟨w5.heap.size, 0, none⟩) 2 2] (w5.alloc (.cells #[.int .i64 i1, .slice (some ⟨b1, 0, none⟩) l1.length l1.length, .int .i64 i2, .slice (some ⟨b2, 0, none⟩) l2.length l2.length] 60)) fun e w' => e = .returned .nilIface ∧ LN W nb hb (s.send [⟨i1, l1⟩, ⟨i2, l2⟩]) w' := by
  have hB : Below w5.heap.size w5 (w5.alloc (.cells #[.int .i64 i1, .slice (some ⟨b1, 0, none⟩) l1.length l1.length, .int .i64 i2, .slice (some ⟨b2, 0, none⟩) l2.length l2.length] 60)) := (Below.refl _ _).alloc (Nat.le_refl _) _
  have q1 := lt_of g1
  have q2 := lt_of g2
  refine sendL (D := fun k => w0.heap.size ≤ k ∧ k ≤ w5.heap.size) (L := L) h (hb'.trans (hB.mono hb'.size)) hs _ _ ?_ (fun k hk => ⟨by simp; omega, .inl hk.1⟩) hL
  exact dg_two (heap_new _ _) ⟨hb'.size, Nat.le_refl _⟩ (rd_lit ((hB.block _ q1).trans g1) ⟨k1, Nat.le_of_lt q1⟩ (by omega) h1.2) (rd_lit ((hB.block _ q2).trans g2) ⟨k2, Nat.le_of_lt q2⟩ (by omega) h2.2)
def aw1 : Nt := (nt0 2).join 0
def aw2 : Nt := aw1.want 0 0
def aw3 : Nt := aw2.send [⟨0, [1, 7]⟩, ⟨1, [1, 8]⟩]
def aw4 : Nt := aw3.take 0
theorem aw_e1 : (nt0 2).joinE 0 = 0 := by decide
theorem aw_e2 : aw1.wantE 0 0 = 0 := by decide
theorem aw_t0 : aw3.taken 0 = [[1, 7]] := by decide
theorem aw_t1 : aw4.taken 1 = [] := by decide
theorem er_zero (c : ByteArray) {n : Int} (h : n = 0) : er c n = none := if_pos h
set_option maxHeartbeats 2000000 in
set_option maxRecDepth 100000 in
theorem awake_calls (w : World) : Calls Tryd.prog 7 #[] w fun e w' => e = .returned (.bool true) ∧ Below w.heap.size w w' := by
  have W0 := Lib.hid (Wf.new 2 100 (by decide))
  have W1 : Hid (Wf aw1 100) := Lib.hid (W0.out.join (by decide) 0)
  have W2 : Hid (Wf aw2 100) := Lib.hid (W1.out.want 0 0)
  have W3 : Hid (Wf aw3 50) := Lib.hid (Wf.send (M := 50) W2.out _ (by decide))
  have W4 : Hid (Wf aw4 50) := Lib.hid (W3.out.take 0)
  go_enter Tryd.func7, Tryd.ntmps7
  go_upto_region 4 with (first
    | (go_at_call 12; refine (newL _ 2 (by decide)).mono ?_; rintro e w1 ⟨nb, hb, rfl, h⟩; have H1 := Lib.hid h; clear h)
    | (go_at_call 16; refine (joinL H1.out 0).mono ?_; rintro e w2 ⟨ev, rfl, he, h⟩; rw [er_zero _ aw_e1] at he; obtain rfl := ErR_nil he; have H2 : Hid (LN w nb hb aw1 w2) := Lib.hid h; clear h he)
    | (go_at_call 18; refine (wantL H2.out W1.out 0 0).mono ?_; rintro e w3 ⟨ev, rfl, he, h⟩; rw [er_zero _ aw_e2] at he; obtain rfl := ErR_nil he; have H3 : Hid (LN w nb hb aw2 w3) := Lib.hid h; clear h he)
    | (go_at_call 29; ((with_reducible refine (dgram_calls _ 0 _ _ _).mono ?_); rintro e w4 ⟨rfl, h4⟩; have G4 : Hid (w4.heap[w3.heap.size]? = some (.cells (([1, 7] : List Int).map (Value.int .u8)).toArray 5 (0, 0)) ∧ Below w3.heap.size w3 w4 ∧ w3.heap.size < w4.heap.size) := Lib.hid ⟨(h4.block _ (by simp)).trans (heap_new _ _), ((Below.refl _ _).alloc (Nat.le_refl _) _).trans (h4.mono (by simp)), Nat.lt_of_lt_of_le (by simp) h4.size⟩; clear h4))
    | (go_at_call 29; ((with_reducible refine (dgram_calls _ 1 _ _ _).mono ?_); rintro e w5 ⟨rfl, h5⟩; have G5 : Hid (w5.heap[w4.heap.size]? = some (.cells (([1, 8] : List Int).map (Value.int .u8)).toArray 5 (0, 0)) ∧ Below w4.heap.size w4 w5 ∧ w4.heap.size < w5.heap.size) := Lib.hid ⟨(h5.block _ (by simp)).trans (heap_new _ _), ((Below.refl _ _).alloc (Nat.le_refl _) _).trans (h5.mono (by simp)), Nat.lt_of_lt_of_le (by simp) h5.size⟩; clear h5))
    | (go_at_call 21; refine (send_two H3.out W2.out (by decide) w3.heap.size w4.heap.size [1, 7] [1, 8] 0 1 (by decide) (by decide) ((G5.out.2.1.block _ G4.out.2.2).trans G4.out.1) G5.out.1 (G4.out.2.1.trans (G5.out.2.1.mono G4.out.2.1.size)) (Nat.le_refl _) G4.out.2.1.size).mono ?_; rintro e w6 ⟨rfl, h6⟩; have H6 : Hid (LN w nb hb aw3 w6) := Lib.hid h6; clear h6))
  go_upto_region 5 with (first
    | (go_at_call 23; refine (takeL H6.out W3.out 0 (by show ∀ x ∈ aw3.taken 0, _; rw [aw_t0]; decide)).mono ?_; rintro e w7 ⟨v, rfl, h, ho⟩; have H7 : Hid (LN w nb hb aw4 w7) := Lib.hid h; have O7 : Hid (OutV w7 v [[1, 7]]) := Lib.hid (by rw [← aw_t0]; exact ho); clear h ho))
  obtain ⟨A, c, rfl, hc, _, hx⟩ := O7.out
  obtain ⟨b, rfl, hx2⟩ := hx (by decide)
  obtain ⟨bv, hb0, hrd⟩ := hx2 0 [1, 7] rfl
  have hconv := hrd.str
  rw [show strOfNums [1, 7] = ⟨#[1, 7]⟩ from rfl] at hconv
  obtain ⟨A2, c2, rfl, _⟩ := hrd
  have hc' : ([[1, 7]] : List (List Int)).length ≤ c := hc
  clear hx hx2 hc
  simp only [List.length_cons, List.length_nil, Nat.zero_add] at hc' hconv hb0 ⊢
  go_wp2_with (first
    | (go_at_call 23; refine (takeL H7.out W4.out 1 (by show ∀ x ∈ aw4.taken 1, _; rw [aw_t1]; intro x hx; cases hx)).mono ?_; rintro e w8 ⟨v, rfl, h, ho⟩; obtain ⟨A8, c8, rfl, _⟩ : ∃ A8 c8, v = .slice A8 0 c8 ∧ True := (by have ho' : OutV w8 v [] := (by rw [← aw_t1]; exact ho); obtain ⟨A8, c8, e8, _⟩ := ho'; exact ⟨A8, c8, e8, trivial⟩); have H8 := Lib.hid h.bel; clear h ho))
  go_ret
  exact ⟨rfl, H8.out⟩
end Go.Proofs.YtpfpdbbgiimnmaaDoor.Net
