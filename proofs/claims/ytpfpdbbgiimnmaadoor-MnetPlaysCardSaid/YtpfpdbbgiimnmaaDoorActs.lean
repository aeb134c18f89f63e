/- CALLS OF A NET AS VALUES: what an act does to a net; its numbers stay as they may be. No memory in sight. Conditions: none. -/
import Derived.Test.YtpfpdbbgiimnmaaDoorDbl
import Derived.Test.YtpfpdbbgiimnmaaDoorAwake
namespace Go.Proofs.YtpfpdbbgiimnmaaDoor.Net
set_option linter.unusedSimpArgs false
set_option linter.unusedVariables false
open Go.RowKit Go.Deep Go.Proofs.YtpfpdbbgiimnmaaDoor.Er Go.Proofs.YtpfpdbbgiimnmaaDoor.Mod Go.Proofs.YtpfpdbbgiimnmaaDoorW.PrintWords
structure AV where
  kind : Int
  host : Int
  n : Int
  m : Int
  mask : Int
  b : List Int
  l : List Dg
structure AV.Ok (a : AV) : Prop where
  mask : 0 ≤ a.mask ∧ a.mask < 4294967296
  m : -9223372036854775808 ≤ a.m ∧ a.m ≤ 9223372036854775807
  kind : -9223372036854775808 ≤ a.kind ∧ a.kind ≤ 9223372036854775807
  host : -9223372036854775808 ≤ a.host ∧ a.host ≤ 9223372036854775807
  n : -9223372036854775808 ≤ a.n ∧ a.n ≤ 9223372036854775807
def Nt.act (s : Nt) (a : AV) : Nt :=
  if a.kind = 0 then s.join a.host else if a.kind = 1 then s.leave a.host else if a.kind = 2 then s.want a.host a.n else if a.kind = 3 then s.setGraft a.host a.n
  else if a.kind = 4 then s.setCap a.host a.n else if a.kind = 5 then s.send (a.l.take 20) else if a.kind = 6 then s.tick else if a.kind = 7 then s.take a.host
  else if a.kind = 8 then s.drop a.host a.n else if a.kind = 9 then s.double a.host a.n else if a.kind = 10 then s.delay a.host a.n a.m
  else if a.kind = 11 then s.spoil a.host a.n a.m a.mask else if a.kind = 12 then s.inject a.host a.b else s
theorem drop_n (s : Nt) (i k : Int) : (s.drop i k).n = s.n := by unfold Nt.drop; split <;> rfl
theorem double_n (s : Nt) (i k : Int) : (s.double i k).n = s.n := by unfold Nt.double; split <;> rfl
theorem delay_n (s : Nt) (i k t : Int) : (s.delay i k t).n = s.n := by unfold Nt.delay; split <;> rfl
theorem spoil_n (s : Nt) (i k a m : Int) : (s.spoil i k a m).n = s.n := by unfold Nt.spoil; split <;> rfl
theorem inject_n (s : Nt) (i : Int) (b : List Int) : (s.inject i b).n = s.n := by unfold Nt.inject; split <;> rfl
theorem ite_p {P : Nt → Prop} {c : Prop} [Decidable c] {x y : Nt} (h1 : P x) (h2 : P y) : P (if c then x else y) := by
  by_cases h : c
  · rw [if_pos h]; exact h1
  · rw [if_neg h]; exact h2
theorem act_ind {P : Nt → Prop} (s : Nt) (a : AV) (h0 : P (s.join a.host)) (h1 : P (s.leave a.host)) (h2 : P (s.want a.host a.n)) (h3 : P (s.setGraft a.host a.n)) (h4 : P (s.setCap a.host a.n)) (h5 : P (s.send (a.l.take 20))) (h6 : P s.tick) (h7 : P (s.take a.host)) (h8 : P (s.drop a.host a.n)) (h9 : P (s.double a.host a.n)) (h10 : P (s.delay a.host a.n a.m)) (h11 : P (s.spoil a.host a.n a.m a.mask)) (h12 : P (s.inject a.host a.b)) (h13 : P s) : P (Nt.act s a) :=
  ite_p h0 (ite_p h1 (ite_p h2 (ite_p h3 (ite_p h4 (ite_p h5 (ite_p h6 (ite_p h7 (ite_p h8 (ite_p h9 (ite_p h10 (ite_p h11 (ite_p h12 h13))))))))))))
theorem act_n (s : Nt) (a : AV) : (Nt.act s a).n = s.n := act_ind (P := fun t => t.n = s.n) s a (join_n _ _) (leave_n _ _) (want_n _ _ _) (graft_n _ _ _) (cap_n _ _ _) rfl rfl (take_n _ _) (drop_n _ _ _) (double_n _ _ _) (delay_n _ _ _ _) (spoil_n _ _ _ _ _) (inject_n _ _ _) rfl
/-- A net's numbers are as they may be; L more acts may come. -/
structure Wg (s : Nt) (L : Nat) : Prop where
  wf : Wf s (L * 100)
  due : ∀ k, k < s.n → ∀ x ∈ (s.h k).q, 0 ≤ x.due ∧ x.due + (L * 100 : Nat) < 5000000000000
theorem Wg.new (n L : Nat) (hL : L ≤ 1000) : Wg (nt0 n) L := ⟨Wf.new n _ (by omega), fun _ _ x hx => by cases hx⟩
theorem Wg.mono {s : Nt} {L : Nat} (h : Wg s (L + 1)) : Wg s L := ⟨h.wf.mono (by omega), fun k hk x hx => by have := h.due k hk x hx; omega⟩
theorem Wg.put {s : Nt} {L : Nat} (h : Wg s (L + 1)) (k : Nat) (x : Ho) (h1 : -1 ≤ x.level ∧ x.level < 8) (h2 : 0 ≤ x.graft ∧ x.graft ≤ 64) (h3 : 0 ≤ x.got ∧ x.got + (L * 100 : Nat) < 5000000000000) (h4 : x.q.length + L * 100 ≤ 5000000000000) (h5 : ∀ y ∈ x.q, 0 ≤ y.due ∧ y.due + (L * 100 : Nat) < 5000000000000) : Wg (s.put k x) L := by
  refine ⟨h.mono.wf.put k x h1 h2 h3 h4, fun i hi y hy => ?_⟩
  unfold Nt.put at hy
  dsimp only at hy
  split at hy
  · exact h5 y hy
  · exact h.mono.due i hi y hy
/-- Where a call puts host k, its numbers are bounded. -/
theorem Wg.host {s : Nt} {L : Nat} (h : Wg s (L + 1)) (k : Nat) (hk : k < s.n) : (-1 ≤ (s.h k).level ∧ (s.h k).level < 8) ∧ (0 ≤ (s.h k).graft ∧ (s.h k).graft ≤ 64) ∧ (0 ≤ (s.h k).got ∧ (s.h k).got + (L * 100 : Nat) < 5000000000000) ∧ (s.h k).q.length + L * 100 + 100 ≤ 5000000000000 ∧ (∀ y ∈ (s.h k).q, 0 ≤ y.due ∧ y.due + (L * 100 : Nat) + 100 < 5000000000000) :=
  ⟨h.wf.level k hk, h.wf.graft k hk, ⟨(h.wf.got k hk).1, by have := (h.wf.got k hk).2; omega⟩, by have := h.wf.q k hk; omega, fun y hy => ⟨(h.due k hk y hy).1, by have := (h.due k hk y hy).2; omega⟩⟩
theorem at_put {s : Nt} {i E : Int} (he : E = 0) (hE : ¬ s.at i = 0 → E = s.at i) : ∃ k : Nat, i = (k : Int) ∧ k < s.n := by
  by_cases ha : s.at i = 0
  · exact at_of ha
  · exact absurd ((hE ha).symm.trans he) ha
theorem Wg.join {s : Nt} {L : Nat} (h : Wg s (L + 1)) (i : Int) : Wg (s.join i) L := by
  unfold Nt.join
  split
  · rename_i e
    obtain ⟨k, rfl, hk⟩ := at_put e (fun ha => if_neg ha)
    obtain ⟨h1, h2, h3, h4, h5⟩ := h.host k hk
    rw [Int.toNat_natCast]
    exact h.put k _ (by simp) h2 h3 (by simp; omega) (by simp)
  · exact h.mono
theorem Wg.leave {s : Nt} {L : Nat} (h : Wg s (L + 1)) (i : Int) : Wg (s.leave i) L := by
  unfold Nt.leave
  split
  · rename_i e
    obtain ⟨k, rfl, hk⟩ := at_put e (fun ha => if_neg ha)
    obtain ⟨h1, h2, h3, h4, h5⟩ := h.host k hk
    rw [Int.toNat_natCast]
    exact h.put k _ (by simp) h2 h3 (by simp; omega) (by simp)
  · exact h.mono
theorem Wg.want {s : Nt} {L : Nat} (h : Wg s (L + 1)) (i l : Int) : Wg (s.want i l) L := by
  refine ⟨(h.wf.mono (by omega)).want i l, fun k hk x hx => ?_⟩
  have e : ((s.want i l).h k).q = (s.h k).q := by
    unfold Nt.want
    split
    · unfold Nt.put; dsimp only; split
      · rename_i e; subst e; rfl
      · rfl
    · rfl
  rw [e] at hx
  rw [want_n] at hk
  exact h.mono.due k hk x hx
theorem Wg.graft {s : Nt} {L : Nat} (h : Wg s (L + 1)) (i t : Int) : Wg (s.setGraft i t) L := by
  unfold Nt.setGraft
  split
  · rename_i e
    obtain ⟨k, rfl, hk⟩ := at_put e (fun ha => if_neg ha)
    obtain ⟨h1, h2, h3, h4, h5⟩ := h.host k hk
    have ht : 0 ≤ t ∧ t ≤ 64 := by
      unfold Nt.graftE at e
      rw [if_pos (at_nat hk)] at e
      split at e
      · omega
      · omega
    rw [Int.toNat_natCast]
    exact h.put k _ h1 ht h3 (by simp; omega) (fun y hy => ⟨(h5 y hy).1, by have := (h5 y hy).2; omega⟩)
  · exact h.mono
theorem Wg.cap {s : Nt} {L : Nat} (h : Wg s (L + 1)) (i t : Int) : Wg (s.setCap i t) L := by
  unfold Nt.setCap
  split
  · rename_i e
    obtain ⟨k, rfl, hk⟩ := at_put e (fun ha => if_neg ha)
    obtain ⟨h1, h2, h3, h4, h5⟩ := h.host k hk
    rw [Int.toNat_natCast]
    exact h.put k _ h1 h2 h3 (by simp; omega) (fun y hy => ⟨(h5 y hy).1, by have := (h5 y hy).2; omega⟩)
  · exact h.mono
theorem send1_mem (now : Int) (x : Ho) (d : Dg) (y : It) (hy : y ∈ (x.send1 now d).q) : y ∈ x.q ∨ y.due = now := by
  unfold Ho.send1 at hy
  split at hy
  · rcases List.mem_append.1 hy with e | e
    · exact .inl e
    · obtain rfl : y = ⟨d.b, now, false⟩ := by simpa using e
      exact .inr rfl
  · exact .inl hy
theorem send_mem (now : Int) : ∀ (l : List Dg) (x : Ho) (y : It), y ∈ (x.send now l).q → y ∈ x.q ∨ y.due = now
  | [], x, y, hy => .inl hy
  | d :: l, x, y, hy => by
    rcases send_mem now l (x.send1 now d) y hy with e | e
    · exact send1_mem now x d y e
    · exact .inr e
theorem Wg.send {s : Nt} {L : Nat} (h : Wg s (L + 1)) (l : List Dg) (hl : l.length ≤ 20) : Wg (s.send l) L := by
  refine ⟨Wf.send (M := 100) (h.wf.mono (by omega)) l (by omega), fun k hk x hx => ?_⟩
  have hk' : k < s.n := hk
  have e : (s.send l).h k = (s.h k).send s.now l := if_pos hk'
  rw [e] at hx
  rcases send_mem _ _ _ _ hx with e2 | e2
  · exact h.mono.due k hk' x e2
  · rw [e2]; have := h.wf.now; omega
theorem Wg.tick {s : Nt} {L : Nat} (h : Wg s (L + 1)) : Wg s.tick L := by
  have key : ∀ i, i < s.n → (s.tick.h i) = { s.h i with got := 0 } := fun i hi => if_pos hi
  refine ⟨⟨fun i hi => ?_, fun i hi => ?_, ?_, fun i hi => ?_, fun i hi => ?_⟩, fun i hi x hx => ?_⟩
  · rw [key i hi]; exact h.wf.level i hi
  · rw [key i hi]; exact h.wf.graft i hi
  · show 0 ≤ s.now + 1 ∧ s.now + 1 + _ < _; have := h.wf.now; omega
  · rw [key i hi]; show (0 : Int) ≤ 0 ∧ (0 : Int) + _ < _; have := h.wf.now; omega
  · rw [key i hi]; have := h.wf.q i hi; show (s.h i).q.length + _ ≤ _; omega
  · rw [key i hi] at hx; exact h.mono.due i hi x hx
theorem Wg.take {s : Nt} {L : Nat} (h : Wg s (L + 1)) (i : Int) : Wg (s.take i) L := by
  unfold Nt.take
  split
  · rename_i ha
    obtain ⟨k, rfl, hk⟩ := at_of ha
    obtain ⟨h1, h2, h3, h4, h5⟩ := h.host k hk
    rw [Int.toNat_natCast]
    have hlen := List.length_filter_le (fun x : It => !decide (x.due ≤ s.now)) (s.h k).q
    refine h.put k _ h1 h2 h3 ?_ (fun y hy => ?_)
    · show (later s.now (s.h k).q).length + _ ≤ _; unfold later; omega
    · have := h5 y (List.mem_filter.1 hy).1; omega
  · exact h.mono
theorem place_put {s : Nt} {i k : Int} (he : s.placeE i k = 0) : ∃ i0 k0 : Nat, i = (i0 : Int) ∧ k = (k0 : Int) ∧ i0 < s.n ∧ k0 < (s.h i0).q.length := place_at he
theorem Wg.drop {s : Nt} {L : Nat} (h : Wg s (L + 1)) (i k : Int) : Wg (s.drop i k) L := by
  unfold Nt.drop
  split
  · rename_i e
    obtain ⟨i, k, rfl, rfl, hi, hk⟩ := place_at e
    obtain ⟨h1, h2, h3, h4, h5⟩ := h.host i hi
    rw [Int.toNat_natCast, Int.toNat_natCast]
    refine h.put i _ h1 h2 h3 ?_ (fun y hy => ?_)
    · simp only [List.length_append, List.length_take, List.length_drop]; omega
    · have : y ∈ (s.h i).q := by
        rcases List.mem_append.1 hy with e | e
        · exact List.mem_of_mem_take e
        · exact List.mem_of_mem_drop e
      have := h5 y this; omega
  · exact h.mono
theorem Wg.double {s : Nt} {L : Nat} (h : Wg s (L + 1)) (i k : Int) : Wg (s.double i k) L := by
  unfold Nt.double
  split
  · rename_i e
    obtain ⟨i, k, rfl, rfl, hi, hk⟩ := place_at e
    obtain ⟨h1, h2, h3, h4, h5⟩ := h.host i hi
    rw [Int.toNat_natCast, Int.toNat_natCast]
    refine h.put i _ h1 h2 h3 ?_ (fun y hy => ?_)
    · simp only [List.length_append, List.length_take, List.length_drop]; omega
    · have : y ∈ (s.h i).q := by
        rcases List.mem_append.1 hy with e | e
        · exact List.mem_of_mem_take e
        · exact List.mem_of_mem_drop e
      have := h5 y this; omega
  · exact h.mono
theorem mem_modify {α : Type} {l : List α} {k : Nat} {f : α → α} {y : α} (h : y ∈ l.modify k f) : y ∈ l ∨ ∃ x ∈ l, y = f x := by
  obtain ⟨j, hj⟩ := List.getElem?_of_mem h
  rw [List.getElem?_modify] at hj
  cases hx : l[j]? with
  | none => rw [hx] at hj; cases hj
  | some x =>
    rw [hx] at hj
    by_cases e : k = j
    · simp [e] at hj; exact .inr ⟨x, List.mem_of_getElem? hx, hj.symm⟩
    · simp [e] at hj; exact .inl (hj ▸ List.mem_of_getElem? hx)
theorem Wg.delay {s : Nt} {L : Nat} (h : Wg s (L + 1)) (i k t : Int) : Wg (s.delay i k t) L := by
  unfold Nt.delay
  split
  · rename_i e
    have e0 := e
    unfold Nt.delayE at e
    split at e
    · rename_i e1
      obtain ⟨i, k, rfl, rfl, hi, hk⟩ := place_at e1
      obtain ⟨h1, h2, h3, h4, h5⟩ := h.host i hi
      have ht : 0 ≤ t ∧ t ≤ 64 := by
        split at e
        · omega
        · omega
      rw [Int.toNat_natCast, Int.toNat_natCast]
      refine h.put i _ h1 h2 h3 ?_ (fun y hy => ?_)
      · simp only [List.length_modify]; omega
      · rcases mem_modify hy with e | ⟨x, hx, rfl⟩
        · have := h5 y e; omega
        · have := h5 x hx; show 0 ≤ x.due + t ∧ x.due + t + _ < _; omega
    · rename_i e1; exact absurd e e1
  · exact h.mono
theorem Wg.spoil {s : Nt} {L : Nat} (h : Wg s (L + 1)) (i k a m : Int) : Wg (s.spoil i k a m) L := by
  unfold Nt.spoil
  split
  · rename_i e
    unfold Nt.spoilE at e
    split at e
    · rename_i e1
      obtain ⟨i, k, rfl, rfl, hi, hk⟩ := place_at e1
      obtain ⟨h1, h2, h3, h4, h5⟩ := h.host i hi
      rw [Int.toNat_natCast, Int.toNat_natCast]
      refine h.put i _ h1 h2 h3 ?_ (fun y hy => ?_)
      · simp only [List.length_modify]; omega
      · rcases mem_modify hy with e | ⟨x, hx, rfl⟩
        · have := h5 y e; omega
        · have := h5 x hx; show 0 ≤ x.due ∧ x.due + _ < _; omega
    · rename_i e1; exact absurd e e1
  · exact h.mono
theorem Wg.inject {s : Nt} {L : Nat} (h : Wg s (L + 1)) (i : Int) (b : List Int) : Wg (s.inject i b) L := by
  unfold Nt.inject
  split
  · rename_i e
    obtain ⟨k, rfl, hk⟩ := at_put e (fun ha => if_neg ha)
    obtain ⟨h1, h2, h3, h4, h5⟩ := h.host k hk
    rw [Int.toNat_natCast]
    refine h.put k _ h1 h2 h3 ?_ (fun y hy => ?_)
    · simp only [List.length_append, List.length_cons, List.length_nil]; omega
    · rcases List.mem_append.1 hy with e | e
      · have := h5 y e; omega
      · obtain rfl : y = ⟨b, s.now, false⟩ := by simpa using e
        show 0 ≤ s.now ∧ s.now + _ < _; have := h.wf.now; omega
  · exact h.mono
theorem Wg.act {s : Nt} {L : Nat} (h : Wg s (L + 1)) (a : AV) : Wg (Nt.act s a) L := act_ind (P := fun t => Wg t L) s a (h.join _) (h.leave _) (h.want _ _) (h.graft _ _) (h.cap _ _) (h.send _ (by rw [List.length_take]; omega)) h.tick (h.take _) (h.drop _ _) (h.double _ _) (h.delay _ _ _) (h.spoil _ _ _ _) (h.inject _ _) h.mono
end Go.Proofs.YtpfpdbbgiimnmaaDoor.Net
