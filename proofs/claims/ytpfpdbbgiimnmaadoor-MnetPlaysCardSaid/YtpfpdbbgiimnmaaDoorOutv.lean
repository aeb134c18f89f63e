/- Lists of bytes and datagrams, as they may be read, one by one; small numbers. Conditions: none. -/
import Derived.Test.YtpfpdbbgiimnmaaDoorDgs
namespace Go.Proofs.YtpfpdbbgiimnmaaDoor.Net
set_option linter.unusedSimpArgs false
set_option linter.unusedVariables false
open Go.RowKit Go.Deep Go.Proofs.YtpfpdbbgiimnmaaDoor.Er Go.Proofs.YtpfpdbbgiimnmaaDoor.Mod Go.Proofs.YtpfpdbbgiimnmaaDoorW.PrintWords
theorem utm_ (a m : Int) (h1 : 1 ≤ m) (h2 : m ≤ 9223372036854775807) : 0 ≤ wrap64 (Int.tmod (IntKind.u64.wrap a) m) ∧ wrap64 (Int.tmod (IntKind.u64.wrap a) m) < m := by
  rw [IntKind.wrap_u64, Int.tmod_eq_emod_of_nonneg (by omega)]
  have h3 := Int.emod_nonneg (a % 18446744073709551616) (b := m) (by omega)
  have h4 := Int.emod_lt_of_pos (a % 18446744073709551616) (b := m) (by omega)
  unfold wrap64
  omega
theorem OutV.form {w : World} {v : Value} {l : List (List Int)} (h : OutV w v l) : ∃ A c, v = .slice A l.length c ∧ l.length ≤ c ∧ l.length ≤ 5000000000000 := by obtain ⟨A, c, h1, h2, h3, _⟩ := h; exact ⟨A, c, h1, h2, h3⟩
theorem OutV.below {w w' : World} {v : Value} {l : List (List Int)} (h : OutV w v l) (hb : Below w.heap.size w w') : OutV w' v l := by
  obtain ⟨A, c, h1, h2, h3, h4⟩ := h
  refine ⟨A, c, h1, h2, h3, fun hne => ?_⟩
  obtain ⟨b, e, hx⟩ := h4 hne
  refine ⟨b, e, fun j x hj => ?_⟩
  obtain ⟨bv, e1, e2⟩ := hx j x hj
  refine ⟨bv, (hb.cell (World.block_lt_of_cell? w _ e1)).trans e1, ?_⟩
  obtain ⟨A2, c2, k1, k2, k3, k4, k5⟩ := e2
  refine ⟨A2, c2, k1, k2, k3, k4, fun hne => ?_⟩
  obtain ⟨a, q1, _, q3⟩ := k5 hne
  exact ⟨a, q1, trivial, fun j x hj => (hb.cell (World.block_lt_of_cell? w _ (q3 j x hj))).trans (q3 j x hj)⟩
theorem RdB.drewN {D : Nat → Prop} {w : World} {v : Value} {l : List Int} (h : RdB D w v l) (n : Nat) : RdB D (w.drewN n) v l := h
/-- The bytes of one place of what was taken, and of one datagram. -/
def StrAt (w : World) (v : Value) (l : List Int) : Prop := ∀ n, (convert 22 9 v).run Tryd.prog (w.drewN n) = .ok (.string (strOfNums l)) (w.drewN n)
theorem RdB.strs {D : Nat → Prop} {w : World} {v : Value} {l : List Int} (h : RdB D w v l) : StrAt w v l := fun n => (h.drewN n).str
theorem DgIs.small {D : Nat → Prop} {w : World} {v : Value} {l : List Dg} (h : DgIs D w v l) (j : Nat) (d : Dg) (hj : l[j]? = some d) : d.b.length ≤ 140737488355328 := by
  obtain ⟨_, _, _, _, _, h5⟩ := h
  obtain ⟨ab, ao, _, _, h6⟩ := h5 (by rintro rfl; cases hj)
  obtain ⟨bv, _, _, h7⟩ := h6 j d hj
  obtain ⟨_, _, _, _, h8, _⟩ := h7
  exact h8
/-- One datagram of a row, as it is read. -/
theorem DgIs.at_ {D : Nat → Prop} {w : World} {A : Option Addr} {m c : Nat} {l : List Dg} (h : DgIs D w (.slice A m c) l) (j : Nat) (d : Dg) (hj : l[j]? = some d) : ∃ ab ao A2 c2, A = some ⟨ab, ao, none⟩ ∧ w.cell? ⟨ab, ao + j * 2, none⟩ = some (.int .i64 d.layer) ∧ w.cell? ⟨ab, ao + j * 2 + 1, none⟩ = some (.slice A2 d.b.length c2) ∧ StrAt w (.slice A2 d.b.length c2) d.b := by
  obtain ⟨A', c', e1, _, _, h5⟩ := h
  obtain ⟨ab, ao, rfl, _, h6⟩ := h5 (by rintro rfl; cases hj)
  obtain ⟨bv, k1, k2, h7⟩ := h6 j d hj
  have hs := h7.strs
  obtain ⟨A2, c2, rfl, _⟩ := h7
  cases e1
  exact ⟨ab, ao, A2, c2, rfl, k1, k2, hs⟩
theorem OutV.at_ {w : World} {A : Option Addr} {n c : Nat} {l : List (List Int)} (h : OutV w (.slice A n c) l) (j : Nat) (x : List Int) (hj : l[j]? = some x) : ∃ b A2 c2, A = some ⟨b, 0, none⟩ ∧ w.cell? ⟨b, j, none⟩ = some (.slice A2 x.length c2) ∧ StrAt w (.slice A2 x.length c2) x := by
  obtain ⟨A', c', e1, _, _, h5⟩ := h
  obtain ⟨b, rfl, h6⟩ := h5 (by rintro rfl; cases hj)
  obtain ⟨bv, k1, h7⟩ := h6 j x hj
  have hs := h7.strs
  obtain ⟨A2, c2, rfl, _⟩ := h7
  cases e1
  exact ⟨b, A2, c2, rfl, k1, hs⟩
/-- Of a datagram's bytes, the first one. -/
theorem DgIs.first {D : Nat → Prop} {w : World} {A : Option Addr} {m c : Nat} {l : List Dg} (h : DgIs D w (.slice A m c) l) (j : Nat) (d : Dg) (hj : l[j]? = some d) : ∃ ab ao A2 c2, A = some ⟨ab, ao, none⟩ ∧ w.cell? ⟨ab, ao + j * 2, none⟩ = some (.int .i64 d.layer) ∧ w.cell? ⟨ab, ao + j * 2 + 1, none⟩ = some (.slice A2 d.b.length c2) ∧ StrAt w (.slice A2 d.b.length c2) d.b ∧ d.b.length ≤ c2 ∧ d.b.length ≤ 140737488355328 ∧ ∀ b0 bs, d.b = b0 :: bs → ∃ xb xo, A2 = some ⟨xb, xo, none⟩ ∧ w.cell? ⟨xb, xo, none⟩ = some (.int .u8 b0) := by
  obtain ⟨A', c', e1, _, _, h5⟩ := h
  obtain ⟨ab, ao, rfl, _, h6⟩ := h5 (by rintro rfl; cases hj)
  obtain ⟨bv, k1, k2, h7⟩ := h6 j d hj
  have hs := h7.strs
  obtain ⟨A2, c2, rfl, q1, q2, _, q3⟩ := h7
  cases e1
  refine ⟨ab, ao, A2, c2, rfl, k1, k2, hs, q1, q2, fun b0 bs hb => ?_⟩
  obtain ⟨⟨xb, xo, sp⟩, rfl, _, hx⟩ := q3 (by rw [hb]; exact List.cons_ne_nil _ _)
  have c0 := hx 0 b0 (by rw [hb]; rfl)
  have e : (⟨xb, xo, sp⟩ : Addr).add 0 = ⟨xb, xo, sp⟩ := rfl
  rw [e] at c0
  obtain rfl : sp = none := by
    unfold World.cell? at c0
    cases sp
    · rfl
    · simp at c0; split at c0 <;> simp_all
  exact ⟨xb, xo, rfl, c0⟩
theorem DgIs.take {D : Nat → Prop} {w : World} {A : Option Addr} {m c : Nat} {l : List Dg} (h : DgIs D w (.slice A m c) l) (k : Nat) (hk : k ≤ m) : DgIs D w (.slice A k c) (l.take k) := by
  obtain ⟨A', c', e1, h2, h3, h5⟩ := h
  cases e1
  have hl : (l.take k).length = k := by rw [List.length_take]; omega
  refine ⟨A, c, by rw [hl], by rw [hl]; omega, by rw [hl]; omega, fun hne => ?_⟩
  have hne' : l ≠ [] := by rintro rfl; exact hne List.take_nil
  obtain ⟨ab, ao, e, hD, hx⟩ := h5 hne'
  refine ⟨ab, ao, e, hD, fun j d hj => hx j d ?_⟩
  have hj1 : j < k := by rw [← hl]; exact (List.getElem?_eq_some_iff.1 hj).1
  rw [List.getElem?_take, if_pos hj1] at hj
  exact hj
end Go.Proofs.YtpfpdbbgiimnmaaDoor.Net
