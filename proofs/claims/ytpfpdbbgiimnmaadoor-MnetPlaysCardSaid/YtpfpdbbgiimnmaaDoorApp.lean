/- What append does to a queue and to bytes. Conditions: fewer than 2^40. -/
import Derived.Test.YtpfpdbbgiimnmaaDoorGets
import Derived.Deep.Upon
import Derived.Deep.DeepAppendWide
import Derived.Laws.Tables
namespace Go.Proofs.YtpfpdbbgiimnmaaDoor.Net
set_option linter.unusedSimpArgs false
set_option linter.unusedVariables false
open Go.RowKit Go.Deep Go.Proofs.YtpfpdbbgiimnmaaDoor.Er Go.Proofs.YtpfpdbbgiimnmaaDoor.Mod Go.Proofs.YtpfpdbbgiimnmaaDoorW.PrintWords
theorem infoI : (Tryd.prog.info? 74).map (fun i => (i.zero, i.size, i.bytes)) = some (some (.agg #[.slice none 0 0, .int .i64 0, .bool false]), 3, 40) := by kernel_rfl
theorem infoU : (Tryd.prog.info? 5).map (fun i => (i.zero, i.size, i.bytes)) = some (some (.int .u8 0), 1, 1) := by kernel_rfl
theorem info_parts {t : TypeId} {z : Value} {n b : Nat} (h : (Tryd.prog.info? t).map (fun i => (i.zero, i.size, i.bytes)) = some (some z, n, b)) : ∃ i, Tryd.prog.info? t = some i ∧ i.zero = some z ∧ i.size = n ∧ i.bytes = b := by
  cases hi : Tryd.prog.info? t with
  | none => rw [hi] at h; cases h
  | some i =>
    rw [hi] at h
    simp only [Option.map_some, Option.some.injEq, Prod.mk.injEq] at h
    exact ⟨i, rfl, h.1, h.2.1, h.2.2⟩
theorem Fr.setRow {w w' : World} {S : Nat → Prop} (h : Fr w w' S) {g : Nat} (hg : S g ∨ w.heap.size ≤ g) (cs : Array Value) : Fr w (w'.setRow g cs) S :=
  ⟨h.os, h.tape, h.output, by simpa using h.size, fun k hk hs => by
    have hne : k ≠ g := by
      rintro rfl
      rcases hg with hg | hg
      · exact hs hg
      · omega
    exact (setRow_other _ _ _ _ hne).trans (h.block k hk hs)⟩
theorem run_grows_wide {w : World} (t ty e : TypeId) (i : TypeInfo) (z : Value) (size bytes : Nat) (ht : Tryd.prog.underlying t = some (.slice e)) (hi : Tryd.prog.info? e = some i) (hz : i.zero = some z)
    (hsize : i.size = size) (hby : i.bytes = bytes) (hzs : z.cells.size = size) (hsz : 0 < size)
    (b : Addr) (n cap : Nat) (olds : List Value) (hlo : olds.length = n * size) (holds : ∀ j u, olds[j]? = some u → w.cell? (b.add j) = some u)
    (a : Addr) (m c : Nat) (news : List Value) (hl : news.length = m * size) (hnews : ∀ j u, news[j]? = some u → w.cell? (a.add j) = some u)
    (hg : cap < n + m) (h63 : n + m ≤ maxLen) (hbytes : ((n + m) + (n + m) / 4 + 192) * bytes ≤ 281474976710656) :
    ∃ v' w', (Builtin.append_ #[t, t] ty #[.slice (some b) n cap, .slice (some a) m c]).run Tryd.prog w = .ok v' w' ∧ w'.ownsRow w.heap.size e size v' (n + m) (olds ++ news) ∧ w.grownBy w' none := by
  subst hsize
  subst hby
  have hsmall : n + m ≤ 9223372036854775807 := by simp only [maxLen] at h63; omega
  have hlen : (olds ++ news).length = (n + m) * i.size := by rw [List.length_append, hlo, hl, Nat.add_mul]
  have hge := grownCap_ge w (n + m) cap e
  have hcm : grownCap w (n + m) cap e ≤ maxLen := grownCap_le_maxLen w (n + m) cap e h63
  have hr := run_append_grow (P := Tryd.prog) w t ty e i z ht hi hz b n cap olds hlo holds a m c news hl hnews hg (by omega) (growslice_fits_wide hg hbytes)
  refine ⟨_, _, hr, ⟨hlen, .inr ⟨w.heap.size, _, _, rfl, Nat.le_refl _, heap_alloc_new w.drew _, hge, hcm, ?_, ?_⟩⟩, ⟨rfl, rfl, rfl, by simp, fun k hk _ => Below.heap_alloc w.drew _ k (by simpa using hk)⟩⟩
  · simp only [Array.size_append, List.size_toArray, size_zeroCells, hzs, hlo, hl, ← Nat.add_mul]
    refine congrArg (fun x => x * i.size) ?_
    omega
  · simp only [Array.toList_append, List.append_assoc]
    rw [← List.append_assoc, ← hlen]
    exact List.take_left
/-- One item more. -/
theorem QR.append {w : World} {v : Value} {n : Nat} {xs : List Value} (h : QR w v n xs) (hn : n ≤ 5000000000000) (ty : TypeId) (a : Addr) (c : Nat) (i0 i1 i2 : Value) (hc : ∀ j u, ([i0, i1, i2] : List Value)[j]? = some u → w.cell? (a.add j) = some u) (h1 : ∀ u ∈ ([i0, i1, i2] : List Value), u.oneCell' = true) :
    ∃ v' w', (Builtin.append_ #[67, 67] ty #[v, .slice (some a) 1 c]).run Tryd.prog w = .ok v' w' ∧ QR w' v' (n + 1) (xs ++ [i0, i1, i2]) ∧ Fr w w' (fun b => v.ownBlock = some b) ∧ (∀ b, v'.ownBlock = some b → v.ownBlock = some b ∨ w.heap.size ≤ b) := by
  obtain ⟨i, hi, hz0, hz1, hz2⟩ := info_parts infoI
  obtain ⟨hl, hv⟩ := h
  rcases hv with ⟨rfl, rfl⟩ | ⟨b, cap, cur, rfl, hcur, k1, k2, k3, k4⟩
  · obtain ⟨v', w', hr, ho, hg, _⟩ := run_append_own (P := Tryd.prog) w w.heap.size 67 ty 74 i _ 3 40 Tryd.underlying67 hi hz0 hz1 hz2 rfl (by decide) (.slice none 0 0) 0 [] ⟨rfl, .inl ⟨rfl, rfl⟩⟩ a 1 c [i0, i1, i2] rfl hc h1 (by decide) (by decide) (Nat.le_refl _)
    obtain rfl : xs = [] := by cases xs with | nil => rfl | cons _ _ => simp at hl
    refine ⟨v', w', hr, QR.of_own ho, (Fr.refl _ _).grown hg (fun k e => by cases e), fun b hb => .inr ?_⟩
    rcases ho.2 with ⟨_, e⟩ | ⟨g, _, _, rfl, hg2, _⟩
    · omega
    · cases hb; exact hg2
  · by_cases hr : n + 1 ≤ cap
    · have hrun := run_append_room (P := Tryd.prog) w 67 ty 74 i Tryd.underlying67 hi b n cap cur hcur a 1 c [i0, i1, i2] (by rw [hz1]; rfl) hc h1 hr (by rw [hz1]; show n * 3 + 3 ≤ _; omega)
      rw [hz1] at hrun
      refine ⟨_, _, hrun, ⟨by simp [hl]; omega, .inr ⟨b, cap, _, rfl, setRow_heap _ _ _ _ _ _ hcur, hr, k2, ?_, ?_⟩⟩, Fr.setRow (S := fun k => (Value.slice (some ⟨b, 0, none⟩) n cap).ownBlock = some k) (Fr.refl w _) (g := b) (.inl rfl) _, fun b' hb => .inl hb⟩
      · simp only [List.size_toArray, List.length_append, List.length_take, List.length_drop, Array.length_toList, List.length_cons, List.length_nil]
        omega
      · rw [k4]
        show List.take ((n + 1) * 3) (xs ++ [i0, i1, i2] ++ _) = _
        rw [List.take_append_of_le_length (by simp [hl]; omega), List.take_of_length_le (by simp [hl]; omega)]
    · have hold : ∀ j u, xs[j]? = some u → w.cell? ((⟨b, 0, none⟩ : Addr).add j) = some u := by
        intro j u hu
        have hj : j < n * 3 := by rw [← hl]; exact (List.getElem?_eq_some_iff.1 hu).1
        rw [← k4, List.getElem?_take, if_pos hj] at hu
        have hadd : (⟨b, 0, none⟩ : Addr).add j = ⟨b, j, none⟩ := by unfold Addr.add; split <;> simp_all
        rw [hadd]
        simpa [World.cell?, hcur] using hu
      obtain ⟨v', w', hr2, ho, hg⟩ := run_grows_wide 67 ty 74 i _ 3 40 Tryd.underlying67 hi hz0 hz1 hz2 rfl (by decide) ⟨b, 0, none⟩ n cap xs hl hold a 1 c [i0, i1, i2] rfl hc (by omega) (by simp only [maxLen]; omega) (by omega)
      refine ⟨v', w', hr2, QR.of_own ho, (Fr.refl _ _).grown hg (fun k e => by cases e), fun b hb => .inr ?_⟩
      rcases ho.2 with ⟨_, e⟩ | ⟨g, _, _, rfl, hg2, _⟩
      · omega
      · cases hb; exact hg2
/-- Bytes, copied behind an empty slice. -/
theorem RdB.copy {D : Nat → Prop} {w : World} {v : Value} {l : List Int} (h : RdB D w v l) (ty : TypeId) (g : Addr) (bb : Nat → Prop) (hbb : ∀ k, w.heap.size ≤ k → bb k) :
    ∃ v' w', (Builtin.append_ #[22, 22] ty #[.slice (some g) 0 0, v]).run Tryd.prog w = .ok v' w' ∧ RB bb w' v' l ∧ Below w.heap.size w w' := by
  obtain ⟨i, hi, hz0, hz1, hz2⟩ := info_parts infoU
  obtain ⟨A, c, rfl, h1, h2, h3, h4⟩ := h
  by_cases hl : l = []
  · subst hl
    refine ⟨.slice (some g) 0 0, w, ?_, ⟨some g, 0, rfl, Nat.le_refl _, by simp, by simp, fun e => absurd rfl e⟩, Below.refl _ _⟩
    refine run_append_nothing (P := Tryd.prog) w _ _ ty 5 i Tryd.underlying22 hi (some g) 0 0 (Nat.le_refl _) _ ?_
    cases A with
    | none => exact Src.ofNil (P := Tryd.prog) w Tryd.underlying22 c
    | some a => exact Src.ofSlice (P := Tryd.prog) w Tryd.underlying22 a 0 c [] (by simp) (by simp) (by simp)
  · obtain ⟨a, rfl, _, hx⟩ := h4 hl
    have hpos : 0 < l.length := List.length_pos_iff.2 hl
    obtain ⟨v', w', hr, ho, hg⟩ := run_append_arg_grows (P := Tryd.prog) w 22 ty 5 i _ 1 1 Tryd.underlying22 hi hz0 hz1 hz2 rfl (by decide) g 0 0 [] rfl (by simp) a l.length c (l.map fun x => .int .u8 x) (by simp) (fun j u hu => by
      rw [List.getElem?_map] at hu
      cases e : l[j]? with
      | none => rw [e] at hu; cases hu
      | some x => rw [e] at hu; cases hu; exact hx j x e) (by omega) (by simp only [maxLen]; omega) (by omega)
    refine ⟨v', w', hr, ?_, ⟨hg.os, hg.tape, hg.output, hg.size, fun k hk => hg.block k hk (by simp)⟩⟩
    obtain ⟨e1, e2⟩ := ho
    rw [Nat.zero_add] at e2
    rcases e2 with ⟨_, e⟩ | ⟨b, cap, cur, rfl, hb, hcur, k1, k2, k3, k4⟩
    · omega
    · refine ⟨_, cap, rfl, k1, by omega, h3, fun _ => ⟨b, cur, rfl, hbb b hb, hcur, fun j x hj => ?_⟩⟩
      have hjl : j < l.length := (List.getElem?_eq_some_iff.1 hj).1
      have e : (cur.toList.take (l.length * 1))[j]? = some (.int .u8 x) := by rw [k4, List.nil_append, List.getElem?_map, hj]; rfl
      rw [Nat.mul_one, List.getElem?_take, if_pos hjl] at e
      simpa using e
/-- A queue, one item more. -/
theorem QIs.append {bb bb' : Nat → Prop} {w : World} {v : Value} {q : List It} (h : QIs bb w v q) (hn : q.length ≤ 5000000000000) (ty : TypeId) (a : Addr) (c : Nat) (x : It) (bv : Value) (hc : ∀ j u, ([bv, .int .i64 x.due, .bool x.sp] : List Value)[j]? = some u → w.cell? (a.add j) = some u) (hx : RB bb' w bv x.b) (hbb : ∀ b, bb b → b < w.heap.size → bb' b) (hown : ∀ b cur, v.ownBlock = some b → w.heap[b]? ≠ some (Obj.cells cur 5 (0, 0))) (h1 : bv.oneCell' = true) :
    ∃ v' w', (Builtin.append_ #[67, 67] ty #[v, .slice (some a) 1 c]).run Tryd.prog w = .ok v' w' ∧ QIs bb' w' v' (q ++ [x]) ∧ Fr w w' (fun b => v.ownBlock = some b) ∧ (∀ b, v'.ownBlock = some b → v.ownBlock = some b ∨ w.heap.size ≤ b) := by
  obtain ⟨l, hl, hq, hb⟩ := h
  obtain ⟨v', w', hr, h2, h3, h4⟩ := hq.append (by rw [← List.length_map (f := (·.2)), hl]; exact hn) ty a c _ _ _ hc (by
    intro u hu
    simp only [List.mem_cons, List.not_mem_nil, or_false] at hu
    rcases hu with rfl | rfl | rfl
    · exact h1
    · rfl
    · rfl)
  refine ⟨v', w', hr, ⟨l ++ [(bv, x)], by simp [hl], ?_, ?_⟩, h3, h4⟩
  · rw [itCells_app, List.length_append]
    exact h2
  · have hk : ∀ b cur, w.heap[b]? = some (Obj.cells cur 5 (0, 0)) → w'.heap[b]? = w.heap[b]? := fun b cur hc' => h3.block b (lt_of hc') (fun e => hown b cur e hc')
    intro p hp
    rcases List.mem_append.1 hp with hp | hp
    · exact (hb p hp).keep (fun b cur e1 e2 => ⟨hk b cur e2, hbb b e1 (lt_of e2)⟩)
    · obtain rfl : p = (bv, x) := by simpa using hp
      exact hx.keep (fun b cur e1 e2 => ⟨hk b cur e2, e1⟩)
end Go.Proofs.YtpfpdbbgiimnmaaDoor.Net
