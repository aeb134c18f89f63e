/- Bytes in a row of one's own; check.Add and check.Take by their contracts. Conditions: bytes as they may be read. -/
import Derived.Test.YtfcofokbhhnfkaaDoorSum
namespace Go.Proofs.YtfcofokbhhnfkaaDoor.Byt
set_option linter.unusedSimpArgs false
set_option linter.unusedVariables false
open Go.RowKit Go.Deep Go.Proofs.YtfcofokbhhnfkaaDoor.Er Go.Proofs.YtfcofokbhhnfkaaDoorW.PrintWords Go.Proofs.YtfcofokbhhnfkaaDoorW.PrintLast
/-- Bytes in a row of one's own, above B. -/
def OB (B : Nat) (w : World) (v : Value) (l : List Int) : Prop := w.ownsRow B 5 1 v l.length (l.map (Value.int .u8)) ∧ (∀ x ∈ l, 0 ≤ x ∧ x < 256) ∧ l.length ≤ 140737488355328
theorem OB.nil (B : Nat) (w : World) : OB B w (.slice none 0 0) [] := ⟨⟨rfl, .inl ⟨rfl, rfl⟩⟩, by simp, by simp⟩
theorem OB.val {B : Nat} {w : World} {v : Value} {l : List Int} (h : OB B w v l) : ∃ A c, v = .slice A l.length c ∧ l.length ≤ c := by
  rcases h.1.2 with ⟨rfl, e⟩ | ⟨b, cap, cur, rfl, _, _, h1, _⟩
  · exact ⟨none, 0, by rw [e], by rw [e]; exact Nat.le_refl _⟩
  · exact ⟨_, _, rfl, h1⟩
theorem OB.rb {B : Nat} {w : World} {v : Value} {l : List Int} (h : OB B w v l) : RB (fun k => B ≤ k) w v l := by
  obtain ⟨A, c, rfl, hc⟩ := h.val
  refine ⟨A, c, rfl, hc, h.2.2, h.2.1, fun hne => ?_⟩
  rcases h.1.2 with ⟨e1, e⟩ | ⟨b, cap, cur, e1, hb, hcur, h1, h2, h3, h4⟩
  · exact absurd (List.length_eq_zero_iff.1 e) hne
  · cases e1
    refine ⟨b, cur, rfl, hb, hcur, fun j x hj => ?_⟩
    have hjl : j < l.length := (List.getElem?_eq_some_iff.1 hj).1
    have e : (cur.toList.take (l.length * 1))[j]? = some (.int .u8 x) := by rw [h4, List.getElem?_map, hj]; rfl
    rw [Nat.mul_one, List.getElem?_take, if_pos hjl] at e
    simpa using e
theorem OB.keep {B : Nat} {w w' : World} {v : Value} {l : List Int} (h : OB B w v l) (hk : ∀ b cur, v.ownBlock = some b → w.heap[b]? = some (.cells cur 5 (0, 0)) → w'.heap[b]? = w.heap[b]?) : OB B w' v l :=
  ⟨own_keep h.1 (fun b e => by obtain ⟨_, cur, hc⟩ := own_at h.1 e; exact hk b cur e hc), h.2⟩
theorem OB.below {B : Nat} {w w' : World} {v : Value} {l : List Int} (h : OB B w v l) (hb : Below w.heap.size w w') : OB B w' v l := h.keep (fun b cur _ hc => hb.block b (lt_of hc))
theorem OB.lt {B : Nat} {w : World} {v : Value} {l : List Int} (h : OB B w v l) {b : Nat} (hb : v.ownBlock = some b) : B ≤ b ∧ b < w.heap.size ∧ ∃ cur, w.heap[b]? = some (.cells cur 5 (0, 0)) := by
  obtain ⟨h1, cur, h2⟩ := own_at h.1 hb
  exact ⟨h1, lt_of h2, cur, h2⟩
/-- Bytes behind bytes of one's own. -/
theorem OB.append {B : Nat} {D : Nat → Prop} {w : World} {v u : Value} {X Y : List Int} (h : OB B w v X) (hB : B ≤ w.heap.size) (hY : RdB D w u Y) (hne : Y ≠ []) (hlen : X.length + Y.length ≤ 140737488355328) (ty : TypeId) :
    ∃ A' c' w', (Builtin.append_ #[22, 22] ty #[v, u]).run Tryd.prog w = .ok (.slice A' (X ++ Y).length c') w' ∧ OB B w' (.slice A' (X ++ Y).length c') (X ++ Y) ∧ Fr w w' (fun b => v.ownBlock = some b) := by
  obtain ⟨i, hi, hz0, hz1, hz2⟩ := info_parts infoU
  obtain ⟨A, c, rfl, _, _, hlt, hx⟩ := hY
  obtain ⟨a, rfl, _, hc⟩ := hx hne
  have hmax : X.length + Y.length ≤ maxLen := by simp only [maxLen]; omega
  have hnews : ∀ (j : Nat) (u : Value), (Y.map (Value.int .u8))[j]? = some u → w.cell? (a.add j) = some u := by
    intro j u hu
    rw [List.getElem?_map] at hu
    cases e : Y[j]? with
    | none => rw [e] at hu; cases hu
    | some x => rw [e] at hu; cases hu; exact hc j x e
  obtain ⟨v', w', hr, ho, hg, _⟩ := run_append_own (P := Tryd.prog) w B 22 ty 5 i _ 1 1 Tryd.underlying22 hi hz0 hz1 hz2 rfl (by decide) v X.length (X.map (Value.int .u8)) h.1 a Y.length c (Y.map (Value.int .u8)) (by simp) hnews (fun u hu => by obtain ⟨x, _, rfl⟩ := List.mem_map.1 hu; rfl) hmax (by omega) hB
  have ho' : w'.ownsRow B 5 1 v' (X ++ Y).length ((X ++ Y).map (Value.int .u8)) := by rw [List.length_append, List.map_append]; exact ho
  have hOB : OB B w' v' (X ++ Y) := ⟨ho', fun x hx => (List.mem_append.1 hx).elim (h.2.1 x) (hlt x), by rw [List.length_append]; omega⟩
  obtain ⟨A', c', rfl, _⟩ := hOB.val
  exact ⟨A', c', w', hr, hOB, (Fr.refl _ _).grown hg (fun k e => .inl e)⟩
/-- append([]byte{}, p...), in a row of one's own. -/
theorem RdB.copyO {D : Nat → Prop} {B : Nat} {w : World} {v : Value} {l : List Int} (h : RdB D w v l) (ty : TypeId) (b : Nat) (hb : w.heap[b]? = some (.cells #[] 5 (0, 0))) (hB : B ≤ b) (hB2 : B ≤ w.heap.size) :
    ∃ A' c' w', (Builtin.append_ #[22, 22] ty #[.slice (some ⟨b, 0, none⟩) 0 0, v]).run Tryd.prog w = .ok (.slice A' l.length c') w' ∧ OB B w' (.slice A' l.length c') l ∧ Fr w w' (fun k => k = b) := by
  have h0 : OB B w (.slice (some ⟨b, 0, none⟩) 0 0) [] := ⟨⟨rfl, .inr ⟨b, 0, #[], rfl, hB, hb, Nat.le_refl _, Nat.zero_le _, rfl, rfl⟩⟩, by simp, by simp⟩
  by_cases hl : l = []
  · subst hl
    obtain ⟨i, hi, hz0, hz1, hz2⟩ := info_parts infoU
    obtain ⟨A, c, rfl, h1, h2, h3, h4⟩ := h
    refine ⟨some ⟨b, 0, none⟩, 0, w, ?_, h0, Fr.refl _ _⟩
    refine run_append_nothing (P := Tryd.prog) w _ _ ty 5 i Tryd.underlying22 hi (some ⟨b, 0, none⟩) 0 0 (Nat.le_refl _) _ ?_
    cases A with
    | none => exact Src.ofNil (P := Tryd.prog) w Tryd.underlying22 c
    | some a => exact Src.ofSlice (P := Tryd.prog) w Tryd.underlying22 a 0 c [] (by simp) (by simp) (by simp)
  · obtain ⟨A', c', w', hr, ho, hf⟩ := h0.append hB2 h hl (by obtain ⟨_, _, _, _, h5, _⟩ := h; simpa using h5) ty
    exact ⟨A', c', w', hr, ho, hf.mono (fun k e => by cases e; rfl)⟩
theorem wp_copyO {ops : Array Oper} {rest : List Oper} {o : Oper} {a : Act} {Q : Exit → Act → World → Prop} {w : World} {D : Nat → Prop} {v : Value} {l : List Int} {b : Nat} (B : Nat) (hgd : o.guard = none) (s x : Operand) (ho : o.op = .call { callee := .builtin .append, args := #[s, x], argTypes := #[22, 22] }) (hs : a.eval s = .slice (some ⟨b, 0, none⟩) 0 0) (hx : a.eval x = v) (h : RdB D w v l) (hb : w.heap[b]? = some (.cells #[] 5 (0, 0))) (hB : B ≤ b) (hB2 : B ≤ w.heap.size)
    (k : ∀ (A' : Option Addr) (c' : Nat) (w' : World), OB B w' (.slice A' l.length c') l → Fr w w' (fun k => k = b) → wpList Tryd.prog ops Q rest (a.put o.dst (.slice A' l.length c')) w') : wpList Tryd.prog ops Q (o :: rest) a w := by
  obtain ⟨A', c', w8, hr, hRB, hB⟩ := h.copyO o.type b hb hB hB2
  refine wpList_plain hgd fun K hK => ?_
  unfold Oper.wp
  rw [run_app ho hs hx hr]
  exact hK _ _ (k A' c' w8 hRB hB)
theorem wp_appendO {ops : Array Oper} {rest : List Oper} {o : Oper} {a : Act} {Q : Exit → Act → World → Prop} {w : World} {D : Nat → Prop} {v u : Value} {X Y : List Int} (B : Nat) (hgd : o.guard = none) (s x : Operand) (ho : o.op = .call { callee := .builtin .append, args := #[s, x], argTypes := #[22, 22] }) (hs : a.eval s = v) (hx : a.eval x = u) (h : OB B w v X) (hY : RdB D w u Y) (hne : Y ≠ []) (hlen : X.length + Y.length ≤ 140737488355328) (hB : B ≤ w.heap.size)
    (k : ∀ (A' : Option Addr) (c' : Nat) (w' : World), OB B w' (.slice A' (X ++ Y).length c') (X ++ Y) → Fr w w' (fun b => v.ownBlock = some b) → wpList Tryd.prog ops Q rest (a.put o.dst (.slice A' (X ++ Y).length c')) w') : wpList Tryd.prog ops Q (o :: rest) a w := by
  obtain ⟨A', c', w8, hr, hRB, hF⟩ := h.append hB hY hne hlen o.type
  refine wpList_plain hgd fun K hK => ?_
  unfold Oper.wp
  rw [run_app ho hs hx hr]
  exact hK _ _ (k A' c' w8 hRB hF)
theorem Fr.belowO {B : Nat} {w w' : World} {v : Value} {l : List Int} (hf : Fr w w' (fun b => v.ownBlock = some b)) (h : OB B w v l) : Below B w w' ∨ True := .inr trivial
theorem OB.bel {B : Nat} {w0 w w' : World} {v : Value} {l : List Int} (h : OB B w v l) (hf : Fr w w' (fun b => v.ownBlock = some b)) (hb : Below B w0 w) (hB : B ≤ w.heap.size) : Below B w0 w' := hf.below hb hB (fun k e => (h.lt e).1)
theorem one_byte {w : World} {x : Int} (hx : 0 ≤ x ∧ x < 256) : RdB (fun _ => True) (w.alloc (.cells #[.int .u8 x] 5)) (.slice (some ⟨w.heap.size, 0, none⟩) 1 1) [x] := rd_lit (l := [x]) (heap_new _ _) trivial (by simp) (by simpa using hx)
def le4 (s : Nat) : List Int := (CrcM.nbytes 4 s).map (fun n : Nat => (n : Int))
def addI (l : List Int) : List Int := l ++ le4 (sumI l)
theorem nb_len : ∀ (n s : Nat), (CrcM.nbytes n s).length = n
  | 0, _ => rfl
  | n + 1, s => by show (_ :: CrcM.nbytes n (s / 256)).length = _; rw [List.length_cons, nb_len n]
theorem addI_len (l : List Int) : (addI l).length = l.length + 4 := by unfold addI le4; rw [List.length_append, List.length_map, nb_len]
set_option maxHeartbeats 4000000 in
set_option maxRecDepth 100000 in
theorem Add_calls {D : Nat → Prop} (w : World) (v : Value) (l : List Int) (hl : RdB D w v l) (hD : ∀ k, D k → k < w.heap.size) (hlen : l.length + 4 ≤ 140737488355328) :
    Calls Tryd.prog 27 #[v] w fun e w' => ∃ v', e = .returned v' ∧ OB w.heap.size w' v' (addI l) ∧ Below w.heap.size w w' := by
  have HR := Lib.hid hl
  have HD := Lib.hid hD
  obtain ⟨A, c, rfl, hc1, hc2, _, _⟩ := hl
  obtain ⟨m, hm⟩ : ∃ m, m = l.length := ⟨_, rfl⟩
  have HM := Lib.hid hm
  rw [← hm] at HR hc1 hc2 hlen ⊢
  clear hm hD
  go_enter Tryd.func27, Tryd.ntmps27
  go_wp2_with (first | (at_builtin; refine wp_copyO w.heap.size rfl (.tmp 5) (.tmp 6) rfl rfl rfl (HR.out.keep ?c0) (heap_new _ _) (Nat.le_refl _) (by simp) ?_))
  case c0 => exact fun k hk => ((Below.refl _ _).alloc (Nat.le_refl _) _).block k (HD.out k hk)
  intro A5 c5 w5 hO5 hF5
  have HB5 : Hid (Below w.heap.size w w5) := Lib.hid (hF5.below ((Below.refl _ _).alloc (Nat.le_refl _) _) (by simp) (fun k e => by omega))
  have HO5 := Lib.hid hO5
  rw [← HM.out] at HO5 ⊢
  clear hO5 hF5
  have HB6 : Hid (Below w5.heap.size w5 (w5.alloc (.cells #[.slice A m c] 22))) := Lib.hid ((Below.refl _ _).alloc (Nat.le_refl _) _)
  have HC6 : Hid ((w5.alloc (.cells #[.slice A m c] 22)).cell? ⟨w5.heap.size, 0, none⟩ = some (.slice A m c)) := Lib.hid (by rw [World.cell?_alloc_at _ _ _ _ rfl]; rfl)
  have HR6 : Hid (RdB D (w5.alloc (.cells #[.slice A m c] 22)) (.slice A m c) l) := Lib.hid (HR.out.keep (fun k hk => (HB6.out.block k (Nat.lt_of_lt_of_le (HD.out k hk) HB5.out.size)).trans (HB5.out.block k (HD.out k hk))))
  go_wp2_with (first | (go_at_call 45; refine (Sum_calls _ _ 1 _ l HR6.out HC6.out).mono ?_; rintro e w6 ⟨rfl, hw⟩; rw [hw]; clear hw))
  have HO6 : Hid (OB w.heap.size (w5.alloc (.cells #[.slice A m c] 22)) (.slice A5 m c5) l ∧ Below w.heap.size w (w5.alloc (.cells #[.slice A m c] 22))) := Lib.hid ⟨HO5.out.below HB6.out, HB5.out.trans (HB6.out.mono HB5.out.size)⟩
  clear HB6 HC6 HR6 HO5 HB5
  generalize w5.alloc (.cells #[.slice A m c] 22) = w6 at HO6 ⊢
  generalize w5.heap.size = g5
  obtain ⟨S, hS⟩ : ∃ S, S = sumI l := ⟨_, rfl⟩
  have HS := Lib.hid hS
  have HS32 : Hid (S < 4294967296) := Lib.hid (by rw [hS]; exact CrcM.sum_lt (nats_lt HO6.out.1.2.1))
  rw [← hS]
  clear hS
  go_loopg [3, 4, 11] 6 (fun kq v3 v4 v11 wr => ∃ (i s : Nat) (X : List Int), v4 = .int .u32 s ∧ v11 = .int .i64 i ∧ Hid (i ≤ 4 ∧ kq = 6 - i ∧ s < 4294967296 ∧ X.length = m + i ∧ X ++ (CrcM.nbytes (4 - i) s).map (fun n : Nat => (n : Int)) = addI l) ∧ Hid (OB w.heap.size wr v3 X ∧ Below w.heap.size w wr))
  case atStart => exact ⟨0, S, l, rfl, rfl, Lib.hid ⟨by omega, by omega, HS32.out, HM.out.symm, by rw [HS.out]; rfl⟩, HO6⟩
  case round =>
    obtain ⟨i, s, X, rfl, rfl, HK, HA⟩ := hrel
    have hi1 : i ≤ 4 := HK.out.1
    have hs32 : s < 4294967296 := HK.out.2.2.1
    by_cases hi : i < 4
    · obtain ⟨A3, c3, hv3, _⟩ := HA.out.1.val
      obtain ⟨L3, hL3⟩ : ∃ L3, L3 = X.length := ⟨_, rfl⟩
      rw [← hL3] at hv3
      subst hv3
      have HL3 := Lib.hid hL3
      clear hL3
      obtain ⟨x, hx⟩ : ∃ x : Int, x = (s : Int) % 256 := ⟨_, rfl⟩
      have hxb : 0 ≤ x ∧ x < 256 := by omega
      have HX := Lib.hid (And.intro hx hxb)
      have hwx : IntKind.u8.wrap (s : Int) = x := by rw [IntKind.wrap_u8', hx]
      obtain ⟨s2, hs2⟩ : ∃ s2, s2 = s / 256 := ⟨_, rfl⟩
      have HS2 := Lib.hid hs2
      clear hx hxb hs2
      have HB7 : Hid (Below wr.heap.size wr (wr.alloc (.cells #[.int .u8 x] 5))) := Lib.hid ((Below.refl _ _).alloc (Nat.le_refl _) _)
      go_wp2_with (first | (at_builtin; refine wp_appendO w.heap.size rfl (.tmp 13) (.tmp 16) rfl rfl rfl (HA.out.1.below HB7.out) (one_byte HX.out.2) (by simp) ?c2 ?c3 ?_))
      case c2 => have := HK.out.2.2.2.1; simp; omega
      case c3 => exact Nat.le_trans HA.out.2.size HB7.out.size
      intro A7 c7 w7 hO7 hF7
      have HA7 : Hid (OB w.heap.size w7 (.slice A7 (X.length + 1) c7) (X ++ [x]) ∧ Below w.heap.size w w7) := Lib.hid ⟨hO7, (HA.out.1.below HB7.out).bel hF7 (HA.out.2.trans (HB7.out.mono HA.out.2.size)) (Nat.le_trans HA.out.2.size HB7.out.size)⟩
      clear hO7 hF7 HB7
      have HNX : Hid (s2 < 4294967296 ∧ (X ++ [x]).length = m + (i + 1) ∧ (X ++ [x]) ++ (CrcM.nbytes (4 - (i + 1)) s2).map (fun n : Nat => (n : Int)) = addI l) := Lib.hid (by
        refine ⟨by rw [HS2.out]; omega, by rw [List.length_append, HK.out.2.2.2.1]; rfl, ?_⟩
        rw [← HK.out.2.2.2.2, show 4 - i = (4 - (i + 1)) + 1 by omega]
        show _ = X ++ (s % 256 :: CrcM.nbytes (4 - (i + 1)) (s / 256)).map (fun n : Nat => (n : Int))
        rw [List.map_cons, ← HS2.out, List.append_assoc, HX.out.1]
        rfl)
      clear HA
      go_wp2
      go_roundg (5 - i)
      case measure => have := HK.out; omega
      case rel => exact ⟨i + 1, s2, X ++ [x], by rw [HS2.out]; first | rfl | simp, by go_num, Lib.hid ⟨by omega, by omega, HNX.out.1, HNX.out.2.1, HNX.out.2.2⟩, HA7⟩
    · have HE : Hid (X = addI l) := Lib.hid (by
        have e := HK.out.2.2.2.2
        rw [show 4 - i = 0 by omega] at e
        simpa [CrcM.nbytes] using e)
      go_wp2
      go_ret
      exact ⟨_, rfl, by rw [← HE.out]; exact HA.out.1, HA.out.2⟩
end Go.Proofs.YtfcofokbhhnfkaaDoor.Byt
