/- (*account.Account).close, by its contract. Conditions: a level from 0 to 7; ticks from 0 to 2^40. -/
import Derived.Test.YtbjojkocmmcpgaaDoorMark
namespace Go.Proofs.YtbjojkocmmcpgaaDoor.Acc
set_option linter.unusedSimpArgs false
set_option linter.unusedVariables false
open Go.RowKit Go.Maps Go.Proofs.YtbjojkocmmcpgaaDoor.Er Go.Proofs.YtbjojkocmmcpgaaDoor.Mod
def mkCells (m : Mk) : List Value := [.bool m.full, .bool m.burst, .bool m.lost, .int .i64 m.sync]
def rowOf (l : List Mk) : List Value := l.flatMap mkCells
/-- A slice of marks, of one's own from block B on. -/
def Marks (w : World) (B : Nat) (v : Value) (l : List Mk) : Prop := w.ownsRow B 60 4 v l.length (rowOf l)
theorem rowOf_app (l m : List Mk) : rowOf (l ++ m) = rowOf l ++ rowOf m := by simp [rowOf]
theorem goes_tick (a : Acc) : ∀ k, (a.goes k).1.tick = a.tick + k ∧ (a.goes k).1.level = a.level ∧ (a.goes k).2.length = k
  | 0 => ⟨by simp [Acc.goes], rfl, rfl⟩
  | k + 1 => by
    obtain ⟨h1, h2, h3⟩ := goes_tick a k
    refine ⟨?_, h2, by simp [Acc.goes, h3]⟩
    show (a.goes k).1.tick + 1 = _
    rw [h1]; omega
theorem from_tick (a : Acc) (t : Int) : (a.from t).tick = max (a.tick + 1) (t - 64) ∧ (a.from t).level = a.level := ⟨rfl, rfl⟩
theorem Marks.fr {w w' : World} {B : Nat} {v : Value} {l : List Mk} {g : Nat} {M : Nat → Nat} (h : Marks w B v l) (hf : Fr w w' (AS g M)) (hB : ∀ k, AS g M k → k < B) : Marks w' B v l := by
  obtain ⟨h1, h2⟩ := h
  refine ⟨h1, ?_⟩
  rcases h2 with h2 | ⟨b, cap, cur, e, hb, hc, h3⟩
  · exact .inl h2
  · refine .inr ⟨b, cap, cur, e, hb, ?_, h3⟩
    have hlt : b < w.heap.size := by
      rcases Nat.lt_or_ge b w.heap.size with h | h
      · exact h
      · rw [Array.getElem?_eq_none h] at hc; cases hc
    rw [hf.block b hlt (fun e => by have := hB b e; omega)]
    exact hc
theorem IsAcc.grown {w w' : World} {g : Nat} {M : Nat → Nat} {a : Acc} {row : Option Nat} (h : IsAcc w g M a) (hg : w.grownBy w' row) (hr : ∀ k, row = some k → ¬ AS g M k) : IsAcc w' g M a :=
  h.of_fr (S := fun k => row = some k) ⟨hg.os, hg.tape, hg.output, hg.size, fun k hk hs => hg.block k hk (fun e => hs e.symm)⟩ hr
theorem Fr.grown {w w' w'' : World} {S : Nat → Prop} {row : Option Nat} (h : Fr w w' S) (hg : w'.grownBy w'' row) (hr : ∀ k, row = some k → w.heap.size ≤ k) : Fr w w'' S :=
  ⟨hg.os.trans h.os, hg.tape.trans h.tape, hg.output.trans h.output, Nat.le_trans h.size hg.size, fun k hk hs => (hg.block k (Nat.lt_of_lt_of_le hk h.size) (fun e => by have := hr k e.symm; omega)).trans (h.block k hk hs)⟩
theorem cells_mk (w : World) (m : Mk) : ∀ j u, (mkCells m)[j]? = some u → (w.alloc (.cells #[.bool m.full, .bool m.burst, .bool m.lost, .int .i64 m.sync] 60)).cell? ((⟨w.heap.size, 0, none⟩ : Addr).add j) = some u := by
  intro j u hu
  have hadd : (⟨w.heap.size, 0, none⟩ : Addr).add j = ⟨w.heap.size, j, none⟩ := by unfold Addr.add; split <;> simp_all
  rw [hadd]
  match j, hu with
  | 0, hu => rw [(row_mk w m).cell (i := 0) (by omega)]; exact hu
  | 1, hu => rw [(row_mk w m).cell (i := 1) (by omega)]; exact hu
  | 2, hu => rw [(row_mk w m).cell (i := 2) (by omega)]; exact hu
  | 3, hu => rw [(row_mk w m).cell (i := 3) (by omega)]; exact hu
  | j + 4, hu => cases hu
theorem marks_one (w : World) (B : Nat) (m : Mk) (hB : B ≤ w.heap.size) : Marks (w.alloc (.cells #[.bool m.full, .bool m.burst, .bool m.lost, .int .i64 m.sync] 60)) B (.slice (some ⟨w.heap.size, 0, none⟩) 1 1) [m] :=
  ⟨rfl, .inr ⟨w.heap.size, 1, #[.bool m.full, .bool m.burst, .bool m.lost, .int .i64 m.sync], rfl, hB, heap_new _ _, Nat.le_refl _, by decide, rfl, rfl⟩⟩
structure CloseP (w : World) (g : Nat) (M : Nat → Nat) (a : Acc) (ms : List Mk) (v : Value) (w' : World) : Prop where
  acc : IsAcc w' g M a
  fr : Fr w w' (AS g M)
  marks : Marks w' w.heap.size v ms
theorem info60 : (Tryd.prog.info? 60).map (fun i => (i.zero, i.size, i.bytes)) = some (some (.agg #[.bool false, .bool false, .bool false, .int .i64 0]), 4, 16) := by kernel_rfl
set_option maxHeartbeats 4000000 in
set_option maxRecDepth 100000 in
theorem close_none (w : World) (g : Nat) (M : Nat → Nat) (a : Acc) (t : Int) (h : IsAcc w g M a) (hh : a.has = false) :
    Calls Tryd.prog 12 #[.pointer (some ⟨g, 0, none⟩), .int .i64 t] w fun e w' => e = .returned (.slice none 0 0) ∧ CloseP w g M (a.begin t) [] (.slice none 0 0) w' := by
  have k1 : w.cell? ⟨g, 1, none⟩ = some (.bool false) := by rw [← hh]; exact h.row.cell (by omega)
  have HH := Lib.hid h
  clear h hh
  go_enter Tryd.func12, Tryd.ntmps12
  go_wp2_with (first | (go_at_call 16; refine (begin_calls w g M a t HH.out).mono ?_; rintro e w2 ⟨rfl, h2, f2⟩; have HR := Lib.hid (And.intro h2 f2); clear h2 f2))
  go_ret
  exact ⟨rfl, HR.out.1, HR.out.2, by simp [rowOf], .inl ⟨rfl, rfl⟩⟩
set_option maxHeartbeats 8000000 in
set_option maxRecDepth 100000 in
theorem close_some (w : World) (g : Nat) (M : Nat → Nat) (a : Acc) (t : Int) (h : IsAcc w g M a) (hh : a.has = true) (hl : 0 ≤ a.level ∧ a.level ≤ 7) (ht : 0 ≤ a.tick ∧ a.tick ≤ 1099511627776) (ht2 : 0 ≤ t ∧ t ≤ 1099511627776) :
    Calls Tryd.prog 12 #[.pointer (some ⟨g, 0, none⟩), .int .i64 t] w fun e w' => ∃ v, e = .returned v ∧ CloseP w g M (a.close t).1 (a.close t).2 v w' := by
  have k1 : w.cell? ⟨g, 1, none⟩ = some (.bool true) := by rw [← hh]; exact h.row.cell (by omega)
  have hlt := h.row.lt
  have HH := Lib.hid h
  have hF := from_tick a t
  obtain ⟨b, hb⟩ : ∃ b, b = a.from t := ⟨_, rfl⟩
  obtain ⟨n, hn⟩ : ∃ n, n = (t - b.tick).toNat := ⟨_, rfl⟩
  have HC : Hid (a.close t = ((b.goes n).1, a.mark :: (b.goes n).2)) := Lib.hid (by rw [hn, hb]; exact if_pos hh)
  have HB := Lib.hid hb
  have HN : Hid (n = (t - b.tick).toNat ∧ b.tick = max (a.tick + 1) (t - 64) ∧ b.level = a.level) := Lib.hid ⟨hn, by rw [hb]; exact hF.1, by rw [hb]; rfl⟩
  have hx0 : a.tick + 1 ≤ 1099511627777 := by omega
  clear h hh hF hb hn
  go_enter Tryd.func12, Tryd.ntmps12
  go_wp2_with (first
    | (go_at_call 17; refine (mark_calls w g M a HH.out hl).mono ?_; rintro e w2 ⟨rfl, b2⟩; have HB2 := Lib.hid b2; have k2 : w2.cell? ⟨g, 2, none⟩ = some (.int .i64 a.tick) := (HH.out.below HB2.out).row.cell (by omega); have g2 : g < w2.heap.size := Nat.lt_of_lt_of_le hlt b2.size; clear b2; unfold mkV)
    | (go_at_call 16; refine (begin_calls _ g M a _ ((HH.out.below HB2.out).alloc _)).mono ?_; rintro e w3 ⟨rfl, h3, f3⟩; have h3' : IsAcc w3 g M b := (by rw [HB.out]; unfold Acc.from; first | (rw [Int.max_eq_left (by omega)]; exact h3) | (rw [Int.max_eq_right (by omega)]; exact h3)); have H3 := Lib.hid h3'; have F3 := Lib.hid f3; clear h3 f3 h3'))
  all_goals
    have HM3 : Hid (Marks w3 w.heap.size (.slice (some ⟨w2.heap.size, 0, none⟩) 1 1) [a.mark]) := Lib.hid ((marks_one w2 w.heap.size a.mark HB2.out.size).fr F3.out (fun k hk => HH.out.lt k hk))
    have HF3 : Hid (Fr w w3 (AS g M)) := Lib.hid (((Fr.of_below HB2.out).alloc _).trans F3.out)
    have HLT := Lib.hid (HH.out.lt)
    clear F3 HB2 k2 g2 k1 HH
    go_loopg [5] (n + 1) (fun kq v5 wr => ∃ k : Nat, Hid (k ≤ n ∧ kq = n - k + 1) ∧ Hid (IsAcc wr g M (b.goes k).1) ∧ Hid (Fr w wr (AS g M)) ∧ Hid (Marks wr w.heap.size v5 (a.mark :: (b.goes k).2)))
    case atStart => exact ⟨0, Lib.hid ⟨by omega, by omega⟩, H3, HF3, HM3⟩
    case round =>
      clear H3 HF3 HM3
      obtain ⟨k, HK, HA, HF, HM⟩ := hrel
      obtain ⟨tk, htk⟩ : ∃ tk, tk = (b.goes k).1.tick := ⟨_, rfl⟩
      have e1 := goes_tick b k
      have k2 : wr.cell? ⟨g, 2, none⟩ = some (.int .i64 tk) := by rw [htk]; exact HA.out.row.cell (by omega)
      have htk2 : tk = b.tick + k := by rw [htk]; exact e1.1
      have hbt := HN.out.2.1
      by_cases hk : k < n
      · have d1 : decide (tk < t) = true := decide_eq_true (by have := HN.out.1; omega)
        have hlv : 0 ≤ (b.goes k).1.level ∧ (b.goes k).1.level ≤ 7 := by rw [e1.2.1, HN.out.2.2]; exact hl
        have ht1 : 0 ≤ tk := by omega
        have ht2' : tk ≤ 1099511627776 := by have := HN.out.1; omega
        have glt := HA.out.row.lt
        have hkn := Lib.hid hk
        have HTK := Lib.hid htk
        have HE1 := Lib.hid e1
        clear htk htk2 hbt hk e1
        obtain ⟨i0, hi, hz0, hz1, hz2⟩ := info_parts info60
        go_wp2_with (first
          | (go_at_call 17; refine (mark_calls wr g M _ HA.out hlv).mono ?_; rintro e w4 ⟨rfl, b4⟩; have HB4 := Lib.hid b4; have k4 : w4.cell? ⟨g, 2, none⟩ = some (.int .i64 tk) := (b4.cell (p := ⟨g, 2, none⟩) glt).trans k2; have g4 : g < w4.heap.size := Nat.lt_of_lt_of_le glt b4.size; clear b4; unfold mkV)
          | (at_builtin; refine wpList_append_own _ rfl (.tmp 33) (.tmp 36) 28 rfl w.heap.size 60 i0 (.agg #[.bool false, .bool false, .bool false, .int .i64 0]) 4 16 Tryd.underlying28 hi hz0 hz1 hz2 rfl (by decide) _ _ _ rfl ((HM.out.fr (Fr.of_below HB4.out) HLT.out).alloc _) ⟨w4.heap.size, 0, none⟩ 1 1 (mkCells (b.goes k).1.mark) rfl rfl ?c1 ?c2 ?c3 ?c4 ?c5 ?_))
        case c1 => exact cells_mk w4 (b.goes k).1.mark
        case c2 => intro u hu; simp only [mkCells, List.mem_cons, List.not_mem_nil, or_false] at hu; rcases hu with rfl | rfl | rfl | rfl <;> rfl
        case c3 => have := HE1.out.2.2; have := HK.out; have := HN.out; simp only [List.length_cons, maxLen]; omega
        case c4 => have := HE1.out.2.2; have := HK.out; have := HN.out; simp only [List.length_cons]; omega
        case c5 => have := HF.out.size; have := HB4.out.size; simp; omega
        intro v' w5 hown hgr hnil
        have hne : ∀ k, u5.ownBlock = some k → w.heap.size ≤ k := fun k hk => (HM.out.lt k hk).1
        have h5 : IsAcc w5 g M (b.goes k).1 := ((HA.out.below HB4.out).alloc _).grown hgr (fun k hk hs => by have := hne k hk; have := HLT.out k hs; omega)
        have f5 : Fr w w5 (AS g M) := ((HF.out.trans (Fr.of_below HB4.out)).alloc _).grown hgr hne
        have H5 := Lib.hid h5
        have F5 := Lib.hid f5
        have M5 : Hid (Marks w5 w.heap.size v' (a.mark :: (b.goes k).2 ++ [(b.goes k).1.mark])) := Lib.hid (by
          unfold Marks
          rw [rowOf_app, List.length_append, show rowOf [(b.goes k).1.mark] = mkCells (b.goes k).1.mark from by simp [rowOf]]
          exact hown)
        have k5 : w5.cell? ⟨g, 2, none⟩ = some (.int .i64 tk) := by rw [HTK.out]; exact h5.row.cell (by omega)
        clear hne h5 f5 hown hgr hnil k4 g4 HB4 HF HM HA k2
        go_wp2_with (first
          | (go_at_call 16; refine (begin_calls _ g M _ _ H5.out).mono ?_; rintro e w6 ⟨rfl, h6, f6⟩; have H6 := Lib.hid h6; have F6 := Lib.hid (F5.out.trans f6); have M6 := Lib.hid (M5.out.fr f6 HLT.out); clear h6 f6 F5 M5 H5))
        go_roundg (n - k)
        case measure => have := HK.out; have := hkn.out; omega
        case rel =>
          refine ⟨k + 1, Lib.hid ⟨?_, ?_⟩, ?_, F6, ?_⟩
          · have := hkn.out; omega
          · have := hkn.out; omega
          · rw [HTK.out] at H6; exact H6
          · exact M6
      · have e : k = n := by have := HK.out.1; omega
        have d1 : decide (tk < t) = false := decide_eq_false (by have := HN.out.1; omega)
        have HR : Hid (CloseP w g M (a.close t).1 (a.close t).2 u5 wr) := Lib.hid (by
          rw [HC.out]
          rw [e] at HA HM
          exact ⟨HA.out, HF.out, HM.out⟩)
        clear HA HF HM htk htk2 hbt e e1 hk
        go_wp2
        go_ret
        exact ⟨_, rfl, HR.out⟩
end Go.Proofs.YtbjojkocmmcpgaaDoor.Acc
