/- The builtin copy at rows of wider elements; place, without and Drop of (mnet.Net) by their contracts. Conditions: a net. -/
import Derived.Test.YtpfpdbbgiimnmaaDoorPg
import Derived.Test.YtpfpdbbgiimnmaaDoorLn
import Derived.Test.YtpfpdbbgiimnmaaDoorMod2
import Derived.Laws.CopyRow
namespace Go.Proofs.YtpfpdbbgiimnmaaDoor.Net
set_option linter.unusedSimpArgs false
set_option linter.unusedVariables false
open Go.RowKit Go.Deep Go.Proofs.YtpfpdbbgiimnmaaDoor.Er Go.Proofs.YtpfpdbbgiimnmaaDoor.Mod Go.Proofs.YtpfpdbbgiimnmaaDoorW.PrintWords Go.Proofs.YtpfpdbbgiimnmaaDoorW.PrintLast
theorem run_cp {a : Act} {o : Oper} {d s : Operand} {t : TypeId} {W W' : World} {v' dv sv : Value} (ho : o.op = .call { callee := .builtin .copy, args := #[d, s], argTypes := #[t, t] }) (hd : a.eval d = dv) (hs : a.eval s = sv) (hr : (Builtin.copy_ #[t, t] o.type #[dv, sv]).run Tryd.prog W = .ok v' W') : (execOp a.eval o).run Tryd.prog W = .ok (.value v') W' := by
  simp [execOp, ho, resolve, invoke, builtin, hd, hs, hr, Result.andThen]
theorem run_copy_wide (w : World) (dT sT ty elem : TypeId) (sz k g o dLen dCap : Nat) (a : Addr) (sLen sCap : Nat) (cur : Array Value) (t : TypeId) (cs : List Value)
    (hu : Tryd.prog.underlying dT = some (.slice elem)) (hs : (Tryd.prog.info? elem).map (·.size) = some sz)
    (hg : w.heap[g]? = some (.cells cur t (0, 0))) (hk : k = Nat.min sLen dLen) (hn : cs.length = k * sz)
    (hsrc : ∀ j v, cs[j]? = some v → w.cell? (a.add j) = some v) (hfit : o + cs.length ≤ cur.size) (h1 : ∀ v ∈ cs, v.oneCell' = true) :
    (Builtin.copy_ #[dT, sT] ty #[.slice (some ⟨g, o, none⟩) dLen dCap, .slice (some a) sLen sCap]).run Tryd.prog w =
      .ok (goInt k) (w.setRow g (cur.toList.take o ++ cs ++ cur.toList.drop (o + cs.length)).toArray) := by
  have hl := run_loadCells_list (P := Tryd.prog) w a cs hsrc
  have hst := run_storeCells_at Tryd.prog g o t cs 0 cur w hg (by simpa using hfit) h1
  cases hq : Tryd.prog.info? elem with
  | none => simp [hq] at hs
  | some i =>
    have hi : i.size = sz := by simpa [hq] using hs
    subst hk
    simp [Builtin.copy_, run_underlying hu, Builtin.lenOf, Builtin.firstCells, sizeOf, typeInfo, hq, hi, ← hn, hl, hst]
theorem run_copy_zero (w : World) (dT sT ty elem : TypeId) (d a : Option Addr) (dLen dCap sLen sCap : Nat) (hu : Tryd.prog.underlying dT = some (.slice elem)) (hs : ((Tryd.prog.info? elem).map (·.size)).isSome = true) (hn : Nat.min sLen dLen = 0) :
    (Builtin.copy_ #[dT, sT] ty #[.slice d dLen dCap, .slice a sLen sCap]).run Tryd.prog w = .ok (goInt 0) w := by
  cases hq : Tryd.prog.info? elem with
  | none => simp [hq] at hs
  | some i =>
    have hl : ∀ (x : Addr), (loadCells x 0).run Tryd.prog w = .ok #[] w := fun x => by simpa using run_loadCells_list (P := Tryd.prog) w x [] (by simp)
    cases d <;> cases a <;> simp [Builtin.copy_, run_underlying hu, Builtin.lenOf, Builtin.firstCells, sizeOf, typeInfo, hq, hn, storeCells, hl]
theorem szI : (Tryd.prog.info? 74).map (·.size) = some 3 := by kernel_rfl
theorem place_at {s : Nt} {i k : Int} (h : s.placeE i k = 0) : ∃ i0 k0 : Nat, i = (i0 : Int) ∧ k = (k0 : Int) ∧ i0 < s.n ∧ k0 < (s.h i0).q.length := by
  unfold Nt.placeE at h
  by_cases ha : s.at i = 0
  · rw [if_pos ha] at h
    obtain ⟨k0, rfl, hk⟩ := at_of ha
    rw [Int.toNat_natCast] at h
    split at h
    · omega
    · exact ⟨k0, k.toNat, rfl, by omega, hk, by omega⟩
  · rw [if_neg ha] at h; exact absurd h ha
theorem place_ok_eq {s : Nt} {i0 k0 : Nat} (h1 : i0 < s.n) (h2 : k0 < (s.h i0).q.length) : s.placeE (i0 : Int) (k0 : Int) = 0 := by
  unfold Nt.placeE
  rw [if_pos (at_nat h1), Int.toNat_natCast, if_neg (by omega)]
theorem QIs.val {bb : Nat → Prop} {w : World} {v : Value} {q : List It} (h : QIs bb w v q) : ∃ A c, v = .slice A q.length c ∧ q.length ≤ c ∧ q.length ≤ maxLen := by
  obtain ⟨l, rfl, hq, _⟩ := h
  rw [List.length_map]
  exact hq.val
set_option maxHeartbeats 2000000 in
set_option maxRecDepth 100000 in
theorem place_ok {bb : Nat → Prop} {w : World} {nb hb : Nat} {qv : Nat → Value} {s : Nt} (h : IsNet bb w nb hb qv s) (k j : Nat) (hk : k < s.n) (hj : j < (s.h k).q.length) :
    Calls Tryd.prog 32 #[.pointer (some ⟨nb, 0, none⟩), .int .i64 (k : Int), .int .i64 (j : Int)] w fun e w' => e = .returned (.tuple #[.pointer (some ⟨hb, k * 14, none⟩), .int .i64 0]) ∧ w' = w := by
  have HH := Lib.hid h
  have t13 := h.cell hk 13 (by omega)
  simp only [hoCell] at t13
  obtain ⟨A3, c3, e3, hc3, hm3⟩ := (h.qs k hk).val
  rw [e3] at t13
  obtain ⟨n, hn⟩ : ∃ n, n = (s.h k).q.length := ⟨_, rfl⟩
  rw [← hn] at t13 hc3 hm3 hj
  clear hn e3 h
  go_enter Tryd.func32, Tryd.ntmps32
  go_wp2_with (first | (go_at_call 30; refine (at_ok HH.out k hk).mono ?_; rintro e w1 ⟨rfl, hw1⟩; rw [hw1]; clear hw1))
  go_ret2
  exact ⟨rfl, rfl⟩
set_option maxHeartbeats 2000000 in
set_option maxRecDepth 100000 in
theorem place_no {bb : Nat → Prop} {w : World} {nb hb : Nat} {qv : Nat → Value} {s : Nt} (h : IsNet bb w nb hb qv s) (i j : Int) (hp : ¬ s.placeE i j = 0) :
    Calls Tryd.prog 32 #[.pointer (some ⟨nb, 0, none⟩), .int .i64 i, .int .i64 j] w fun e w' => ∃ v, e = .returned (.tuple #[.pointer v, .int .i64 (s.placeE i j)]) ∧ w' = w := by
  have HH := Lib.hid h
  by_cases ha : s.at i = 0
  rotate_left
  · obtain ⟨a1, a2⟩ := at_no ha
    have he : s.placeE i j = 1 := (if_neg ha).trans a1
    rw [he]
    have HI := Lib.hid a2
    clear ha a1 a2 he hp h
    go_enter Tryd.func32, Tryd.ntmps32
    go_wp2_with (first | (go_at_call 30; refine (at_bad HH.out i HI.out).mono ?_; rintro e w1 ⟨rfl, hw1⟩; rw [hw1]; clear hw1))
    go_ret2
    exact ⟨_, rfl, rfl⟩
  obtain ⟨k, rfl, hk⟩ := at_of ha
  have hE : s.placeE (k : Int) j = if j < 0 ∨ (((s.h k).q.length : Nat) : Int) ≤ j then 4 else 0 := by
    unfold Nt.placeE; rw [if_pos ha, Int.toNat_natCast]
  have t13 := h.cell hk 13 (by omega)
  simp only [hoCell] at t13
  obtain ⟨A3, c3, e3, hc3, hm3⟩ := (h.qs k hk).val
  rw [e3] at t13
  obtain ⟨n, hn⟩ : ∃ n, n = (s.h k).q.length := ⟨_, rfl⟩
  rw [← hn] at t13 hc3 hm3 hE
  by_cases hj : j < 0 ∨ (n : Int) ≤ j
  rotate_left
  · exact absurd (hE.trans (if_neg hj)) hp
  rw [hE.trans (if_pos hj)]
  clear hn e3 h hp hE ha
  have hj2 : j < 0 ∨ (¬ j < 0 ∧ (n : Int) ≤ j) := by omega
  clear hj
  rcases hj2 with hj | ⟨hj, hj3⟩
  all_goals
    go_enter Tryd.func32, Tryd.ntmps32
    go_wp2_with (first | (go_at_call 30; refine (at_ok HH.out k hk).mono ?_; rintro e w1 ⟨rfl, hw1⟩; rw [hw1]; clear hw1))
    go_ret2
    exact ⟨_, rfl, rfl⟩
theorem itCells_one (l : List (Value × It)) (h : ∀ p ∈ l, p.1.oneCell' = true) : ∀ u ∈ itCells l, u.oneCell' = true := by
  intro u hu
  unfold itCells at hu
  obtain ⟨p, hp, hu⟩ := List.mem_flatMap.1 hu
  simp only [List.mem_cons, List.not_mem_nil, or_false] at hu
  rcases hu with rfl | rfl | rfl
  · exact h p hp
  · rfl
  · rfl
theorem itCells_take (l : List (Value × It)) (j : Nat) : (itCells l).take (j * 3) = itCells (l.take j) := by
  induction l generalizing j with
  | nil => simp [itCells]
  | cons x l ih =>
    cases j with
    | zero => simp [itCells]
    | succ j =>
      show (([x.1, Value.int .i64 x.2.due, Value.bool x.2.sp] ++ itCells l) : List Value).take ((j + 1) * 3) = [x.1, Value.int .i64 x.2.due, Value.bool x.2.sp] ++ itCells (l.take j)
      rw [← ih j, List.take_append]
      rw [List.take_of_length_le (by simp; omega)]
      congr 2
      simp; omega
theorem itCells_drop (l : List (Value × It)) (j : Nat) : (itCells l).drop (j * 3) = itCells (l.drop j) := by
  induction l generalizing j with
  | nil => simp [itCells]
  | cons x l ih =>
    cases j with
    | zero => simp [itCells]
    | succ j =>
      show (([x.1, Value.int .i64 x.2.due, Value.bool x.2.sp] ++ itCells l) : List Value).drop ((j + 1) * 3) = itCells (l.drop j)
      rw [← ih j, List.drop_append]
      rw [List.drop_of_length_le (by simp; omega), List.nil_append]
      congr 1
      simp; omega
set_option maxHeartbeats 2000000 in
set_option maxRecDepth 100000 in
theorem without_calls {w : World} {b n cap : Nat} {xs : List Value} (h : QR w (.slice (some ⟨b, 0, none⟩) n cap) n xs) (h1 : ∀ u ∈ xs, u.oneCell' = true) (j : Nat) (hj : j < n) :
    Calls Tryd.prog 49 #[.slice (some ⟨b, 0, none⟩) n cap, .int .i64 (j : Int)] w fun e w' => ∃ v, e = .returned v ∧ QR w' v (n - 1) (xs.take (j * 3) ++ xs.drop ((j + 1) * 3)) ∧ v.ownBlock = some b ∧ Fr w w' (fun k => k = b) := by
  obtain ⟨hl, h2⟩ := h
  rcases h2 with ⟨e, _⟩ | ⟨b', cap', cur, e, hc, k1, k2, k3, k4⟩
  · cases e
  cases e
  have hm : n ≤ maxLen := Nat.le_trans k1 k2
  unfold maxLen at hm k2
  obtain ⟨j1, hj1⟩ : ∃ j1, j1 = j + 1 := ⟨_, rfl⟩
  obtain ⟨r, hr⟩ : ∃ r, r = n - j1 := ⟨_, rfl⟩
  have hw1 : wrap64 ((j : Int) + 1) = (j1 : Int) := by unfold wrap64; omega
  have hj1n : j1 ≤ n := by omega
  have hjr : j + r ≤ cap := by omega
  have hjc : j < cap := by omega
  have hjle : j ≤ n := by omega
  have hcj0 : ¬ cap = j := by omega
  have HJ := Lib.hid (And.intro hj1 hr)
  have hj3 : (j + 1) * 3 = j1 * 3 := by rw [hj1]
  rw [hj3]
  have key : ∀ w9 : World, (∃ cur' : Array Value, w9.heap[b]? = some (.cells cur' 74 (0, 0)) ∧ cap * 3 ≤ cur'.size ∧ cur'.toList.take ((n - 1) * 3) = xs.take (j * 3) ++ xs.drop (j1 * 3)) → QR w9 (.slice (some ⟨b, 0, none⟩) (j + r) (j + r)) (n - 1) (xs.take (j * 3) ++ xs.drop (j1 * 3)) := by
    rintro w9 ⟨cur', h1', h2', h3'⟩
    have e : j + r = n - 1 := by omega
    rw [e]
    exact ⟨by rw [List.length_append, List.length_take, List.length_drop, hl]; omega, .inr ⟨b, n - 1, cur', rfl, h1', Nat.le_refl _, by unfold maxLen; omega, by omega, h3'⟩⟩
  have ex : xs.take (j * 3) = cur.toList.take (j * 3) := by rw [← k4, List.take_take]; congr 1; omega
  have hsz : cap * 3 ≤ cur.toList.length := by simpa using k3
  by_cases hlast : j1 < n
  · have hl2 : (xs.drop (j1 * 3)).length = r * 3 := by rw [List.length_drop, hl]; omega
    have hcp : (Builtin.copy_ #[67, 67] 3 #[.slice (some ⟨b, j * 3, none⟩) (n - j) (cap - j), .slice (some ⟨b, j1 * 3, none⟩) (n - j1) (cap - j1)]).run Tryd.prog w.drew = .ok (.int .i64 (r : Int)) (w.drew.setRow b (cur.toList.take (j * 3) ++ xs.drop (j1 * 3) ++ cur.toList.drop (j * 3 + (xs.drop (j1 * 3)).length)).toArray) := by
      refine run_copy_wide w.drew _ _ _ 74 3 r b (j * 3) (n - j) _ _ (n - j1) _ cur 74 (xs.drop (j1 * 3)) Tryd.underlying67 szI hc (by rw [hr]; exact (Nat.min_eq_left (by omega)).symm) hl2 (fun i v hv => ?_) (by rw [hl2]; omega) (fun v hv => h1 v (List.mem_of_mem_drop hv))
      have hadd : (⟨b, j1 * 3, none⟩ : Addr).add i = ⟨b, j1 * 3 + i, none⟩ := by unfold Addr.add; split <;> simp_all
      rw [hadd]
      rw [List.getElem?_drop] at hv
      have hi : j1 * 3 + i < n * 3 := by rw [← hl]; exact (List.getElem?_eq_some_iff.1 hv).1
      rw [← k4, List.getElem?_take, if_pos hi] at hv
      show w.cell? _ = _
      simpa [World.cell?, hc] using hv
    have HQ := Lib.hid (key (w.drew.setRow b (cur.toList.take (j * 3) ++ xs.drop (j1 * 3) ++ cur.toList.drop (j * 3 + (xs.drop (j1 * 3)).length)).toArray) (by
      refine ⟨_, setRow_heap w.drew b _ _ _ _ hc, ?_, ?_⟩
      · simp only [List.size_toArray, List.length_append, List.length_take, List.length_drop, Array.length_toList, hl]
        omega
      · rw [ex]
        have elen : (cur.toList.take (j * 3) ++ xs.drop (j1 * 3)).length = (n - 1) * 3 := by
          rw [List.length_append, hl2, List.length_take]
          omega
        show List.take ((n - 1) * 3) (cur.toList.take (j * 3) ++ xs.drop (j1 * 3) ++ _) = _
        rw [List.take_append_of_le_length (by omega), List.take_of_length_le (by omega)]))
    have HF : Hid (Fr w (w.drew.setRow b (cur.toList.take (j * 3) ++ xs.drop (j1 * 3) ++ cur.toList.drop (j * 3 + (xs.drop (j1 * 3)).length)).toArray) (fun k => k = b)) := Lib.hid (Fr.setRow (S := fun k => k = b) (Fr.refl w _).drew (.inl rfl) _)
    generalize (w.drew.setRow b (cur.toList.take (j * 3) ++ xs.drop (j1 * 3) ++ cur.toList.drop (j * 3 + (xs.drop (j1 * 3)).length)).toArray) = w9 at hcp HQ HF
    have hcne : ¬ cap = j1 := by omega
    clear k3 k4 hl h1 hc hl2 hsz ex key hj1 hr hj3
    go_enter Tryd.func49, Tryd.ntmps49
    go_upto_region 1 with (fail)
    refine start_ (n := 9) (S := fun w' => w' = w.drew) (ds := [7]) #[false, false, false, false, false, false, false, false, false] (by kernel_rfl) rfl rfl rfl (fun hHeld => ?_)
    refine pu_ 0 6 (bm_ 9 0x1) ?_
    refine pu_ 1 7 (bm_ 9 0x3) ?_
    refine pu_ 2 8 (bm_ 9 0x7) ?_
    refine pu_ 3 9 (bm_ 9 0xf) ?_
    refine pu_ 4 10 (bm_ 9 0x1f) ?_
    refine pu_ 5 11 (bm_ 9 0x3f) ?_
    refine pu_ 6 12 (bm_ 9 0x7f) ?_
    refine la_ 7 (some 13) (bm_ 9 0xff) fun K hK => ?_
    refine value_ (by rfl) rfl (run_cp rfl (by rfl) (by rfl) hcp) ?_
    refine hK.out _ _ ?_
    clear hK K hHeld hcp
    refine nm_ 13 ?_
    refine pu_ 8 5 (bm_ 9 0x1ff) ?_
    refine done_ (by kernel_rfl) ?_
    go_wp2
    go_ret
    exact ⟨_, rfl, HQ.out, rfl, HF.out⟩
  · obtain rfl : j1 = n := by omega
    obtain rfl : r = 0 := by omega
    have HQ := Lib.hid (key w.drew ⟨cur, hc, k3, by
      rw [List.drop_of_length_le (by rw [hl]; exact Nat.le_refl _), List.append_nil, ex]
      congr 1; omega⟩)
    have HF : Hid (Fr w w.drew (fun k => k = b)) := Lib.hid (Fr.refl w _).drew
    have hcp : ∀ d a dl dc sc, (Builtin.copy_ #[67, 67] 3 #[.slice d dl dc, .slice a 0 sc]).run Tryd.prog w.drew = .ok (.int .i64 ((0 : Nat) : Int)) w.drew := fun d a dl dc sc => run_copy_zero w.drew _ _ _ 74 d a _ dc _ sc Tryd.underlying67 (by rw [szI]; rfl) (Nat.zero_min _)
    clear k3 k4 hl h1 hc hsz ex key hj1 hr hj3
    by_cases hcj : cap = j1
    · subst hcj
      go_enter Tryd.func49, Tryd.ntmps49
      go_upto_region 1 with (fail)
      refine start_ (n := 9) (S := fun w' => w' = w.drew) (ds := [7]) #[false, false, false, false, false, false, false, false, false] (by kernel_rfl) rfl rfl rfl (fun hHeld => ?_)
      refine pu_ 0 6 (bm_ 9 0x1) ?_
      refine pu_ 1 7 (bm_ 9 0x3) ?_
      refine pu_ 2 8 (bm_ 9 0x7) ?_
      refine pu_ 3 9 (bm_ 9 0xf) ?_
      refine pu_ 4 10 (bm_ 9 0x1f) ?_
      refine pu_ 5 11 (bm_ 9 0x3f) ?_
      refine pu_ 6 12 (bm_ 9 0x7f) ?_
      refine la_ 7 (some 13) (bm_ 9 0xff) fun K hK => ?_
      refine value_ (by rfl) rfl (run_cp rfl (by rfl) (by rfl) (hcp _ _ _ _ _)) ?_
      refine hK.out _ _ ?_
      clear hK K hHeld hcp
      refine nm_ 13 ?_
      refine pu_ 8 5 (bm_ 9 0x1ff) ?_
      refine done_ (by kernel_rfl) ?_
      go_wp2
      go_ret
      exact ⟨_, rfl, HQ.out, rfl, HF.out⟩
    · go_enter Tryd.func49, Tryd.ntmps49
      go_upto_region 1 with (fail)
      refine start_ (n := 9) (S := fun w' => w' = w.drew) (ds := [7]) #[false, false, false, false, false, false, false, false, false] (by kernel_rfl) rfl rfl rfl (fun hHeld => ?_)
      refine pu_ 0 6 (bm_ 9 0x1) ?_
      refine pu_ 1 7 (bm_ 9 0x3) ?_
      refine pu_ 2 8 (bm_ 9 0x7) ?_
      refine pu_ 3 9 (bm_ 9 0xf) ?_
      refine pu_ 4 10 (bm_ 9 0x1f) ?_
      refine pu_ 5 11 (bm_ 9 0x3f) ?_
      refine pu_ 6 12 (bm_ 9 0x7f) ?_
      refine la_ 7 (some 13) (bm_ 9 0xff) fun K hK => ?_
      refine value_ (by rfl) rfl (run_cp rfl (by rfl) (by rfl) (hcp _ _ _ _ _)) ?_
      refine hK.out _ _ ?_
      clear hK K hHeld hcp
      refine nm_ 13 ?_
      refine pu_ 8 5 (bm_ 9 0x1ff) ?_
      refine done_ (by kernel_rfl) ?_
      go_wp2
      go_ret
      exact ⟨_, rfl, HQ.out, rfl, HF.out⟩
end Go.Proofs.YtpfpdbbgiimnmaaDoor.Net
