/- geyserlaw22.MnetApart: the law's walk. Conditions: acts as they may come in. -/
import Derived.Test.YtpfpdbbgiimnmaaApart
namespace Go.Proofs.Ytpfpdbbgiimnmaa.Net
set_option linter.unusedSimpArgs false
set_option linter.unusedVariables false
open Go.RowKit Go.Deep Go.Proofs.Ytpfpdbbgiimnmaa.Er Go.Proofs.Ytpfpdbbgiimnmaa.Mod Go.Proofs.YtpfpdbbgiimnmaaW.PrintWords Go.Proofs.YtpfpdbbgiimnmaaW.PrintLast
theorem callsT {W : World} {nA hA nB hB x y : Nat} {sA sB : Nt} {w : World} {L : Nat} (h : Two W nA hA nB hB x y sA sB w) (a : AV) (ha : a.Ok) (bv lv : Value) (hb : RdB (fun k => k < W.heap.size) W bv a.b) (hl : DgIs (fun k => k < W.heap.size) W lv a.l) (hW : Wg sA (L + 1)) :
    Calls Try.prog 18 #[.pointer (some ⟨x, 0, none⟩), actV a bv lv] w fun e w' => e = .returned (.tuple #[]) ∧ Two W nA hA nB hB x y (Nt.act sA a) sB w' := by
  obtain ⟨bbA, qA, bbB, qB, h1, h2, h3, h4, h5, h6, h7, h8⟩ := h
  have hx : w.cell? ⟨x, 0, none⟩ = some (.pointer (some ⟨nA, 0, none⟩)) := by unfold BothB at h7; simp [World.cell?, h7]
  refine (calls_calls h1 hx a ha bv lv (hb.keep (fun k hk => h3.block k hk)) (hl.keep (fun k hk => h3.block k hk)) (fun k hk => ⟨Nat.lt_of_lt_of_le hk h3.size, fun e => by have := h4 k (.inl e); omega⟩) hW).mono ?_
  rintro e w' ⟨e1, e2⟩
  exact ⟨e1, Two.step h1 h2 h3 h4 h5 h6 h7 h8 e2 (act_n _ _)⟩
theorem callsU {W : World} {nA hA nB hB x y : Nat} {sA sB : Nt} {w : World} {L : Nat} (h : Two W nA hA nB hB x y sA sB w) (kd hst an am ak : Int) (b : List Int) (ls : List Dg) (ha : AV.Ok ⟨kd, hst, an, am, ak, b, ls⟩) (bv lv : Value) (hb : RdB (fun k => k < W.heap.size) W bv b) (hl : DgIs (fun k => k < W.heap.size) W lv ls) (hW : Wg sA (L + 1)) :
    Calls Try.prog 18 #[.pointer (some ⟨x, 0, none⟩), .agg #[.int .i64 kd, .int .i64 hst, .int .i64 an, .int .i64 am, .int .u32 ak, bv, lv]] w fun e w' => e = .returned (.tuple #[]) ∧ Two W nA hA nB hB x y (Nt.act sA ⟨kd, hst, an, am, ak, b, ls⟩) sB w' := callsT h _ ha bv lv hb hl hW
theorem queueT {W : World} {nA hA nB hB x y : Nat} {sA sB : Nt} {w : World} {L : Nat} (h : Two W nA hA nB hB x y sA sB w) (hn : sA.n = 2) (hW : Wg sA L) :
    Calls Try.prog 20 #[.pointer (some ⟨nA, 0, none⟩), .int .i64 0] w fun e w' => ∃ v, e = .returned v ∧ OutV w' v (sA.queue 0) ∧ Below w.heap.size w w' := by
  obtain ⟨bbA, qA, bbB, qB, h1, h2, h3, h4, h5, h6, h7, h8⟩ := h
  have hq := hW.wf.q 0 (by omega)
  refine (queue_ok h1 0 (by omega) (by omega)).mono ?_
  rintro e w' ⟨v, e1, e2, e3⟩
  have e4 : sA.queue 0 = (sA.h 0).q.map (·.b) := if_pos (if_neg (by omega))
  rw [e4]
  refine ⟨v, e1, e3.val (by rw [List.length_map]; omega) (fun b hb => ?_), e2⟩
  obtain ⟨vs, g1, g2, g3⟩ := e3
  rw [← g1] at hb
  obtain ⟨p, hp, rfl⟩ := List.mem_map.1 hb
  obtain ⟨_, _, _, _, g5, _⟩ := g3 p hp
  exact g5
theorem levelT {W : World} {nA hA nB hB x y : Nat} {sA sB : Nt} {w : World} (h : Two W nA hA nB hB x y sA sB w) (hn : sA.n = 2) :
    Calls Try.prog 21 #[.pointer (some ⟨nA, 0, none⟩), .int .i64 0] w fun e w' => e = .returned (.int .i64 (sA.h 0).level) ∧ w' = w := by
  obtain ⟨bbA, qA, bbB, qB, h1, _⟩ := h
  refine (level_calls h1 0).mono fun e w' ⟨e1, e2⟩ => ⟨?_, e2⟩
  rw [e1, if_pos (show sA.at 0 = 0 from if_neg (by omega))]; rfl
theorem nowT {W : World} {nA hA nB hB x y : Nat} {sA sB : Nt} {w : World} (h : Two W nA hA nB hB x y sA sB w) :
    Calls Try.prog 22 #[.pointer (some ⟨nA, 0, none⟩)] w fun e w' => e = .returned (.int .i64 sA.now) ∧ w' = w := by
  obtain ⟨bbA, qA, bbB, qB, h1, _⟩ := h
  exact now_calls h1
theorem Outs.keep {B : Nat} {bb : Nat → Prop} {w w' : World} {v : Value} {l : List (List Int)} {S : Nat → Prop} (h : Outs B bb w v l) (hf : Fr w w' S) (hS : ∀ k, S k → ∃ cur t, w.heap[k]? = some (.cells cur t (0, 0)) ∧ (t = 63 ∨ t = 68 ∨ t = 71)) : Outs B bb w' v l := by
  have key : ∀ (k : Nat) (cur : Array Value) (t : TypeId), w.heap[k]? = some (Obj.cells cur t (0, 0)) → (t = 5 ∨ t = 31) → w'.heap[k]? = w.heap[k]? := by
    intro k cur t h1 ht
    refine hf.block k (lt_of h1) (fun e => ?_)
    obtain ⟨cur', t', h2, h3⟩ := hS k e
    rw [h1] at h2
    cases h2
    rcases ht with rfl | rfl <;> rcases h3 with h3 | h3 | h3 <;> exact absurd h3 (by decide)
  obtain ⟨vs, h1, h2, h3⟩ := h
  exact ⟨vs, h1, own_keep h2 (fun b e => by obtain ⟨_, cur, hc⟩ := own_at h2 e; exact key b cur _ hc (.inr rfl)), fun p hp => (h3 p hp).keep (fun b cur e1 e2 => ⟨key b cur _ e2 (.inl rfl), e1⟩)⟩
theorem Outs.outV {B : Nat} {bb : Nat → Prop} {w : World} {v : Value} {l : List (List Int)} (h : Outs B bb w v l) (hl : l.length ≤ 5000000000000) : OutV w v l := by
  refine h.val hl (fun b hb => ?_)
  obtain ⟨vs, q1, q2, q3⟩ := h
  rw [← q1] at hb
  obtain ⟨p, hp, rfl⟩ := List.mem_map.1 hb
  obtain ⟨_, _, _, _, g5, _⟩ := q3 p hp
  exact g5
theorem taken_len {s : Nt} {L : Nat} (hn : s.n = 2) (hW : Wg s L) : (s.taken 0).length ≤ 5000000000000 := by
  have hq := hW.wf.q 0 (by omega)
  unfold Nt.taken
  rw [if_pos (show s.at 0 = 0 from if_neg (by omega))]
  unfold dueNow
  rw [List.length_map]
  have := List.length_filter_le (fun x => decide (x.due ≤ s.now)) (s.h (Int.toNat 0)).q
  have e0 : Int.toNat 0 = 0 := rfl
  rw [e0] at this ⊢
  omega
/-- What was made stays as it is. -/
def Stay (w w' : World) : Prop := ∀ B bb v l, Outs B bb w v l → Outs B bb w' v l
theorem takeT {W : World} {nA hA nB hB x y : Nat} {sA sB : Nt} {w : World} {L : Nat} (h : Two W nA hA nB hB x y sA sB w) (hn : sA.n = 2) (hW : Wg sA L) :
    Calls Try.prog 9 #[.pointer (some ⟨nA, 0, none⟩), .int .i64 0] w fun e w' => ∃ v, e = .returned v ∧ (∃ B bb, Outs B bb w' v (sA.taken 0)) ∧ Two W nA hA nB hB x y (sA.take 0) sB w' ∧ Stay w w' := by
  obtain ⟨bbA, qA, bbB, qB, h1, h2, h3, h4, h5, h6, h7, h8⟩ := h
  have hq := hW.wf.q 0 (by omega)
  refine (take_ok h1 0 (by omega) (by omega)).mono ?_
  rintro e w' ⟨v, e1, bb', qv', g1, g2, g3⟩
  exact ⟨v, e1, ⟨_, _, g3⟩, Two.step h1 h2 h3 h4 h5 h6 h7 h8 ⟨bb', qv', g1, g2⟩ (take_n _ _), fun B bb v l ho => ho.keep g2.fr (fun k hk => h1.kinds hk)⟩
theorem two_start {W w1 w2 : World} {nA hA nB hB : Nat} (h1 : LN W nA hA (nt0 2) w1) (h2 : LN w1 nB hB (nt0 2) w2) : Two W nA hA nB hB w2.heap.size (w2.heap.size + 1) (nt0 2) (nt0 2) ((w2.alloc (.cells #[.pointer (some ⟨nA, 0, none⟩), .int .i64 0, .slice none 0 0] 49)).alloc (.cells #[.pointer (some ⟨nB, 0, none⟩), .int .i64 0, .slice none 0 0] 49)) := by
  obtain ⟨bbA, qA, a1, a2, a3⟩ := h1
  obtain ⟨bbB, qB, b1, b2, b3⟩ := h2
  have hB := Joins.below_alloc2 w2 (.cells #[.pointer (some ⟨nA, 0, none⟩), .int .i64 0, .slice none 0 0] 49) (.cells #[.pointer (some ⟨nB, 0, none⟩), .int .i64 0, .slice none 0 0] 49)
  refine ⟨bbA, qA, bbB, qB, (a1.below b2).below hB, b1.below hB, a2.trans ((b2.trans (hB.mono b2.size)).mono a2.size), a3, fun k e => Nat.le_trans a2.size (b3 k e), fun k e1 e2 => ?_, ?_, ?_⟩
  · have := a1.lt e1
    have := b3 k (.inl e2)
    omega
  · unfold BothB
    rw [Below.heap_alloc _ _ _ (by simp)]
    exact heap_new _ _
  · unfold BothB
    have := heap_new (w2.alloc (.cells #[.pointer (some ⟨nA, 0, none⟩), .int .i64 0, .slice none 0 0] 49)) (.cells #[.pointer (some ⟨nB, 0, none⟩), .int .i64 0, .slice none 0 0] 49)
    simpa using this
theorem al_start : Al (nt0 2) (nt0 2) := ⟨rfl, rfl, rfl, rfl⟩
set_option maxHeartbeats 8000000 in
set_option maxRecDepth 100000 in
theorem apart_calls (W : World) (A : Option Addr) (m c : Nat) (l : List AV) (hl : ActsIs W A m c l) : Calls Try.prog 6 #[.slice A m c] W fun e w' => e = .returned (.bool true) ∧ Below W.heap.size W w' := by
  have HL := Lib.hid hl
  obtain ⟨hm, hmc, hcm, _⟩ := hl
  have HM := Lib.hid hm
  unfold maxLen at hcm
  clear hm
  go_enter Try.func6, Try.ntmps6
  go_upto_region 2 with (first
    | (go_at_call 17; refine (newL _ 2 (by decide)).mono ?_; rintro e w1 ⟨nA, hA, rfl, h⟩; have H1 := Lib.hid h; clear h))
  go_upto_region 7 with (first
    | (go_at_call 17; refine (newL _ 2 (by decide)).mono ?_; rintro e w2 ⟨nB, hB, rfl, h⟩; have H2 := Lib.hid h; clear h))
  have HT := Lib.hid (two_start H1.out H2.out)
  clear H1 H2
  go_wp2
  go_loopg [9] 60 (fun kq v9 wr => ∃ (i : Nat) (sA sB : Nt), v9 = .int .i64 i ∧ Hid (i ≤ m ∧ i ≤ 40 ∧ kq = 60 - i) ∧ Hid (Two W nA hA nB hB w2.heap.size (w2.heap.size + 1) sA sB wr) ∧ Hid (Al sA sB ∧ Wg sA (100 - i) ∧ Wg sB (100 - i)))
  case atStart => exact ⟨0, nt0 2, nt0 2, rfl, Lib.hid ⟨by omega, by omega, by omega⟩, HT, Lib.hid ⟨al_start, Wg.new 2 _ (by omega), Wg.new 2 _ (by omega)⟩⟩
  case round =>
    obtain ⟨i, sA, sB, rfl, HK, HT', HS⟩ := hrel
    clear HT
    have hi1 : i ≤ m := HK.out.1
    have hi2 : i ≤ 40 := HK.out.2.1
    by_cases hi : i < m
    · by_cases h40 : i < 40
      · obtain ⟨a, ha⟩ : ∃ a, l[i]? = some a := ⟨l[i]'(by rw [← HM.out]; exact hi), List.getElem?_eq_getElem _⟩
        obtain ⟨hok, ab, ao, bv, lv, rfl, hab, hcell, hb, hls⟩ := HL.out.2.2.2 i a ha
        have HC : Hid (∀ w', Below W.heap.size W w' → w'.cell? ⟨ab, ao + i * 7, none⟩ = some (.int .i64 a.kind) ∧ w'.cell? ⟨ab, ao + i * 7 + 1, none⟩ = some (.int .i64 a.host) ∧ w'.cell? ⟨ab, ao + i * 7 + 2, none⟩ = some (.int .i64 a.n) ∧ w'.cell? ⟨ab, ao + i * 7 + 3, none⟩ = some (.int .i64 a.m) ∧ w'.cell? ⟨ab, ao + i * 7 + 4, none⟩ = some (.int .u32 a.mask) ∧ w'.cell? ⟨ab, ao + i * 7 + 5, none⟩ = some bv ∧ w'.cell? ⟨ab, ao + i * 7 + 6, none⟩ = some lv) := Lib.hid (fun w' hB' =>
          ⟨(hB'.cell (p := ⟨ab, _, none⟩) hab).trans (hcell 0 _ rfl), (hB'.cell (p := ⟨ab, _, none⟩) hab).trans (hcell 1 _ rfl), (hB'.cell (p := ⟨ab, _, none⟩) hab).trans (hcell 2 _ rfl), (hB'.cell (p := ⟨ab, _, none⟩) hab).trans (hcell 3 _ rfl), (hB'.cell (p := ⟨ab, _, none⟩) hab).trans (hcell 4 _ rfl), (hB'.cell (p := ⟨ab, _, none⟩) hab).trans (hcell 5 _ rfl), (hB'.cell (p := ⟨ab, _, none⟩) hab).trans (hcell 6 _ rfl)⟩)
        have HX := Lib.hid (And.intro hok (And.intro hb hls))
        have hwA : ∃ L, 100 - i = L + 1 ∧ 100 - (i + 1) = L := ⟨100 - (i + 1), by omega, rfl⟩
        obtain ⟨L, hL1, hL2⟩ := hwA
        have HW2 : Hid (Wg sA (L + 1) ∧ Wg sB (L + 1)) := Lib.hid (by rw [← hL1]; exact HS.out.2)
        have HL2 := Lib.hid hL2
        clear ha hcell hb hls hok hL1 hL2
        obtain ⟨kd, hst, an, am, ak, b, ls⟩ := a
        dsimp only at HC HX
        by_cases hsk : hst = 1 ∧ kd ≠ 5 ∧ kd ≠ 6
        · obtain ⟨rfl, e5, e6⟩ := hsk
          have HAL : Hid (Al (Nt.act sA ⟨kd, 1, an, am, ak, b, ls⟩) sB) := Lib.hid (HS.out.1.one ⟨kd, 1, an, am, ak, b, ls⟩ (show (1 : Int) ≠ 0 by decide) e5 e6)
          obtain ⟨c0, c1, c2, c3, c4, c5, c6⟩ := HC.out wr HT'.out.bel
          have b5 : (kd != 5) = true := bne_iff_ne.2 e5
          have b6 : (kd != 6) = true := bne_iff_ne.2 e6
          clear e5 e6
          go_wp2_with (first
            | (go_at_call 18; ((with_reducible refine (callsU HT'.out kd 1 an am ak b ls HX.out.1 bv lv HX.out.2.1 HX.out.2.2 HW2.out.1).mono ?_); rintro e w5 ⟨rfl, h⟩; have HT5 := Lib.hid h; clear h)))
          go_roundg (59 - i)
          case measure => have := HK.out; omega
          case rel => exact ⟨i + 1, _, sB, by go_num, Lib.hid ⟨by omega, by omega, by omega⟩, HT5, Lib.hid ⟨HAL.out, by rw [HL2.out]; exact HW2.out.1.act _, by rw [HL2.out]; exact HW2.out.2.mono⟩⟩
        · have HAL : Hid (Al (Nt.act sA ⟨kd, hst, an, am, ak, b, ls⟩) (Nt.act sB ⟨kd, hst, an, am, ak, b, ls⟩)) := Lib.hid (HS.out.1.both _)
          have HQ := Lib.hid HAL.out.queue
          have HNA : Hid ((Nt.act sA ⟨kd, hst, an, am, ak, b, ls⟩).n = 2) := Lib.hid HAL.out.1
          have HNB : Hid ((Nt.act sB ⟨kd, hst, an, am, ak, b, ls⟩).n = 2) := Lib.hid HAL.out.2.1
          have HLV : Hid ((Nt.act sA ⟨kd, hst, an, am, ak, b, ls⟩).h 0 = (Nt.act sB ⟨kd, hst, an, am, ak, b, ls⟩).h 0 ∧ (Nt.act sA ⟨kd, hst, an, am, ak, b, ls⟩).now = (Nt.act sB ⟨kd, hst, an, am, ak, b, ls⟩).now) := Lib.hid ⟨HAL.out.2.2.1, HAL.out.2.2.2⟩
          have HWA := Lib.hid (HW2.out.1.act ⟨kd, hst, an, am, ak, b, ls⟩)
          have HWB := Lib.hid (HW2.out.2.act ⟨kd, hst, an, am, ak, b, ls⟩)
          obtain ⟨c0, c1, c2, c3, c4, c5, c6⟩ := HC.out wr HT'.out.bel
          have hc : (hst ≠ 1) ∨ (hst = 1 ∧ kd = 5) ∨ (hst = 1 ∧ kd ≠ 5 ∧ kd = 6) := by omega
          clear hsk
          rcases hc with e1 | ⟨rfl, rfl⟩ | ⟨rfl, e5, rfl⟩
          · have b1 : (hst == 1) = false := beq_eq_false_iff_ne.2 e1
            clear e1
            go_wp2_with (first
              | (go_at_call 18; ((with_reducible refine (callsU HT'.out kd hst an am ak b ls HX.out.1 bv lv HX.out.2.1 HX.out.2.2 HW2.out.1).mono ?_); rintro e w5 ⟨rfl, h⟩; have HT5 := Lib.hid h; clear h; obtain ⟨f0, f1, f2, f3, f4, f5, f6⟩ := HC.out w5 HT5.out.bel))
              | (go_at_call 18; ((with_reducible refine (callsU HT5.out.swap kd hst an am ak b ls HX.out.1 bv lv HX.out.2.1 HX.out.2.2 HW2.out.2).mono ?_); rintro e w6 ⟨rfl, h⟩; have HT6 := Lib.hid h.swap; clear h; clear f0 f1 f2 f3 f4 f5 f6))
              | (go_at_call 20; ((with_reducible refine (queueT HT6.out HNA.out HWA.out).mono ?_); rintro e w7 ⟨v7, rfl, ho, hb7⟩; have O7 := Lib.hid ho; have HT7 := Lib.hid (HT6.out.below hb7); clear ho hb7))
              | (go_at_call 20; ((with_reducible refine (queueT HT7.out.swap HNB.out HWB.out).mono ?_); rintro e w8 ⟨v8, rfl, ho, hb8⟩; have O8 := Lib.hid ho; have O7' := Lib.hid (O7.out.below hb8); have HT8 := Lib.hid (HT7.out.below hb8); clear ho hb8))
              | (go_at_call 19; refine (same_calls _ _ _ _ O7'.out (by rw [HQ.out.1]; exact O8.out)).mono ?_; rintro e w9 ⟨rfl, hb9⟩; have HT9 := Lib.hid (HT8.out.below hb9); clear hb9)
              | (go_at_call 21; ((with_reducible refine (levelT HT9.out HNA.out).mono ?_); rintro e w10 ⟨rfl, hw⟩; rw [hw, HLV.out.1]; clear hw))
              | (go_at_call 21; ((with_reducible refine (levelT HT9.out.swap HNB.out).mono ?_); rintro e w10 ⟨rfl, hw⟩; rw [hw]; clear hw))
              | (go_at_call 22; ((with_reducible refine (nowT HT9.out).mono ?_); rintro e w10 ⟨rfl, hw⟩; rw [hw, HLV.out.2]; clear hw))
              | (go_at_call 22; ((with_reducible refine (nowT HT9.out.swap).mono ?_); rintro e w10 ⟨rfl, hw⟩; rw [hw]; clear hw)))
            go_roundg (59 - i)
            case measure => have := HK.out; omega
            case rel => exact ⟨i + 1, _, _, by go_num, Lib.hid ⟨by omega, by omega, by omega⟩, HT9, Lib.hid ⟨HAL.out, by rw [HL2.out]; exact HWA.out, by rw [HL2.out]; exact HWB.out⟩⟩
          · go_wp2_with (first
              | (go_at_call 18; ((with_reducible refine (callsU HT'.out 5 1 an am ak b ls HX.out.1 bv lv HX.out.2.1 HX.out.2.2 HW2.out.1).mono ?_); rintro e w5 ⟨rfl, h⟩; have HT5 := Lib.hid h; clear h; obtain ⟨f0, f1, f2, f3, f4, f5, f6⟩ := HC.out w5 HT5.out.bel))
              | (go_at_call 18; ((with_reducible refine (callsU HT5.out.swap 5 1 an am ak b ls HX.out.1 bv lv HX.out.2.1 HX.out.2.2 HW2.out.2).mono ?_); rintro e w6 ⟨rfl, h⟩; have HT6 := Lib.hid h.swap; clear h; clear f0 f1 f2 f3 f4 f5 f6))
              | (go_at_call 20; ((with_reducible refine (queueT HT6.out HNA.out HWA.out).mono ?_); rintro e w7 ⟨v7, rfl, ho, hb7⟩; have O7 := Lib.hid ho; have HT7 := Lib.hid (HT6.out.below hb7); clear ho hb7))
              | (go_at_call 20; ((with_reducible refine (queueT HT7.out.swap HNB.out HWB.out).mono ?_); rintro e w8 ⟨v8, rfl, ho, hb8⟩; have O8 := Lib.hid ho; have O7' := Lib.hid (O7.out.below hb8); have HT8 := Lib.hid (HT7.out.below hb8); clear ho hb8))
              | (go_at_call 19; refine (same_calls _ _ _ _ O7'.out (by rw [HQ.out.1]; exact O8.out)).mono ?_; rintro e w9 ⟨rfl, hb9⟩; have HT9 := Lib.hid (HT8.out.below hb9); clear hb9)
              | (go_at_call 21; ((with_reducible refine (levelT HT9.out HNA.out).mono ?_); rintro e w10 ⟨rfl, hw⟩; rw [hw, HLV.out.1]; clear hw))
              | (go_at_call 21; ((with_reducible refine (levelT HT9.out.swap HNB.out).mono ?_); rintro e w10 ⟨rfl, hw⟩; rw [hw]; clear hw))
              | (go_at_call 22; ((with_reducible refine (nowT HT9.out).mono ?_); rintro e w10 ⟨rfl, hw⟩; rw [hw, HLV.out.2]; clear hw))
              | (go_at_call 22; ((with_reducible refine (nowT HT9.out.swap).mono ?_); rintro e w10 ⟨rfl, hw⟩; rw [hw]; clear hw)))
            go_roundg (59 - i)
            case measure => have := HK.out; omega
            case rel => exact ⟨i + 1, _, _, by go_num, Lib.hid ⟨by omega, by omega, by omega⟩, HT9, Lib.hid ⟨HAL.out, by rw [HL2.out]; exact HWA.out, by rw [HL2.out]; exact HWB.out⟩⟩
          · clear e5
            go_wp2_with (first
              | (go_at_call 18; ((with_reducible refine (callsU HT'.out 6 1 an am ak b ls HX.out.1 bv lv HX.out.2.1 HX.out.2.2 HW2.out.1).mono ?_); rintro e w5 ⟨rfl, h⟩; have HT5 := Lib.hid h; clear h; obtain ⟨f0, f1, f2, f3, f4, f5, f6⟩ := HC.out w5 HT5.out.bel))
              | (go_at_call 18; ((with_reducible refine (callsU HT5.out.swap 6 1 an am ak b ls HX.out.1 bv lv HX.out.2.1 HX.out.2.2 HW2.out.2).mono ?_); rintro e w6 ⟨rfl, h⟩; have HT6 := Lib.hid h.swap; clear h; clear f0 f1 f2 f3 f4 f5 f6))
              | (go_at_call 20; ((with_reducible refine (queueT HT6.out HNA.out HWA.out).mono ?_); rintro e w7 ⟨v7, rfl, ho, hb7⟩; have O7 := Lib.hid ho; have HT7 := Lib.hid (HT6.out.below hb7); clear ho hb7))
              | (go_at_call 20; ((with_reducible refine (queueT HT7.out.swap HNB.out HWB.out).mono ?_); rintro e w8 ⟨v8, rfl, ho, hb8⟩; have O8 := Lib.hid ho; have O7' := Lib.hid (O7.out.below hb8); have HT8 := Lib.hid (HT7.out.below hb8); clear ho hb8))
              | (go_at_call 19; refine (same_calls _ _ _ _ O7'.out (by rw [HQ.out.1]; exact O8.out)).mono ?_; rintro e w9 ⟨rfl, hb9⟩; have HT9 := Lib.hid (HT8.out.below hb9); clear hb9)
              | (go_at_call 21; ((with_reducible refine (levelT HT9.out HNA.out).mono ?_); rintro e w10 ⟨rfl, hw⟩; rw [hw, HLV.out.1]; clear hw))
              | (go_at_call 21; ((with_reducible refine (levelT HT9.out.swap HNB.out).mono ?_); rintro e w10 ⟨rfl, hw⟩; rw [hw]; clear hw))
              | (go_at_call 22; ((with_reducible refine (nowT HT9.out).mono ?_); rintro e w10 ⟨rfl, hw⟩; rw [hw, HLV.out.2]; clear hw))
              | (go_at_call 22; ((with_reducible refine (nowT HT9.out.swap).mono ?_); rintro e w10 ⟨rfl, hw⟩; rw [hw]; clear hw)))
            go_roundg (59 - i)
            case measure => have := HK.out; omega
            case rel => exact ⟨i + 1, _, _, by go_num, Lib.hid ⟨by omega, by omega, by omega⟩, HT9, Lib.hid ⟨HAL.out, by rw [HL2.out]; exact HWA.out, by rw [HL2.out]; exact HWB.out⟩⟩
      · have he : i = 40 := by omega
        clear he
        have HNA : Hid (sA.n = 2) := Lib.hid HS.out.1.1
        have HNB : Hid (sB.n = 2) := Lib.hid HS.out.1.2.1
        have HWA : Hid (Wg sA (100 - i)) := Lib.hid HS.out.2.1
        have HLA := Lib.hid (taken_len HS.out.1.1 HS.out.2.1)
        have HLB := Lib.hid (taken_len HS.out.1.2.1 HS.out.2.2)
        have HQ2 : Hid (sA.taken 0 = sB.taken 0) := Lib.hid HS.out.1.queue.2
        have HWB : Hid (Wg sB (100 - i)) := Lib.hid HS.out.2.2
        go_wp2_with (first
          | (go_at_call 9; ((with_reducible refine (takeT HT'.out HNA.out HWA.out).mono ?_); rintro e w7 ⟨v7, rfl, ho, h, hs⟩; have O7 := Lib.hid ho; have HT7 := Lib.hid h; clear ho h hs))
          | (go_at_call 9; ((with_reducible refine (takeT HT7.out.swap HNB.out HWB.out).mono ?_); rintro e w8 ⟨v8, rfl, ⟨B8, bb8, ho⟩, h, hs⟩; have O8 := Lib.hid (ho.outV HLB.out); have O7' : Hid (OutV w8 v7 (sA.taken 0)) := Lib.hid (by obtain ⟨B7, bb7, h7⟩ := O7.out; exact (hs _ _ _ _ h7).outV HLA.out); have HT8 := Lib.hid h.swap; clear ho h hs))
          | (go_at_call 19; refine (same_calls _ _ _ _ O7'.out (by rw [HQ2.out]; exact O8.out)).mono ?_; rintro e w9 ⟨rfl, hb9⟩; have H9 := Lib.hid (HT8.out.bel.trans (hb9.mono HT8.out.bel.size)); clear hb9)
          | (go_at_call 10; refine (awake_calls _).mono ?_; rintro e w10 ⟨rfl, h9⟩; have H10 := Lib.hid h9; clear h9))
        go_ret
        exact ⟨rfl, H9.out.trans (H10.out.mono H9.out.size)⟩
    · have he : i = m := by omega
      clear he
      have HNA : Hid (sA.n = 2) := Lib.hid HS.out.1.1
      have HNB : Hid (sB.n = 2) := Lib.hid HS.out.1.2.1
      have HWA : Hid (Wg sA (100 - i)) := Lib.hid HS.out.2.1
      have HLA := Lib.hid (taken_len HS.out.1.1 HS.out.2.1)
      have HLB := Lib.hid (taken_len HS.out.1.2.1 HS.out.2.2)
      have HQ2 : Hid (sA.taken 0 = sB.taken 0) := Lib.hid HS.out.1.queue.2
      have HWB : Hid (Wg sB (100 - i)) := Lib.hid HS.out.2.2
      go_wp2_with (first
        | (go_at_call 9; ((with_reducible refine (takeT HT'.out HNA.out HWA.out).mono ?_); rintro e w7 ⟨v7, rfl, ho, h, hs⟩; have O7 := Lib.hid ho; have HT7 := Lib.hid h; clear ho h hs))
        | (go_at_call 9; ((with_reducible refine (takeT HT7.out.swap HNB.out HWB.out).mono ?_); rintro e w8 ⟨v8, rfl, ⟨B8, bb8, ho⟩, h, hs⟩; have O8 := Lib.hid (ho.outV HLB.out); have O7' : Hid (OutV w8 v7 (sA.taken 0)) := Lib.hid (by obtain ⟨B7, bb7, h7⟩ := O7.out; exact (hs _ _ _ _ h7).outV HLA.out); have HT8 := Lib.hid h.swap; clear ho h hs))
        | (go_at_call 19; refine (same_calls _ _ _ _ O7'.out (by rw [HQ2.out]; exact O8.out)).mono ?_; rintro e w9 ⟨rfl, hb9⟩; have H9 := Lib.hid (HT8.out.bel.trans (hb9.mono HT8.out.bel.size)); clear hb9)
        | (go_at_call 10; refine (awake_calls _).mono ?_; rintro e w10 ⟨rfl, h9⟩; have H10 := Lib.hid h9; clear h9))
      go_ret
      exact ⟨rfl, H9.out.trans (H10.out.mono H9.out.size)⟩
end Go.Proofs.Ytpfpdbbgiimnmaa.Net
