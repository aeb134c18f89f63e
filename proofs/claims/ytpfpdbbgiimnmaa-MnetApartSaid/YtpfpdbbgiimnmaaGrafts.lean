/- geyserlaw22.MnetGrafts: it answers true. Conditions: none. -/
import Derived.Test.YtpfpdbbgiimnmaaOne
namespace Go.Proofs.Ytpfpdbbgiimnmaa.Net
set_option linter.unusedSimpArgs false
set_option linter.unusedVariables false
open Go.RowKit Go.Deep Go.Proofs.Ytpfpdbbgiimnmaa.Er Go.Proofs.Ytpfpdbbgiimnmaa.Mod Go.Proofs.YtpfpdbbgiimnmaaW.PrintWords
theorem utm_ (a m : Int) (h1 : 1 ≤ m) (h2 : m ≤ 9223372036854775807) : 0 ≤ wrap64 (Int.tmod (IntKind.u64.wrap a) m) ∧ wrap64 (Int.tmod (IntKind.u64.wrap a) m) < m := by
  rw [IntKind.wrap_u64, Int.tmod_eq_emod_of_nonneg (by omega)]
  have h3 := Int.emod_nonneg (a % 18446744073709551616) (b := m) (by omega)
  have h4 := Int.emod_lt_of_pos (a % 18446744073709551616) (b := m) (by omega)
  unfold wrap64
  omega
def hoG (g ly lv : Int) : Ho := ⟨true, lv, fun j => if 0 < (j : Int) ∧ (j : Int) < ly + 1 then g else 0, g, -1, 0, []⟩
def gds (ly : Int) : List Dg := [⟨ly, [1]⟩, ⟨0, [2]⟩]
theorem g_start (g ly : Int) (hg : 0 ≤ g ∧ g ≤ 64) (hly : 1 ≤ ly ∧ ly ≤ 7) : (N1 0 (hoL 0)).graftE 0 g = 0 ∧ ((N1 0 (hoL 0)).setGraft 0 g).wantE 0 ly = 0 ∧ ((N1 0 (hoL 0)).setGraft 0 g).want 0 ly = N1 0 (hoG g ly ly) := by
  obtain ⟨a1, a2⟩ := n1_graft 0 (hoL 0) g hg
  obtain ⟨b1, b2⟩ := n1_want 0 { hoL 0 with graft := g } ly rfl ⟨by omega, by omega⟩
  rw [a2]
  refine ⟨a1, b1, b2.trans ?_⟩
  congr 1
  unfold hoG
  congr 1
  funext j
  unfold Ho.froTo hoL
  dsimp only
  rw [Int.zero_add]
theorem g_q (g ly lv now : Int) (hg : 0 ≤ g) (hlv : 0 ≤ lv) (hly : 1 ≤ ly) (hn : 0 ≤ now) : (hoG g ly lv).send now (gds ly) = if ly ≤ lv ∧ g ≤ now then { hoG g ly lv with got := 1, q := [⟨[1], now, false⟩, ⟨[2], now, false⟩] } else { hoG g ly lv with q := [⟨[2], now, false⟩] } := by
  obtain ⟨L, rfl⟩ : ∃ L : Nat, ly = (L : Int) := ⟨ly.toNat, by omega⟩
  have e0 : ∀ x : Ho, x.there = true → x.level = lv → x.fro 0 = 0 → x.cap = -1 → x.send1 now ⟨0, [2]⟩ = { x with q := x.q ++ [⟨[2], now, false⟩] } := by
    intro x h1 h2 h3 h4
    have hgt : x.gets ⟨0, [2]⟩ now = true := by
      unfold Ho.gets Ho.lets
      show (x.there && decide ((0 : Int) ≤ 0) && decide (0 ≤ x.level) && decide (x.fro 0 ≤ now) && !(false && x.full)) = true
      rw [h1, h2, h3, decide_eq_true hlv, decide_eq_true hn]; rfl
    unfold Ho.send1
    rw [if_pos hgt, Ho.count_plain _ _ _ rfl]
  have f0 : (hoG g L lv).fro 0 = 0 := by unfold hoG; simp
  have fL : (hoG g L lv).fro L = g := if_pos ⟨by omega, by omega⟩
  show ((hoG g L lv).send1 now ⟨L, [1]⟩).send1 now ⟨0, [2]⟩ = _
  by_cases h : (L : Int) ≤ lv ∧ g ≤ now
  · rw [if_pos h]
    have hgt : (hoG g L lv).gets ⟨L, [1]⟩ now = true := by
      unfold Ho.gets Ho.lets
      show (true && decide ((0 : Int) ≤ L) && decide ((L : Int) ≤ lv) && decide ((hoG g L lv).fro (Int.toNat L) ≤ now) && !(true && (hoG g L lv).full)) = true
      rw [Int.toNat_natCast, fL, decide_eq_true (by omega : (0 : Int) ≤ L), decide_eq_true h.1, decide_eq_true h.2]; rfl
    have e1 : (hoG g L lv).send1 now ⟨L, [1]⟩ = { hoG g L lv with got := 1, q := [⟨[1], now, false⟩] } := by
      unfold Ho.send1 Ho.count
      rw [if_pos hgt, hgt]
      rfl
    rw [e1, e0 { hoG g L lv with got := 1, q := [⟨[1], now, false⟩] } rfl rfl f0 rfl]
    rfl
  · rw [if_neg h]
    have hgt : (hoG g L lv).gets ⟨L, [1]⟩ now = false := by
      unfold Ho.gets Ho.lets
      show (true && decide ((0 : Int) ≤ L) && decide ((L : Int) ≤ lv) && decide ((hoG g L lv).fro (Int.toNat L) ≤ now) && !(true && (hoG g L lv).full)) = false
      rw [Int.toNat_natCast, fL]
      by_cases h1 : (L : Int) ≤ lv
      · rw [decide_eq_false (by omega : ¬ g ≤ now)]; simp
      · rw [decide_eq_false h1]; simp
    have e1 : (hoG g L lv).send1 now ⟨L, [1]⟩ = hoG g L lv := by unfold Ho.send1; rw [hgt]; rfl
    rw [e1, e0 (hoG g L lv) rfl rfl f0 rfl]
    rfl
def gout (c : Bool) : List (List Int) := if c then [[1], [2]] else [[2]]
theorem g_round (g ly lv now : Int) (hg : 0 ≤ g) (hlv : 0 ≤ lv) (hly : 1 ≤ ly) (hn : 0 ≤ now) :
    ((N1 now (hoG g ly lv)).send (gds ly)).taken 0 = gout (decide (ly ≤ lv ∧ g ≤ now)) ∧ (((N1 now (hoG g ly lv)).send (gds ly)).take 0).tick = N1 (now + 1) (hoG g ly lv) := by
  rw [n1_send, n1_taken, n1_take, n1_tick, g_q g ly lv now hg hlv hly hn]
  by_cases h : ly ≤ lv ∧ g ≤ now
  · rw [if_pos h, decide_eq_true h]
    constructor
    · unfold dueNow gout; simp
    · congr 1
      unfold later hoG
      simp
  · rw [if_neg h, decide_eq_false h]
    constructor
    · unfold dueNow gout; simp
    · congr 1
      unfold later hoG
      simp
theorem g_wf (g ly lv now : Int) (hg : 0 ≤ g ∧ g ≤ 64) (hlv : 0 ≤ lv ∧ lv < 8) (hn : 0 ≤ now ∧ now ≤ 1000) : Wf (N1 now (hoG g ly lv)) 100 := n1_wf ⟨hn.1, by omega⟩ ⟨by show -1 ≤ lv; omega, hlv.2⟩ hg ⟨Int.le_refl _, by show (0 : Int) + _ < _; decide⟩ (by show 0 + 100 ≤ _; decide)
theorem gout_len (c : Bool) : ∀ x ∈ gout c, x.length ≤ 140737488355328 := by
  cases c <;> decide
set_option maxHeartbeats 4000000 in
set_option maxRecDepth 100000 in
theorem grafts_calls (w : World) (g0 l0 : Int) : Calls Try.prog 5 #[.int .i64 g0, .int .i64 l0] w fun e w' => e = .returned (.bool true) ∧ Below w.heap.size w w' := by
  have u1 := utm_ g0 65 (by omega) (by omega)
  have u2 := utm_ l0 7 (by omega) (by omega)
  go_enter Try.func5, Try.ntmps5
  go_upto_region 3 with (fail)
  generalize wrap64 ((IntKind.u64.wrap g0).tmod 65) = g at u1 ⊢
  generalize wrap64 ((IntKind.u64.wrap l0).tmod 7) = l1 at u2 ⊢
  obtain ⟨ly, hly⟩ : ∃ ly, ly = 1 + l1 := ⟨_, rfl⟩
  rw [← hly]
  have hly1 : 1 ≤ ly := by omega
  have hly7 : ly ≤ 7 := by omega
  obtain ⟨hg0, hg64⟩ := u1
  have hgg : g ≤ 64 := by omega
  clear hly u2
  have HS := Lib.hid (g_start g ly ⟨hg0, hgg⟩ ⟨hly1, hly7⟩)
  have HW0 : Hid (Wf (N1 0 (hoL 0)) 100) := Lib.hid (n1_wf (by decide) (by decide) (by decide) (by decide) (by decide))
  have HW1 : Hid (Wf ((N1 0 (hoL 0)).setGraft 0 g) 100) := Lib.hid (by
    rw [(n1_graft 0 (hoL 0) g ⟨hg0, hgg⟩).2]
    exact n1_wf (by decide) (by show -1 ≤ (0 : Int) ∧ (0 : Int) < 8; decide) (by show 0 ≤ g ∧ g ≤ 64; exact ⟨hg0, hgg⟩) (by show (0 : Int) ≤ 0 ∧ (0 : Int) + 100 < _; decide) (by show 0 + 100 ≤ _; decide))
  go_upto_region 6 with (first
          | (go_at_call 7; refine (one_calls _ 0 (by decide)).mono ?_; rintro e w1 ⟨nb, hb, rfl, h⟩; have H1 := Lib.hid h; clear h)
          | (go_at_call 14; refine (graftL H1.out 0 g).mono ?_; rintro e w2 ⟨ev, rfl, he, h⟩; rw [er_zero _ HS.out.1] at he; obtain rfl := ErR_nil he; have H2 := Lib.hid h; clear h he)
          | (go_at_call 15; refine (wantL H2.out HW1.out 0 ly).mono ?_; rintro e w3 ⟨ev, rfl, he, h⟩; rw [er_zero _ HS.out.2.1] at he; obtain rfl := ErR_nil he; rw [HS.out.2.2] at h; have H3 := Lib.hid h; clear h he))
  clear H1 H2 HW0 HW1 HS
  go_upto_block 0 with (fail)
  go_wp2
  go_loopg [6, 7] 100 (fun kq v6 v7 wr => ∃ now : Int, v6 = .int .i64 now ∧ Hid (0 ≤ now ∧ now ≤ g + 2 ∧ (kq : Int) = 100 - now) ∧ Hid (LN w nb hb (N1 now (hoG g ly ly)) wr))
  case atStart => exact ⟨0, rfl, Lib.hid ⟨by omega, by omega, by omega⟩, H3⟩
  case round =>
    clear H3
    obtain ⟨now, rfl, HK, HA⟩ := hrel
    have hnow0 := HK.out.1
    by_cases hi : now < g + 2
    · have HRO := Lib.hid (g_round g ly ly now hg0 (by omega) hly1 hnow0)
      have HWF := Lib.hid (g_wf g ly ly now ⟨hg0, hgg⟩ ⟨by omega, by omega⟩ ⟨hnow0, by omega⟩)
      have HWS : Hid (Wf ((N1 now (hoG g ly ly)).send (gds ly)) 50) := Lib.hid (Wf.send (M := 50) HWF.out _ (by show 2 ≤ 50; decide))
      have HWT : Hid (Wf (((N1 now (hoG g ly ly)).send (gds ly)).take 0) 50) := Lib.hid (HWS.out.take 0)
      obtain ⟨bo, hbo⟩ : ∃ bo, decide (ly ≤ ly ∧ g ≤ now) = bo := ⟨_, rfl⟩
      have HBO := Lib.hid hbo
      have hbv : bo = decide (g ≤ now) := by rw [← hbo]; simp
      have hc : (g ≤ now ∧ (gout bo).length = 2) ∨ (¬ g ≤ now ∧ (gout bo).length = 1) := by
        rw [hbv]
        by_cases e : g ≤ now
        · exact .inl ⟨e, by rw [decide_eq_true e]; rfl⟩
        · exact .inr ⟨e, by rw [decide_eq_false e]; rfl⟩
      clear hbo hbv
      rcases hc with ⟨hgn, hln⟩ | ⟨hgn, hln⟩
      all_goals
        have HLN := Lib.hid hln
        clear hln
        go_wp2_with (first
          | (go_at_call 16; ((with_reducible refine (dgram_calls _ ly _ _ _).mono ?_); rintro e w4 ⟨rfl, h4⟩; have G4 : Hid (w4.heap[wr.heap.size]? = some (.cells (([1] : List Int).map (Value.int .u8)).toArray 5 (0, 0)) ∧ Below wr.heap.size wr w4 ∧ wr.heap.size < w4.heap.size) := Lib.hid ⟨(h4.block _ (by simp)).trans (heap_new _ _), ((Below.refl _ _).alloc (Nat.le_refl _) _).trans (h4.mono (by simp)), Nat.lt_of_lt_of_le (by simp) h4.size⟩; clear h4))
          | (go_at_call 16; ((with_reducible refine (dgram_calls _ 0 _ _ _).mono ?_); rintro e w5 ⟨rfl, h5⟩; have G5 : Hid (w5.heap[w4.heap.size]? = some (.cells (([2] : List Int).map (Value.int .u8)).toArray 5 (0, 0)) ∧ Below w4.heap.size w4 w5 ∧ w4.heap.size < w5.heap.size) := Lib.hid ⟨(h5.block _ (by simp)).trans (heap_new _ _), ((Below.refl _ _).alloc (Nat.le_refl _) _).trans (h5.mono (by simp)), Nat.lt_of_lt_of_le (by simp) h5.size⟩; clear h5))
          | (go_at_call 8; refine (send_two HA.out HWF.out (by decide) wr.heap.size w4.heap.size [1] [2] ly 0 (by decide) (by decide) ((G5.out.2.1.block _ G4.out.2.2).trans G4.out.1) G5.out.1 (G4.out.2.1.trans (G5.out.2.1.mono G4.out.2.1.size)) (Nat.le_refl _) G4.out.2.1.size).mono ?_; rintro e w6 ⟨rfl, h6⟩; have H6 : Hid (LN w nb hb ((N1 now (hoG g ly ly)).send (gds ly)) w6) := Lib.hid h6; clear h6)
          | (go_at_call 9; refine (takeL H6.out HWS.out 0 (by rw [HRO.out.1]; exact gout_len _)).mono ?_; rintro e w7 ⟨v, rfl, h, ho⟩; have H7 := Lib.hid h; have O7 : Hid (OutV w7 v (gout bo)) := Lib.hid (by rw [HRO.out.1, HBO.out] at ho; exact ho); clear h ho; obtain ⟨A7, c7, hv7⟩ : ∃ A7 c7, v = .slice A7 (gout bo).length c7 := (by obtain ⟨A, c, e, _⟩ := O7.out; exact ⟨A, c, e⟩); subst hv7; rw [HLN.out])
          | (go_at_call 13; refine (tickL H7.out HWT.out).mono ?_; rintro e w8 ⟨rfl, h⟩; have H8 : Hid (LN w nb hb (N1 (now + 1) (hoG g ly ly)) w8) := Lib.hid (by rw [HRO.out.2] at h; exact h); clear h))
        go_roundg (99 - now).toNat
        case measure => have := HK.out; omega
        case rel => exact ⟨now + 1, by go_num, Lib.hid ⟨by omega, by omega, by omega⟩, H8⟩
    · have hnow : now = g + 2 := by have := HK.out.2.1; omega
      have HWN := Lib.hid (n1_want now (hoG g ly ly) (ly - 1) rfl ⟨by omega, by omega⟩)
      have HEQ : Hid ((N1 now { hoG g ly ly with fro := (hoG g ly ly).froTo (now + (hoG g ly ly).graft) (ly - 1 + 1), level := ly - 1 }) = N1 now (hoG g ly (ly - 1))) := Lib.hid (by
        have hf : (hoG g ly ly).froTo (now + (hoG g ly ly).graft) (ly - 1 + 1) = (hoG g ly (ly - 1)).fro := by
          funext j; unfold Ho.froTo; exact if_neg (by show ¬(ly < (j : Int) ∧ (j : Int) < ly - 1 + 1); omega)
        rw [hf]; rfl)
      have HWL := Lib.hid (g_wf g ly ly now ⟨hg0, hgg⟩ ⟨by omega, by omega⟩ ⟨hnow0, by omega⟩)
      have HWF := Lib.hid (g_wf g ly (ly - 1) now ⟨hg0, hgg⟩ ⟨by omega, by omega⟩ ⟨hnow0, by omega⟩)
      have HRO := Lib.hid (g_round g ly (ly - 1) now hg0 (by omega) hly1 hnow0)
      have HWS : Hid (Wf ((N1 now (hoG g ly (ly - 1))).send (gds ly)) 50) := Lib.hid (Wf.send (M := 50) HWF.out _ (by show 2 ≤ 50; decide))
      obtain ⟨bo, hbo⟩ : ∃ bo, decide (ly ≤ ly - 1 ∧ g ≤ now) = bo := ⟨_, rfl⟩
      have HBO := Lib.hid hbo
      have HLN : Hid ((gout bo).length = 1) := Lib.hid (by rw [← hbo, decide_eq_false (by omega)]; rfl)
      clear hbo hnow
      have HL := HA
      clear HA
      go_wp2_with (first
          | (go_at_call 15; refine (wantL HL.out HWL.out 0 (ly - 1)).mono ?_; rintro e w3 ⟨ev, rfl, he, h⟩; have HA : Hid (LN w nb hb (N1 now (hoG g ly (ly - 1))) w3) := Lib.hid (by rw [HWN.out.2, HEQ.out] at h; exact h); clear h he)
          | (go_at_call 16; ((with_reducible refine (dgram_calls _ ly _ _ _).mono ?_); rintro e w4 ⟨rfl, h4⟩; have G4 : Hid (w4.heap[w3.heap.size]? = some (.cells (([1] : List Int).map (Value.int .u8)).toArray 5 (0, 0)) ∧ Below w3.heap.size w3 w4 ∧ w3.heap.size < w4.heap.size) := Lib.hid ⟨(h4.block _ (by simp)).trans (heap_new _ _), ((Below.refl _ _).alloc (Nat.le_refl _) _).trans (h4.mono (by simp)), Nat.lt_of_lt_of_le (by simp) h4.size⟩; clear h4))
          | (go_at_call 16; ((with_reducible refine (dgram_calls _ 0 _ _ _).mono ?_); rintro e w5 ⟨rfl, h5⟩; have G5 : Hid (w5.heap[w4.heap.size]? = some (.cells (([2] : List Int).map (Value.int .u8)).toArray 5 (0, 0)) ∧ Below w4.heap.size w4 w5 ∧ w4.heap.size < w5.heap.size) := Lib.hid ⟨(h5.block _ (by simp)).trans (heap_new _ _), ((Below.refl _ _).alloc (Nat.le_refl _) _).trans (h5.mono (by simp)), Nat.lt_of_lt_of_le (by simp) h5.size⟩; clear h5))
          | (go_at_call 8; refine (send_two HA.out HWF.out (by decide) w3.heap.size w4.heap.size [1] [2] ly 0 (by decide) (by decide) ((G5.out.2.1.block _ G4.out.2.2).trans G4.out.1) G5.out.1 (G4.out.2.1.trans (G5.out.2.1.mono G4.out.2.1.size)) (Nat.le_refl _) G4.out.2.1.size).mono ?_; rintro e w6 ⟨rfl, h6⟩; have H6 : Hid (LN w nb hb ((N1 now (hoG g ly (ly - 1))).send (gds ly)) w6) := Lib.hid h6; clear h6)
          | (go_at_call 9; refine (takeL H6.out HWS.out 0 (by rw [HRO.out.1]; exact gout_len _)).mono ?_; rintro e w7 ⟨v, rfl, h, ho⟩; have H7 := Lib.hid h; have O7 : Hid (OutV w7 v (gout bo)) := Lib.hid (by rw [HRO.out.1, HBO.out] at ho; exact ho); clear h ho; obtain ⟨A7, c7, hv7⟩ : ∃ A7 c7, v = .slice A7 (gout bo).length c7 := (by obtain ⟨A, c, e, _⟩ := O7.out; exact ⟨A, c, e⟩); subst hv7; rw [HLN.out])
          | (go_at_call 10; refine (awake_calls _).mono ?_; rintro e w9 ⟨rfl, h9⟩; have H9 := Lib.hid h9; clear h9))
      go_ret
      exact ⟨rfl, H7.out.bel.trans (H9.out.mono H7.out.bel.size)⟩
end Go.Proofs.Ytpfpdbbgiimnmaa.Net
