/- geyserref16's lay by its contract. Conditions: 1, 2, 4 or 5 bytes of a number that is none below 0. -/
import Derived.Test.YtfcofokbhhnfkaaDoorRad
namespace Go.Proofs.YtfcofokbhhnfkaaDoor.Byt
set_option linter.unusedSimpArgs false
set_option linter.unusedVariables false
open Go.RowKit Go.Deep Go.Proofs.YtfcofokbhhnfkaaDoor.Er Go.Proofs.YtfcofokbhhnfkaaDoorW.PrintWords Go.Proofs.YtfcofokbhhnfkaaDoorW.PrintLast Go.Proofs.YtfcofokbhhnfkaaDoorW.PrintMore
theorem OB.row {B g : Nat} {w : World} {l : List Int} (h : w.heap[g]? = some (.cells (l.map (Value.int .u8)).toArray 5 (0, 0))) (hB : B ≤ g) (hx : ∀ x ∈ l, 0 ≤ x ∧ x < 256) (hl : l.length ≤ 140737488355328) : OB B w (.slice (some ⟨g, 0, none⟩) l.length l.length) l := by
  refine ⟨⟨by simp, .inr ⟨g, l.length, _, rfl, hB, h, Nat.le_refl _, by simp only [maxLen]; omega, by simp, ?_⟩⟩, hx, hl⟩
  rw [Nat.mul_one]
  exact List.take_of_length_le (by simp)
theorem own_exact {B g n : Nat} {w : World} {xs : List Value} (h : w.ownsRow B 5 1 (.slice (some ⟨g, 0, none⟩) n n) n xs) : w.heap[g]? = some (.cells xs.toArray 5 (0, 0)) := by
  rcases h.2 with ⟨e, _⟩ | ⟨g', cap, cur, e, _, hc, _, _, h1, h2⟩
  · cases e
  · cases e
    rw [hc]
    congr 2
    apply Array.toList_inj.1
    rw [← h2, Nat.mul_one, List.take_of_length_le (by rw [Array.length_toList, h1]; omega)]
def zrow (s k : Nat) (n : Int) : List Int := List.replicate (s - k) 0 ++ beI k n
theorem zrow_step {s k : Nat} (n : Int) (h : k < s) : (zrow s k n).set (s - k - 1) (n / 256 ^ k % 256) = zrow s (k + 1) n := by
  unfold zrow
  obtain ⟨d, hd⟩ : ∃ d, s - k = d + 1 := ⟨s - k - 1, by omega⟩
  rw [hd, show s - (k + 1) = d by omega, List.replicate_succ', List.append_assoc, Nat.add_sub_cancel, List.set_append_right _ _ (by simp)]
  simp [beI]
theorem zrow_at {s k : Nat} (n : Int) (h : k < s) : (zrow s k n)[s - k - 1]? = some 0 := by
  unfold zrow
  rw [List.getElem?_append_left (by simp; omega), List.getElem?_replicate, if_pos (by omega)]
theorem zrow_len (s k : Nat) (n : Int) (h : k ≤ s) : (zrow s k n).length = s := by
  unfold zrow
  rw [List.length_append, List.length_replicate, beI_len]; omega
theorem made_eq (s : Nat) (n : Int) : (madeCells (Value.int .u8 0).cells (s * 1)).toList = (zrow s 0 n).map (Value.int .u8) := by
  unfold madeCells zrow
  apply List.ext_getElem
  · simp [beI]
  · intro i h1 h2
    simp [Value.cells, beI, Nat.mod_one]
set_option maxHeartbeats 8000000 in
set_option maxRecDepth 100000 in
theorem rlay_calls (s : Nat) (n : Int) (w : World) (hn : 0 ≤ n ∧ n ≤ 9223372036854775807) (hs : s = 1 ∨ s = 2 ∨ s = 4 ∨ s = 5) :
    Calls Tryd.prog 48 #[.int .i64 n, .int .i64 (s : Int)] w fun e w' => ∃ v', e = .returned v' ∧ OB w.heap.size w' v' (beI s n) ∧ Below w.heap.size w w' := by
  have HN := Lib.hid hn
  obtain ⟨iU, hiU, hU0, hU1, hU2⟩ := info_parts infoU
  clear hn
  rcases hs with rfl | rfl | rfl | rfl
  · go_enter Tryd.func48, Tryd.ntmps48
    go_wp2_with (first
      | (at_make
         refine wpList_make_full _ rfl (.tmp 7) (.tmp 7) 22 rfl w.heap.size 5 iU (.int .u8 0) 1 Tryd.underlying22 hiU hU0 hU1 .i64 .i64 1 1 1 rfl rfl rfl rfl (by rw [hU2]; decide) (by decide) (Nat.le_refl _) ?_
         intro w1 hown hgr
         have H0 : Hid (w1.heap[w.heap.size]? = some (.cells ((zrow 1 0 n).map (Value.int .u8)).toArray 5 (0, 0)) ∧ Below w.heap.size w w1) := Lib.hid ⟨own_exact (made_eq _ n ▸ hown), below_grown (Below.refl _ _) hgr (Nat.le_refl _) (fun k e => by cases e)⟩
         clear hown hgr))
    go_loopg [0, 6] (1 + 1) (fun kq v0 v6 wr => ∃ (k : Nat) (z q : Int), v6 = .int .i64 z ∧ v0 = .int .i64 q ∧ Hid (k ≤ 1 ∧ kq = 1 + 1 - k ∧ z = (1 : Int) - 1 - k ∧ q = n / 256 ^ k) ∧ Hid (wr.heap[w.heap.size]? = some (.cells ((zrow 1 k n).map (Value.int .u8)).toArray 5 (0, 0)) ∧ Below w.heap.size w wr))
    case atStart => exact ⟨0, _, n, rfl, rfl, Lib.hid ⟨by omega, by omega, by omega, by simp⟩, H0⟩
    case round =>
      obtain ⟨k, z, q, rfl, rfl, HK, HW⟩ := hrel
      by_cases hk : k < 1
      · obtain ⟨j, hj⟩ : ∃ j : Nat, j = 1 - k - 1 := ⟨_, rfl⟩
        obtain rfl : z = (j : Int) := by have := HK.out.2.2.1; omega
        have hq0 : 0 ≤ q ∧ q ≤ 9223372036854775807 := by
          rw [HK.out.2.2.2]
          have := HN.out
          exact ⟨Int.ediv_nonneg this.1 (Int.le_of_lt (Int.pow_pos (by decide))), Int.le_trans (Int.ediv_le_self _ this.1) this.2⟩
        obtain ⟨x, hx⟩ : ∃ x, x = q % 256 := ⟨_, rfl⟩
        obtain ⟨q2, hq2⟩ : ∃ q2, q2 = q / 256 := ⟨_, rfl⟩
        have e1 : Int.tmod q 256 = x := by rw [Int.tmod_eq_emod_of_nonneg hq0.1, hx]
        have e2 : Int.tdiv q 256 = q2 := by rw [Int.tdiv_eq_ediv_of_nonneg hq0.1, hq2]
        have e3 : wrap64 q2 = q2 := w64 ⟨by omega, by omega⟩
        have e4 : IntKind.u8.wrap x = x := by rw [IntKind.wrap_u8']; omega
        have e5 : x % 256 = x := by omega
        have hjs : (j : Int) < 1 := by omega
        have c0 : wr.cell? ⟨w.heap.size, j, none⟩ = some (.int .u8 0) := by
          rw [blk_cell HW.out.1 j]
          have := zrow_at n hk
          rw [← hj] at this
          simp [this]
        have c1 := blk_frozen HW.out.1 j
        have HNX : Hid ((wr.setCell ⟨w.heap.size, j, none⟩ (.int .u8 x)).heap[w.heap.size]? = some (.cells ((zrow 1 (k + 1) n).map (Value.int .u8)).toArray 5 (0, 0)) ∧ Below w.heap.size w (wr.setCell ⟨w.heap.size, j, none⟩ (.int .u8 x))) := Lib.hid (by
          refine ⟨?_, HW.out.2.setCell (Nat.le_refl _) _⟩
          have := blk_set HW.out.1 j (.int .u8 x)
          rw [List.setIfInBounds_toArray, ← List.map_set] at this
          rw [this, ← zrow_step n hk, ← hj, hx, HK.out.2.2.2])
        have HQ2 : Hid (q2 = n / 256 ^ (k + 1)) := Lib.hid (by rw [hq2, HK.out.2.2.2, Int.pow_succ, Int.ediv_ediv_of_nonneg (Int.le_of_lt (Int.pow_pos (by decide)))])
        clear hx hq2 hq0 hj
        go_wp2
        generalize wr.setCell ⟨w.heap.size, j, none⟩ (.int .u8 x) = w7 at HNX ⊢
        go_roundg (1 - k)
        case measure => have := HK.out; omega
        case rel => exact ⟨k + 1, _, q2, rfl, by first | rfl | exact congrArg _ e3 | exact congrArg _ e2, Lib.hid ⟨by omega, by omega, by have := HK.out.2.2.1; omega, HQ2.out⟩, HNX⟩
      · have hk5 : k = 1 := by have := HK.out; omega
        subst hk5
        obtain rfl : z = -1 := by have := HK.out.2.2.1; omega
        have HO : Hid (OB w.heap.size wr (.slice (some ⟨w.heap.size, 0, none⟩) 1 1) (beI 1 n)) := Lib.hid (by
          have h := OB.row (l := zrow 1 1 n) HW.out.1 (Nat.le_refl _) (fun x hx => by
            unfold zrow at hx
            rw [Nat.sub_self] at hx
            exact beI_lt _ _ x (by simpa using hx)) (by rw [zrow_len _ _ _ (Nat.le_refl _)]; decide)
          rw [zrow_len _ _ _ (Nat.le_refl _)] at h
          have e : zrow 1 1 n = beI 1 n := by unfold zrow; simp
          rw [e] at h
          exact h)
        go_wp2
        go_ret
        exact ⟨_, rfl, HO.out, HW.out.2⟩
  · go_enter Tryd.func48, Tryd.ntmps48
    go_wp2_with (first
      | (at_make
         refine wpList_make_full _ rfl (.tmp 7) (.tmp 7) 22 rfl w.heap.size 5 iU (.int .u8 0) 1 Tryd.underlying22 hiU hU0 hU1 .i64 .i64 2 2 2 rfl rfl rfl rfl (by rw [hU2]; decide) (by decide) (Nat.le_refl _) ?_
         intro w1 hown hgr
         have H0 : Hid (w1.heap[w.heap.size]? = some (.cells ((zrow 2 0 n).map (Value.int .u8)).toArray 5 (0, 0)) ∧ Below w.heap.size w w1) := Lib.hid ⟨own_exact (made_eq _ n ▸ hown), below_grown (Below.refl _ _) hgr (Nat.le_refl _) (fun k e => by cases e)⟩
         clear hown hgr))
    go_loopg [0, 6] (2 + 1) (fun kq v0 v6 wr => ∃ (k : Nat) (z q : Int), v6 = .int .i64 z ∧ v0 = .int .i64 q ∧ Hid (k ≤ 2 ∧ kq = 2 + 1 - k ∧ z = (2 : Int) - 1 - k ∧ q = n / 256 ^ k) ∧ Hid (wr.heap[w.heap.size]? = some (.cells ((zrow 2 k n).map (Value.int .u8)).toArray 5 (0, 0)) ∧ Below w.heap.size w wr))
    case atStart => exact ⟨0, _, n, rfl, rfl, Lib.hid ⟨by omega, by omega, by omega, by simp⟩, H0⟩
    case round =>
      obtain ⟨k, z, q, rfl, rfl, HK, HW⟩ := hrel
      by_cases hk : k < 2
      · obtain ⟨j, hj⟩ : ∃ j : Nat, j = 2 - k - 1 := ⟨_, rfl⟩
        obtain rfl : z = (j : Int) := by have := HK.out.2.2.1; omega
        have hq0 : 0 ≤ q ∧ q ≤ 9223372036854775807 := by
          rw [HK.out.2.2.2]
          have := HN.out
          exact ⟨Int.ediv_nonneg this.1 (Int.le_of_lt (Int.pow_pos (by decide))), Int.le_trans (Int.ediv_le_self _ this.1) this.2⟩
        obtain ⟨x, hx⟩ : ∃ x, x = q % 256 := ⟨_, rfl⟩
        obtain ⟨q2, hq2⟩ : ∃ q2, q2 = q / 256 := ⟨_, rfl⟩
        have e1 : Int.tmod q 256 = x := by rw [Int.tmod_eq_emod_of_nonneg hq0.1, hx]
        have e2 : Int.tdiv q 256 = q2 := by rw [Int.tdiv_eq_ediv_of_nonneg hq0.1, hq2]
        have e3 : wrap64 q2 = q2 := w64 ⟨by omega, by omega⟩
        have e4 : IntKind.u8.wrap x = x := by rw [IntKind.wrap_u8']; omega
        have e5 : x % 256 = x := by omega
        have hjs : (j : Int) < 2 := by omega
        have c0 : wr.cell? ⟨w.heap.size, j, none⟩ = some (.int .u8 0) := by
          rw [blk_cell HW.out.1 j]
          have := zrow_at n hk
          rw [← hj] at this
          simp [this]
        have c1 := blk_frozen HW.out.1 j
        have HNX : Hid ((wr.setCell ⟨w.heap.size, j, none⟩ (.int .u8 x)).heap[w.heap.size]? = some (.cells ((zrow 2 (k + 1) n).map (Value.int .u8)).toArray 5 (0, 0)) ∧ Below w.heap.size w (wr.setCell ⟨w.heap.size, j, none⟩ (.int .u8 x))) := Lib.hid (by
          refine ⟨?_, HW.out.2.setCell (Nat.le_refl _) _⟩
          have := blk_set HW.out.1 j (.int .u8 x)
          rw [List.setIfInBounds_toArray, ← List.map_set] at this
          rw [this, ← zrow_step n hk, ← hj, hx, HK.out.2.2.2])
        have HQ2 : Hid (q2 = n / 256 ^ (k + 1)) := Lib.hid (by rw [hq2, HK.out.2.2.2, Int.pow_succ, Int.ediv_ediv_of_nonneg (Int.le_of_lt (Int.pow_pos (by decide)))])
        clear hx hq2 hq0 hj
        go_wp2
        generalize wr.setCell ⟨w.heap.size, j, none⟩ (.int .u8 x) = w7 at HNX ⊢
        go_roundg (2 - k)
        case measure => have := HK.out; omega
        case rel => exact ⟨k + 1, _, q2, rfl, by first | rfl | exact congrArg _ e3 | exact congrArg _ e2, Lib.hid ⟨by omega, by omega, by have := HK.out.2.2.1; omega, HQ2.out⟩, HNX⟩
      · have hk5 : k = 2 := by have := HK.out; omega
        subst hk5
        obtain rfl : z = -1 := by have := HK.out.2.2.1; omega
        have HO : Hid (OB w.heap.size wr (.slice (some ⟨w.heap.size, 0, none⟩) 2 2) (beI 2 n)) := Lib.hid (by
          have h := OB.row (l := zrow 2 2 n) HW.out.1 (Nat.le_refl _) (fun x hx => by
            unfold zrow at hx
            rw [Nat.sub_self] at hx
            exact beI_lt _ _ x (by simpa using hx)) (by rw [zrow_len _ _ _ (Nat.le_refl _)]; decide)
          rw [zrow_len _ _ _ (Nat.le_refl _)] at h
          have e : zrow 2 2 n = beI 2 n := by unfold zrow; simp
          rw [e] at h
          exact h)
        go_wp2
        go_ret
        exact ⟨_, rfl, HO.out, HW.out.2⟩
  · go_enter Tryd.func48, Tryd.ntmps48
    go_wp2_with (first
      | (at_make
         refine wpList_make_full _ rfl (.tmp 7) (.tmp 7) 22 rfl w.heap.size 5 iU (.int .u8 0) 1 Tryd.underlying22 hiU hU0 hU1 .i64 .i64 4 4 4 rfl rfl rfl rfl (by rw [hU2]; decide) (by decide) (Nat.le_refl _) ?_
         intro w1 hown hgr
         have H0 : Hid (w1.heap[w.heap.size]? = some (.cells ((zrow 4 0 n).map (Value.int .u8)).toArray 5 (0, 0)) ∧ Below w.heap.size w w1) := Lib.hid ⟨own_exact (made_eq _ n ▸ hown), below_grown (Below.refl _ _) hgr (Nat.le_refl _) (fun k e => by cases e)⟩
         clear hown hgr))
    go_loopg [0, 6] (4 + 1) (fun kq v0 v6 wr => ∃ (k : Nat) (z q : Int), v6 = .int .i64 z ∧ v0 = .int .i64 q ∧ Hid (k ≤ 4 ∧ kq = 4 + 1 - k ∧ z = (4 : Int) - 1 - k ∧ q = n / 256 ^ k) ∧ Hid (wr.heap[w.heap.size]? = some (.cells ((zrow 4 k n).map (Value.int .u8)).toArray 5 (0, 0)) ∧ Below w.heap.size w wr))
    case atStart => exact ⟨0, _, n, rfl, rfl, Lib.hid ⟨by omega, by omega, by omega, by simp⟩, H0⟩
    case round =>
      obtain ⟨k, z, q, rfl, rfl, HK, HW⟩ := hrel
      by_cases hk : k < 4
      · obtain ⟨j, hj⟩ : ∃ j : Nat, j = 4 - k - 1 := ⟨_, rfl⟩
        obtain rfl : z = (j : Int) := by have := HK.out.2.2.1; omega
        have hq0 : 0 ≤ q ∧ q ≤ 9223372036854775807 := by
          rw [HK.out.2.2.2]
          have := HN.out
          exact ⟨Int.ediv_nonneg this.1 (Int.le_of_lt (Int.pow_pos (by decide))), Int.le_trans (Int.ediv_le_self _ this.1) this.2⟩
        obtain ⟨x, hx⟩ : ∃ x, x = q % 256 := ⟨_, rfl⟩
        obtain ⟨q2, hq2⟩ : ∃ q2, q2 = q / 256 := ⟨_, rfl⟩
        have e1 : Int.tmod q 256 = x := by rw [Int.tmod_eq_emod_of_nonneg hq0.1, hx]
        have e2 : Int.tdiv q 256 = q2 := by rw [Int.tdiv_eq_ediv_of_nonneg hq0.1, hq2]
        have e3 : wrap64 q2 = q2 := w64 ⟨by omega, by omega⟩
        have e4 : IntKind.u8.wrap x = x := by rw [IntKind.wrap_u8']; omega
        have e5 : x % 256 = x := by omega
        have hjs : (j : Int) < 4 := by omega
        have c0 : wr.cell? ⟨w.heap.size, j, none⟩ = some (.int .u8 0) := by
          rw [blk_cell HW.out.1 j]
          have := zrow_at n hk
          rw [← hj] at this
          simp [this]
        have c1 := blk_frozen HW.out.1 j
        have HNX : Hid ((wr.setCell ⟨w.heap.size, j, none⟩ (.int .u8 x)).heap[w.heap.size]? = some (.cells ((zrow 4 (k + 1) n).map (Value.int .u8)).toArray 5 (0, 0)) ∧ Below w.heap.size w (wr.setCell ⟨w.heap.size, j, none⟩ (.int .u8 x))) := Lib.hid (by
          refine ⟨?_, HW.out.2.setCell (Nat.le_refl _) _⟩
          have := blk_set HW.out.1 j (.int .u8 x)
          rw [List.setIfInBounds_toArray, ← List.map_set] at this
          rw [this, ← zrow_step n hk, ← hj, hx, HK.out.2.2.2])
        have HQ2 : Hid (q2 = n / 256 ^ (k + 1)) := Lib.hid (by rw [hq2, HK.out.2.2.2, Int.pow_succ, Int.ediv_ediv_of_nonneg (Int.le_of_lt (Int.pow_pos (by decide)))])
        clear hx hq2 hq0 hj
        go_wp2
        generalize wr.setCell ⟨w.heap.size, j, none⟩ (.int .u8 x) = w7 at HNX ⊢
        go_roundg (4 - k)
        case measure => have := HK.out; omega
        case rel => exact ⟨k + 1, _, q2, rfl, by first | rfl | exact congrArg _ e3 | exact congrArg _ e2, Lib.hid ⟨by omega, by omega, by have := HK.out.2.2.1; omega, HQ2.out⟩, HNX⟩
      · have hk5 : k = 4 := by have := HK.out; omega
        subst hk5
        obtain rfl : z = -1 := by have := HK.out.2.2.1; omega
        have HO : Hid (OB w.heap.size wr (.slice (some ⟨w.heap.size, 0, none⟩) 4 4) (beI 4 n)) := Lib.hid (by
          have h := OB.row (l := zrow 4 4 n) HW.out.1 (Nat.le_refl _) (fun x hx => by
            unfold zrow at hx
            rw [Nat.sub_self] at hx
            exact beI_lt _ _ x (by simpa using hx)) (by rw [zrow_len _ _ _ (Nat.le_refl _)]; decide)
          rw [zrow_len _ _ _ (Nat.le_refl _)] at h
          have e : zrow 4 4 n = beI 4 n := by unfold zrow; simp
          rw [e] at h
          exact h)
        go_wp2
        go_ret
        exact ⟨_, rfl, HO.out, HW.out.2⟩
  · go_enter Tryd.func48, Tryd.ntmps48
    go_wp2_with (first
      | (at_make
         refine wpList_make_full _ rfl (.tmp 7) (.tmp 7) 22 rfl w.heap.size 5 iU (.int .u8 0) 1 Tryd.underlying22 hiU hU0 hU1 .i64 .i64 5 5 5 rfl rfl rfl rfl (by rw [hU2]; decide) (by decide) (Nat.le_refl _) ?_
         intro w1 hown hgr
         have H0 : Hid (w1.heap[w.heap.size]? = some (.cells ((zrow 5 0 n).map (Value.int .u8)).toArray 5 (0, 0)) ∧ Below w.heap.size w w1) := Lib.hid ⟨own_exact (made_eq _ n ▸ hown), below_grown (Below.refl _ _) hgr (Nat.le_refl _) (fun k e => by cases e)⟩
         clear hown hgr))
    go_loopg [0, 6] (5 + 1) (fun kq v0 v6 wr => ∃ (k : Nat) (z q : Int), v6 = .int .i64 z ∧ v0 = .int .i64 q ∧ Hid (k ≤ 5 ∧ kq = 5 + 1 - k ∧ z = (5 : Int) - 1 - k ∧ q = n / 256 ^ k) ∧ Hid (wr.heap[w.heap.size]? = some (.cells ((zrow 5 k n).map (Value.int .u8)).toArray 5 (0, 0)) ∧ Below w.heap.size w wr))
    case atStart => exact ⟨0, _, n, rfl, rfl, Lib.hid ⟨by omega, by omega, by omega, by simp⟩, H0⟩
    case round =>
      obtain ⟨k, z, q, rfl, rfl, HK, HW⟩ := hrel
      by_cases hk : k < 5
      · obtain ⟨j, hj⟩ : ∃ j : Nat, j = 5 - k - 1 := ⟨_, rfl⟩
        obtain rfl : z = (j : Int) := by have := HK.out.2.2.1; omega
        have hq0 : 0 ≤ q ∧ q ≤ 9223372036854775807 := by
          rw [HK.out.2.2.2]
          have := HN.out
          exact ⟨Int.ediv_nonneg this.1 (Int.le_of_lt (Int.pow_pos (by decide))), Int.le_trans (Int.ediv_le_self _ this.1) this.2⟩
        obtain ⟨x, hx⟩ : ∃ x, x = q % 256 := ⟨_, rfl⟩
        obtain ⟨q2, hq2⟩ : ∃ q2, q2 = q / 256 := ⟨_, rfl⟩
        have e1 : Int.tmod q 256 = x := by rw [Int.tmod_eq_emod_of_nonneg hq0.1, hx]
        have e2 : Int.tdiv q 256 = q2 := by rw [Int.tdiv_eq_ediv_of_nonneg hq0.1, hq2]
        have e3 : wrap64 q2 = q2 := w64 ⟨by omega, by omega⟩
        have e4 : IntKind.u8.wrap x = x := by rw [IntKind.wrap_u8']; omega
        have e5 : x % 256 = x := by omega
        have hjs : (j : Int) < 5 := by omega
        have c0 : wr.cell? ⟨w.heap.size, j, none⟩ = some (.int .u8 0) := by
          rw [blk_cell HW.out.1 j]
          have := zrow_at n hk
          rw [← hj] at this
          simp [this]
        have c1 := blk_frozen HW.out.1 j
        have HNX : Hid ((wr.setCell ⟨w.heap.size, j, none⟩ (.int .u8 x)).heap[w.heap.size]? = some (.cells ((zrow 5 (k + 1) n).map (Value.int .u8)).toArray 5 (0, 0)) ∧ Below w.heap.size w (wr.setCell ⟨w.heap.size, j, none⟩ (.int .u8 x))) := Lib.hid (by
          refine ⟨?_, HW.out.2.setCell (Nat.le_refl _) _⟩
          have := blk_set HW.out.1 j (.int .u8 x)
          rw [List.setIfInBounds_toArray, ← List.map_set] at this
          rw [this, ← zrow_step n hk, ← hj, hx, HK.out.2.2.2])
        have HQ2 : Hid (q2 = n / 256 ^ (k + 1)) := Lib.hid (by rw [hq2, HK.out.2.2.2, Int.pow_succ, Int.ediv_ediv_of_nonneg (Int.le_of_lt (Int.pow_pos (by decide)))])
        clear hx hq2 hq0 hj
        go_wp2
        generalize wr.setCell ⟨w.heap.size, j, none⟩ (.int .u8 x) = w7 at HNX ⊢
        go_roundg (5 - k)
        case measure => have := HK.out; omega
        case rel => exact ⟨k + 1, _, q2, rfl, by first | rfl | exact congrArg _ e3 | exact congrArg _ e2, Lib.hid ⟨by omega, by omega, by have := HK.out.2.2.1; omega, HQ2.out⟩, HNX⟩
      · have hk5 : k = 5 := by have := HK.out; omega
        subst hk5
        obtain rfl : z = -1 := by have := HK.out.2.2.1; omega
        have HO : Hid (OB w.heap.size wr (.slice (some ⟨w.heap.size, 0, none⟩) 5 5) (beI 5 n)) := Lib.hid (by
          have h := OB.row (l := zrow 5 5 n) HW.out.1 (Nat.le_refl _) (fun x hx => by
            unfold zrow at hx
            rw [Nat.sub_self] at hx
            exact beI_lt _ _ x (by simpa using hx)) (by rw [zrow_len _ _ _ (Nat.le_refl _)]; decide)
          rw [zrow_len _ _ _ (Nat.le_refl _)] at h
          have e : zrow 5 5 n = beI 5 n := by unfold zrow; simp
          rw [e] at h
          exact h)
        go_wp2
        go_ret
        exact ⟨_, rfl, HO.out, HW.out.2⟩
end Go.Proofs.YtfcofokbhhnfkaaDoor.Byt
