/- AccountGaps: whatever tick, whatever gap, the law answers true. Conditions: none. -/
import Derived.Test.YtbjojkocmmcpgaaLawsA
namespace Go.Proofs.Ytbjojkocmmcpgaa.Acc
set_option linter.unusedSimpArgs false
set_option linter.unusedVariables false
open Go.RowKit Go.Maps Go.Proofs.Ytbjojkocmmcpgaa.Er Go.Proofs.Ytbjojkocmmcpgaa.Mod
theorem utm_ (a m : Int) (h1 : 1 ≤ m) (h2 : m ≤ 9223372036854775807) : 0 ≤ wrap64 (Int.tmod (IntKind.u64.wrap a) m) ∧ wrap64 (Int.tmod (IntKind.u64.wrap a) m) < m := by
  rw [IntKind.wrap_u64, Int.tmod_eq_emod_of_nonneg (by omega)]
  have h3 := Int.emod_nonneg (a % 18446744073709551616) (b := m) (by omega)
  have h4 := Int.emod_lt_of_pos (a % 18446744073709551616) (b := m) (by omega)
  unfold wrap64
  omega
def lostMk : Mk := ⟨true, false, true, -1⟩
def Bare0 (x : Acc) : Prop := x.first = false ∧ x.level = 0 ∧ (x.L 0).heard = true
theorem bare0_mark {x : Acc} (h : Bare0 x) : x.mark = lostMk := by
  unfold Acc.mark Acc.mark0
  rw [h.1, h.2.1]
  show Mk.mk (true && (x.L 0).heard) false (true || _) (-1) = _
  rw [h.2.2]; rfl
theorem bare0_begin {x : Acc} (t : Int) (h : x.level = 0 ∧ (x.L 0).heard = true) : Bare0 (x.begin t) := ⟨rfl, h.1, h.2⟩
theorem goes_lost {x : Acc} (h : Bare0 x) : ∀ k, Bare0 (x.goes k).1 ∧ (x.goes k).2 = List.replicate k lostMk
  | 0 => ⟨h, rfl⟩
  | k + 1 => by
    obtain ⟨h1, h2⟩ := goes_lost h k
    refine ⟨bare0_begin _ h1.2, ?_⟩
    show (x.goes k).2 ++ [(x.goes k).1.mark] = _
    rw [h2, bare0_mark h1, List.replicate_succ']
theorem gaps_pure (T G : Int) (hG : 1 ≤ G) : ((acc0.data (mkD 0 T 0 1)).come (mkD 0 (T + G) 0 1)).2 = ⟨true, false, false, -1⟩ :: List.replicate (min (G - 1) 64).toNat lostMk ∧ (acc0.data (mkD 0 T 0 1)).fresh (mkD 0 (T + G) 0 1) = true := by
  obtain ⟨a, ha⟩ : ∃ a, a = acc0.data (mkD 0 T 0 1) := ⟨_, rfl⟩
  rw [← ha]
  have e1 : a.tick = T := by rw [ha]; rfl
  have e2 : a.has = true := by rw [ha]; rfl
  have e3 : a.level = 0 := by rw [ha]; rfl
  have e4 : (a.L 0).heard = true := by rw [ha]; rfl
  have e5 : a.mark = ⟨true, false, false, -1⟩ := by rw [ha]; rfl
  have hc : a.come (mkD 0 (T + G) 0 1) = a.close (T + G) := come_close (.inr (by rw [e1]; show T < T + G; omega))
  have hb := goes_lost (bare0_begin (x := a) (max (a.tick + 1) (T + G - 64)) ⟨e3, e4⟩)
  have hn : (T + G - (a.from (T + G)).tick).toNat = (min (G - 1) 64).toNat := by
    rw [(from_tick a (T + G)).1, e1]; omega
  have hcl : a.close (T + G) = (((a.from (T + G)).goes (T + G - (a.from (T + G)).tick).toNat).1, a.mark :: ((a.from (T + G)).goes (T + G - (a.from (T + G)).tick).toNat).2) := if_pos e2
  refine ⟨?_, ?_⟩
  · rw [hc, hcl, hn, e5]
    show _ :: ((a.begin (max (a.tick + 1) (T + G - 64))).goes _).2 = _
    rw [(hb _).2]
  · unfold Acc.fresh
    rw [hc, hcl]
    have : ∀ k, (((a.from (T + G)).goes k).1.L 0).pl = [] := fun k => by
      cases k <;> rfl
    show (!decide ((0 : Int) ∈ (((a.from (T + G)).goes _).1.L 0).pl)) = true
    rw [this]; rfl
set_option maxHeartbeats 4000000 in
set_option maxRecDepth 100000 in
theorem gaps_calls (tick gap : Int) (W : World) : Calls Try.prog 3 #[.int .i64 tick, .int .i64 gap] W fun e w' => e = .returned (.bool true) ∧ Below W.heap.size W w' := by
  go_enter Try.func3, Try.ntmps3
  go_upto_region 3 with (fail)
  have u1 := utm_ tick 549755813888 (by omega) (by omega)
  have u2 := utm_ gap 200 (by omega) (by omega)
  have u3 : wrap64 (1 + wrap64 ((IntKind.u64.wrap gap).tmod 200)) = 1 + wrap64 ((IntKind.u64.wrap gap).tmod 200) := by unfold wrap64 at u2 ⊢; omega
  rw [u3]
  clear u3
  generalize wrap64 ((IntKind.u64.wrap tick).tmod 549755813888) = T at u1 ⊢
  generalize wrap64 ((IntKind.u64.wrap gap).tmod 200) = G0 at u2 ⊢
  generalize IntKind.u64.wrap tick = z1
  generalize IntKind.u64.wrap gap = z2
  obtain ⟨G, hG⟩ : ∃ G, G = 1 + G0 := ⟨_, rfl⟩
  have hG1 : 1 ≤ G ∧ G ≤ 200 := by omega
  rw [← hG]
  clear hG u2
  obtain ⟨u1a, u1b⟩ := u1
  obtain ⟨hg1, hg2⟩ := hG1
  obtain ⟨a1, h1⟩ : ∃ a1, acc0.data (mkD 0 T 0 1) = a1 := ⟨_, rfl⟩
  obtain ⟨a2, h2⟩ : ∃ a2, a1.data (mkD 0 (T + G) 0 1) = a2 := ⟨_, rfl⟩
  have o1 : Dat.Ok (mkD 0 T 0 1) := dataOk _ _ _ _ (by omega) (by omega) (by omega) (by omega)
  have o2 : Dat.Ok (mkD 0 (T + G) 0 1) := dataOk _ _ _ _ (by omega) (by omega) (by omega) (by omega)
  have g1 : Good 1 a1 := by rw [← h1]; exact good_data good0 o1 (fun h => by cases h)
  have t1 : a1.tick = T ∧ a1.level = 0 := by rw [← h1]; exact ⟨rfl, rfl⟩
  have hp := gaps_pure T G hg1
  rw [h1] at hp
  obtain ⟨n, hn⟩ : ∃ n : Nat, n = (min (G - 1) 64).toNat := ⟨_, rfl⟩
  rw [← hn] at hp
  obtain ⟨ms, hms⟩ : ∃ ms, ms = (⟨true, false, false, -1⟩ : Mk) :: List.replicate n lostMk := ⟨_, rfl⟩
  rw [← hms] at hp
  obtain ⟨N, hN⟩ : ∃ N : Nat, N = ms.length := ⟨_, rfl⟩
  have HMS := Lib.hid (And.intro hms hN)
  clear hms
  have H1 := Lib.hid (And.intro h1 (And.intro o1 (And.intro g1 t1)))
  have H2 := Lib.hid (And.intro h2 (And.intro o2 hp))
  have HN := Lib.hid hn
  clear h1 h2 o1 o2 g1 t1 hp hn hN
  go_upto_region 7 with (first
    | (go_at_call 7; refine (new_law _).mono ?_; rintro e w1 ⟨g, M, rfl, h⟩; have HL := Lib.hid h; clear h)
    | (go_at_call 9; refine (dataOf_calls 0 _ _ _ _).mono ?_; rintro e w2 ⟨rfl, h⟩; have HB := Lib.hid h; clear h)
    | (go_at_call 8; refine (data_law W _ g M acc0 (mkD 0 T 0 1) a1 [] true (n := 0) (HL.out.below HB.out) (by omega) good0 H1.out.2.1 (Int.le_refl 0) (fun h => by cases h) H1.out.1 rfl rfl).mono ?_; rintro e w3 ⟨A, c, rfl, h, hf, hm, hc⟩; have HL2 := Lib.hid h; clear h hf hm hc HL HB))
  go_upto_region 8 with (first
    | (go_at_call 9; refine (dataOf_calls 0 _ _ _ _).mono ?_; rintro e w4 ⟨rfl, h⟩; have HB := Lib.hid h; clear h)
    | (go_at_call 8; refine (data_law W _ g M a1 (mkD 0 (T + G) 0 1) a2 _ true (n := 1) (HL2.out.below HB.out) (by omega) H1.out.2.2.1 H2.out.2.1 (by rw [H1.out.2.2.2.2]; exact Int.le_refl 0) (fun _ => by rw [H1.out.2.2.2.1]; show T ≤ T + G; omega) H2.out.1 H2.out.2.2.1 H2.out.2.2.2).mono ?_; rintro e w5 ⟨A5, c5, rfl, h, hf, hm, hc⟩; rw [← HMS.out.2] at hm hc ⊢; have HL5 := Lib.hid h; have HM := Lib.hid hm; clear h hf hm hc HL2 HB))
  have hN1 : N = n + 1 := by rw [HMS.out.2, HMS.out.1]; simp
  obtain ⟨b5, c', hv, hbB, hblt, hcc, hcell⟩ := HM.out.cells (by rw [← HMS.out.2]; omega)
  rw [← HMS.out.2] at hv hcc
  cases hv
  rw [HMS.out.1] at hcell
  have hc0 := hcell 0 _ rfl
  obtain ⟨z0, z1, z2, z3⟩ := hc0
  simp only [Nat.zero_mul, Nat.zero_add] at z0 z1 z2 z3
  have HC : Hid (∀ i, 1 ≤ i → i < N → MkAt w5 b5 i lostMk) := Lib.hid (fun i h1 h2 => hcell i lostMk (by
    obtain ⟨j, rfl⟩ : ∃ j, i = j + 1 := ⟨i - 1, by omega⟩
    rw [List.getElem?_cons_succ, List.getElem?_replicate, if_pos (by omega)]))
  have HNN := Lib.hid hN1
  have hNle : N ≤ 65 := by have := HN.out; omega
  have hNpos : 1 ≤ N := by omega
  clear hcell HM hbB hN1
  go_upto_block 0 with (fail)
  all_goals try (exfalso; have := HN.out; have := HNN.out; omega)
  all_goals
    go_wp2
    go_loopg [9] N (fun kq v9 wr => ∃ k : Nat, v9 = .int .i64 k ∧ wr = w5 ∧ Hid (1 ≤ k ∧ k ≤ N ∧ kq = N + 1 - k))
    case atStart => exact ⟨1, rfl, rfl, Lib.hid ⟨by omega, by omega, by omega⟩⟩
    case round =>
      obtain ⟨k, rfl, rfl, HK⟩ := hrel
      by_cases hk : k < N
      · have hk' : decide ((k : Int) < (N : Int)) = true := decide_eq_true (by omega)
        obtain ⟨y0, y1, y2, y3⟩ := HC.out k HK.out.1 hk
        unfold lostMk at y0 y1 y2 y3
        dsimp only at y0 y1 y2 y3
        go_wp2
        go_roundg (N - k)
        case measure => have := HK.out; omega
        case rel => exact ⟨k + 1, by go_num, rfl, Lib.hid ⟨by omega, by omega, by omega⟩⟩
      · have hk' : decide ((k : Int) < (N : Int)) = false := decide_eq_false (by omega)
        go_wp2_with (first | (go_at_call 10; refine (awake_calls _).mono ?_; rintro e w6 ⟨rfl, h6⟩; have H6 := Lib.hid h6; clear h6))
        go_ret
        exact ⟨rfl, HL5.out.bel.trans (H6.out.mono HL5.out.bel.size)⟩
end Go.Proofs.Ytbjojkocmmcpgaa.Acc
