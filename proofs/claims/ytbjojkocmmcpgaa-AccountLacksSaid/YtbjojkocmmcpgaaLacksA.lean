/- AccountLacks: a tick of which one of the data of a layer that has been heard lacks is told to have lost something. Conditions: the numbers of the tick are bytes. -/
import Derived.Test.YtbjojkocmmcpgaaAbove
import Derived.Test.YtbjojkocmmcpgaaPureL
namespace Go.Proofs.Ytbjojkocmmcpgaa.Acc
set_option linter.unusedSimpArgs false
set_option linter.unusedVariables false
open Go.RowKit Go.Maps Go.Proofs.Ytbjojkocmmcpgaa.Er Go.Proofs.Ytbjojkocmmcpgaa.Mod Go.Proofs.YtbjojkocmmcpgaaW.PrintWords
set_option maxHeartbeats 8000000 in
set_option maxRecDepth 100000 in
theorem lacks_calls (x : Nat → Int) (t l b lk : Int) (W : World) (hx : ∀ i, 0 ≤ x i ∧ x i < 256) :
    Calls Try.prog 5 #[tkV x t l b, .int .i64 lk] W fun e w' => e = .returned (.bool true) ∧ Below W.heap.size W w' := by
  have HX := Lib.hid hx
  clear hx
  unfold tkV
  go_enter Try.func5, Try.ntmps5
  go_upto_region 3 with (fail)
  have u1 := utm_ l 8 (by omega) (by omega)
  have u2 := utm_ t 1099511627773 (by omega) (by omega)
  generalize wrap64 ((IntKind.u64.wrap l).tmod 8) = lv at u1 ⊢
  generalize wrap64 ((IntKind.u64.wrap t).tmod 1099511627773) = T at u2 ⊢
  generalize IntKind.u64.wrap l = z1
  generalize IntKind.u64.wrap t = z2
  obtain ⟨l0, l8⟩ := u1
  obtain ⟨t0, t1⟩ := u2
  have HTB : Hid (TkB (W.alloc (.cells #[.int .i64 t, .int .u8 (x 0), .int .u8 (x 1), .int .u8 (x 2), .int .u8 (x 3), .int .u8 (x 4), .int .u8 (x 5), .int .u8 (x 6), .int .u8 (x 7), .int .i64 l, .int .i64 b] 42)) W.heap.size x t l b) := Lib.hid (heap_new _ _)
  obtain ⟨W1, hW1⟩ : ∃ W1, W1 = W.alloc (.cells #[.int .i64 t, .int .u8 (x 0), .int .u8 (x 1), .int .u8 (x 2), .int .u8 (x 3), .int .u8 (x 4), .int .u8 (x 5), .int .u8 (x 6), .int .u8 (x 7), .int .i64 l, .int .i64 b] 42) := ⟨_, rfl⟩
  rw [← hW1] at HTB ⊢
  have HW1 : Hid (Below W.heap.size W W1 ∧ W1.heap.size = W.heap.size + 1) := Lib.hid (by rw [hW1]; exact ⟨(Below.refl _ _).alloc (Nat.le_refl _) _, by simp⟩)
  clear hW1
  go_upto_region 7 with (first
    | (go_at_call 7; refine (new_law _).mono ?_; rintro e w1 ⟨g, M, rfl, h⟩; have HL := Lib.hid h; clear h)
    | (go_at_call 11; refine (setLevel_law _ _ g M _ lv HL.out ⟨by omega, by omega⟩).mono ?_; rintro e w2 ⟨rfl, h⟩; have HL2 := Lib.hid h; have HTB2 : Hid (TkB w2 W.heap.size x t l b) := Lib.hid ((h.bel.block _ (by have := HW1.out.2; omega)).trans HTB.out); clear h HL)
    | ((with_reducible refine gate_load (t := 42) (p := 2) rfl ?_); refine wpList_load_row rfl 42 _ rfl W.heap.size rfl 42 _ (0, 0) _ HTB2.out Try.underlying42 rfl tk_size ?_)
    | (go_at_call 12; refine (all_calls x t l b lv T _ HX.out ⟨l0, by omega⟩).mono ?_; rintro e w3 ⟨v, rfl, hp, hb⟩; have HP := Lib.hid hp; have HL3 := Lib.hid (HL2.out.below hb); have HTB3 : Hid (TkB w3 W.heap.size x t l b) := Lib.hid ((hb.block _ (by have := HL2.out.bel.size; have := HW1.out.2; omega)).trans HTB2.out); clear hp hb))
  obtain ⟨m, hm⟩ : ∃ m, m = manyOf x := ⟨_, rfl⟩
  obtain ⟨F, hF⟩ : ∃ F, F = allUp m T (lv + 1).toNat := ⟨_, rfl⟩
  have hmb : ∀ l, 1 ≤ m l ∧ m l ≤ 4 := by rw [hm]; exact many_bounds x HX.out
  have HM0 := Lib.hid hm
  rw [← hm, ← hF] at HP
  have hpos : 0 < F.length := by rw [hF, show (lv + 1).toNat = lv.toNat + 1 by omega]; exact allUp_pos (fun l => (hmb l).1) T _
  obtain ⟨ab, ac, hv, hAB, hAlt, hcc, _⟩ := HP.out.cells hpos
  obtain ⟨N, hN⟩ : ∃ N : Nat, N = F.length := ⟨_, rfl⟩
  rw [← hN] at hv hcc
  subst hv
  have hN32 : N ≤ 32 := by rw [hN, hF]; have := allUp_len m T (fun l => (hmb l).2) (lv + 1).toNat; omega
  have hN1 : 1 ≤ N := by omega
  have HF := Lib.hid (And.intro hF (And.intro hN hmb))
  have HAS : Hid (∀ k, AS g M k → k < w2.heap.size) := Lib.hid HL2.out.acc.lt
  have HTF : Hid ((∀ d ∈ F, Of m T d) ∧ (F.map kk).Nodup) := Lib.hid ⟨fun d hd => of_allUp (fun l => (hmb l).1) (by rw [← hF]; exact hd), by rw [hF]; exact nodup_allUp m T _⟩
  have HL4 : Hid (LS W1 g M (accAt m lv T F 0) w3) := HL3
  clear hF hm hmb hpos hAB hAlt hN HL3
  obtain ⟨k0, hk0⟩ : ∃ k0 : Nat, wrap64 ((IntKind.u64.wrap lk).tmod (N : Int)) = (k0 : Int) := ⟨(wrap64 ((IntKind.u64.wrap lk).tmod (N : Int))).toNat, by have := (utm_ lk N (by omega) (by omega)).1; omega⟩
  have hkN : k0 < N := by have := (utm_ lk N (by omega) (by omega)).2; omega
  go_upto_block 0 with (fail)
  go_wp2
  go_loopg [9] (N + 1) (fun kq v9 wr => ∃ i : Nat, v9 = .int .i64 i ∧ Hid (i ≤ N ∧ kq = N + 1 - i) ∧ Hid (LS W1 g M (accAt m lv T F i) wr) ∧ Hid (Pks wr w2.heap.size (.slice (some ⟨ab, 0, none⟩) N ac) F) ∧ Hid (TkB wr W.heap.size x t l b))
  case atStart => exact ⟨0, rfl, Lib.hid ⟨by omega, by omega⟩, HL4, HP, HTB3⟩
  case round =>
    obtain ⟨i, rfl, HI, HLr, HPr, HTr⟩ := hrel
    clear HL4 HP HTB3 HTB2 HTB
    by_cases hi : i < N
    · have hi' : decide ((i : Int) < (N : Int)) = true := decide_eq_true (by omega)
      obtain ⟨d, hd⟩ : ∃ d, F[i]? = some d := ⟨F[i]'(by rw [← HF.out.2.1]; exact hi), List.getElem?_eq_getElem _⟩
      have hs1 := accAt_step m lv T F HTF.out.1 HTF.out.2 i d hd
      obtain ⟨ok1, ok2⟩ := allUp_ok HF.out.2.2 (T := T) ⟨t0, by omega⟩ (lv := lv) ⟨l0, by omega⟩ (by rw [← HF.out.1]; exact List.mem_of_getElem? hd)
      have HC : Hid (∀ j v, (pkCells d)[j]? = some v → wr.cell? ⟨ab, i * 20 + j, none⟩ = some v) := Lib.hid (HPr.out.at i d hd)
      have HS := Lib.hid (And.intro hs1 (And.intro ok1 ok2))
      clear hs1 ok1 ok2 hd
      go_wp2_with (first
        | ((with_reducible refine gate_load (t := 34) (p := 48) rfl ?_); refine load_ev (d := d) rfl rfl rfl HC.out ?_)
        | (go_at_call 8; refine (data_law W1 _ g M (accAt m lv T F i) d (accAt m lv T F (i + 1)) [] true (n := 40) HLr.out (by omega) (good_at m lv T F 40 ⟨l0, by omega⟩ ⟨t0, by omega⟩ (by rw [← HF.out.2.1]; omega) i) HS.out.2.1 (by rw [level_at]; exact HS.out.2.2) HS.out.1.2.2.2 HS.out.1.1 HS.out.1.2.1 HS.out.1.2.2.1).mono ?_; rintro e w5 ⟨A5, c5, rfl, h, hf, hm, hc⟩; have HL5 := Lib.hid h; have HP5 := Lib.hid (HPr.out.fr hf HAS.out); have HT5 : Hid (TkB w5 W.heap.size x t l b) := Lib.hid ((hf.block _ (by have := HLr.out.bel.size; have := HW1.out.2; omega) (fun e => by have := HLr.out.own _ e; have := HW1.out.2; omega)).trans HTr.out); clear h hf hm hc))
      clear HLr HPr HTr
      go_roundg (N - i)
      case measure => have := HI.out; omega
      case rel => exact ⟨i + 1, by go_num, Lib.hid ⟨by omega, by omega⟩, HL5, HP5, HT5⟩
    · have hi' : decide ((i : Int) < (N : Int)) = false := decide_eq_false (by omega)
      obtain ⟨w7, hw7⟩ : ∃ w7 : World, w7 = wr := ⟨_, rfl⟩
      rw [← hw7] at HLr HPr HTr ⊢
      clear hw7
      obtain ⟨G, hG⟩ : ∃ G, G = allUp m (T + 1) (lv + 1).toNat := ⟨_, rfl⟩
      have hGN : G.length = N := by
        rw [HF.out.2.1, HF.out.1, hG]
        have : ∀ k, (allUp m (T + 1) k).length = (allUp m T k).length := fun k => by
          induction k with
          | zero => rfl
          | succ k ih => simp only [allUp, List.length_append, allOne_len, ih]
        exact this _
      have HGG := Lib.hid (And.intro hG hGN)
      have HLa : Hid (LS W1 g M (nextAt m lv T F (G.eraseIdx k0) 0) w7) := Lib.hid (by
        have e1 : i = N := by have := HI.out; omega
        have e : accAt m lv T F i = nextAt m lv T F (G.eraseIdx k0) 0 := by
          obtain ⟨n, rfl⟩ : ∃ n, N = n + 1 := ⟨N - 1, by omega⟩
          rw [e1]
          show st _ m lv T (F.take (n + 1)) = st _ m lv T F
          rw [List.take_of_length_le (by rw [← HF.out.2.1]; exact Nat.le_refl _)]
        rw [← e]; exact HLr.out)
      clear HLr HPr hG hGN
      go_upto_region 12 with (first
        | ((with_reducible refine gate_load (t := 42) (p := 2) rfl ?_); refine wpList_load_row rfl 42 _ rfl W.heap.size rfl 42 _ (0, 0) _ HTr.out Try.underlying42 rfl tk_size ?_)
        | (go_at_call 12; refine (all_calls x t l b lv (T + 1) _ HX.out ⟨l0, by omega⟩).mono ?_; rintro e w8 ⟨v8, rfl, hp, hb⟩; have HP8 := Lib.hid hp; have HL8 := Lib.hid (HLa.out.below hb); clear hp hb HTr))
      have HAS7 : Hid (∀ k, AS g M k → k < w7.heap.size) := Lib.hid HLa.out.acc.lt
      have hp8 := HP8.out
      rw [show manyOf x = m from HM0.out.symm, ← HGG.out.1] at hp8
      obtain ⟨gb, gc, hv8, hGB, hGlt, hgc, _⟩ := hp8.cells (by rw [HGG.out.2]; omega)
      rw [HGG.out.2] at hv8 hgc
      subst hv8
      have HPg : Hid (Pks w8 w7.heap.size (.slice (some ⟨gb, 0, none⟩) N gc) G) := Lib.hid hp8
      clear hp8 HP8 hGB hGlt HLa
      go_upto_block 2 with (fail)
      go_wp2
      go_loopg [11] (N + 1) (fun kq v11 wr => ∃ i : Nat, v11 = .int .i64 i ∧ Hid (i ≤ N ∧ kq = N + 1 - i) ∧ Hid (LS W1 g M (nextAt m lv T F (G.eraseIdx k0) (if i ≤ k0 then i else i - 1)) wr) ∧ Hid (Pks wr w7.heap.size (.slice (some ⟨gb, 0, none⟩) N gc) G))
      case atStart => exact ⟨0, rfl, Lib.hid ⟨by omega, by omega⟩, HL8, HPg⟩
      case round =>
        clear HL8 HPg hi hi' HI
        obtain ⟨i, rfl, HI, HLr, HPr⟩ := hrel
        by_cases hi : i < N
        · have hi' : decide ((i : Int) < (N : Int)) = true := decide_eq_true (by omega)
          by_cases hk : i = k0
          · have HLn : Hid (LS W1 g M (nextAt m lv T F (G.eraseIdx k0) (if i + 1 ≤ k0 then i + 1 else i + 1 - 1)) wr) := Lib.hid (by
              have := HLr.out
              rw [if_pos (by omega)] at this
              rw [if_neg (by omega)]; exact this)
            clear HLr
            go_wp2
            go_roundg (N - i)
            case measure => have := HI.out; omega
            case rel => exact ⟨i + 1, by go_num, Lib.hid ⟨by omega, by omega⟩, HLn, HPr⟩
          · obtain ⟨d, hd⟩ : ∃ d, G[i]? = some d := ⟨G[i]'(by rw [HGG.out.2]; exact hi), List.getElem?_eq_getElem _⟩
            obtain ⟨j, hj⟩ : ∃ j, j = (if i ≤ k0 then i else i - 1) := ⟨_, rfl⟩
            have hgd : (G.eraseIdx k0)[j]? = some d := by
              rw [List.getElem?_eraseIdx, hj]
              by_cases h : i ≤ k0
              · rw [if_pos h, if_pos (by omega), hd]
              · rw [if_neg h, if_neg (by omega), show i - 1 + 1 = i by omega, hd]
            have hsub : List.Sublist (G.eraseIdx k0) G := List.eraseIdx_sublist _ _
            have hs := nextAt_step m lv T F (G.eraseIdx k0) (fun d hd => of_allUp (fun l => (HF.out.2.2 l).1) (by rw [← HGG.out.1]; exact hsub.subset hd)) (List.Nodup.sublist (hsub.map kk) (by rw [HGG.out.1]; exact nodup_allUp m (T + 1) _)) j d hgd
            obtain ⟨ok1, ok2⟩ := allUp_ok HF.out.2.2 (T := T + 1) ⟨by omega, by omega⟩ (lv := lv) ⟨l0, by omega⟩ (by rw [← HGG.out.1]; exact List.mem_of_getElem? hd)
            have HGd : Hid (Good 40 (nextAt m lv T F (G.eraseIdx k0) j)) := Lib.hid (good_next m lv T F _ 40 ⟨l0, by omega⟩ ⟨t0, by omega⟩ (by rw [← HF.out.2.1]; omega) (by have := hsub.length_le; rw [HGG.out.2] at this; omega) j)
            rw [← hj] at HLr
            have HJ : Hid ((if i + 1 ≤ k0 then i + 1 else i + 1 - 1) = j + 1) := Lib.hid (by rw [hj]; split <;> split <;> omega)
            have HC : Hid (∀ j v, (pkCells d)[j]? = some v → wr.cell? ⟨gb, i * 20 + j, none⟩ = some v) := Lib.hid (HPr.out.at i d hd)
            have HS := Lib.hid (And.intro hs (And.intro ok1 ok2))
            obtain ⟨a0, ha0⟩ : ∃ a0, a0 = nextAt m lv T F (G.eraseIdx k0) j := ⟨_, rfl⟩
            obtain ⟨a1, ha1⟩ : ∃ a1, a1 = nextAt m lv T F (G.eraseIdx k0) (j + 1) := ⟨_, rfl⟩
            have HLV : Hid (a0.level = lv) := Lib.hid (by rw [ha0]; exact level_next m lv T F _ j)
            rw [← ha0] at HLr HS HGd
            rw [← ha1] at HS
            have HA1 := Lib.hid ha1
            have hk' : ((i : Int) == (k0 : Int)) = false := beq_eq_false_iff_ne.2 (by omega)
            clear hs ok1 ok2 hd hgd hsub hj ha0 ha1
            go_wp2_with (first
              | ((with_reducible refine gate_load (t := 34) (p := 74) rfl ?_); refine load_ev (d := d) rfl rfl rfl HC.out ?_)
              | (go_at_call 8; refine (data_law W1 _ g M a0 d a1 _ _ (n := 40) HLr.out (by omega) HGd.out HS.out.2.1 (by rw [HLV.out]; exact HS.out.2.2) HS.out.1.2 HS.out.1.1 rfl rfl).mono ?_; rintro e w9 ⟨A9, c9, rfl, h, hf, hm, hc⟩; have HL9 := Lib.hid h; have HP9 := Lib.hid (HPr.out.fr hf HAS7.out); clear h hf hm hc))
            rw [HA1.out] at HL9
            clear HLr HPr
            go_roundg (N - i)
            case measure => have := HI.out; omega
            case rel => exact ⟨i + 1, by go_num, Lib.hid ⟨by omega, by omega⟩, Lib.hid (by rw [HJ.out]; exact HL9.out), HP9⟩
        · have hi' : decide ((i : Int) < (N : Int)) = false := decide_eq_false (by omega)
          obtain ⟨d0, hd0⟩ : ∃ d0, G[k0]? = some d0 := ⟨G[k0]'(by rw [HGG.out.2]; exact hkN), List.getElem?_eq_getElem _⟩
          have hlast := lacks_last m (fun l => (HF.out.2.2 l).1) lv T l0 k0 d0 (by rw [← HGG.out.1]; exact hd0) (mkD 0 (T + 2) 0 1) rfl
          rw [← HGG.out.1, ← HF.out.1] at hlast
          have hlen : (G.eraseIdx k0).length = N - 1 := by rw [List.length_eraseIdx, if_pos (by rw [HGG.out.2]; exact hkN), HGG.out.2]
          rw [hlen] at hlast
          obtain ⟨a, ha⟩ : ∃ a, a = nextAt m lv T F (G.eraseIdx k0) (N - 1) := ⟨_, rfl⟩
          have HLa : Hid (LS W1 g M a wr) := Lib.hid (by
            have := HLr.out
            rw [if_neg (by have := HI.out; omega), show i - 1 = N - 1 by have := HI.out; omega, ← ha] at this
            exact this)
          have g2 : Good 40 a := by rw [ha]; exact good_next m lv T F _ 40 ⟨l0, by omega⟩ ⟨t0, by omega⟩ (by rw [← HF.out.2.1]; omega) (by omega) _
          have hlv : a.level = lv := by rw [ha]; exact level_next m lv T F _ _
          rw [← ha] at hlast
          obtain ⟨ms, z, hms, hm2, hm0, hmz, hzl, htk⟩ := hlast
          obtain ⟨n, hn⟩ : ∃ n : Nat, n = ms.length := ⟨_, rfl⟩
          have o2 : Dat.Ok (mkD 0 (T + 2) 0 1) := dataOk _ _ _ _ (by omega) (by omega) (by omega) (by omega)
          have H2 := Lib.hid (And.intro o2 (And.intro g2 (And.intro hms (And.intro hlv htk))))
          have HZ := Lib.hid (And.intro hmz (And.intro hzl hn))
          have hn0 : 1 ≤ n := by omega
          have hn2 : n ≤ 2 := by omega
          clear hlen ha g2 hlv hms hmz hzl htk o2 HLr HPr hd0 hn hm0 hm2
          go_upto_region 18 with (first
            | (go_at_call 9; refine (dataOf_calls 0 _ _ _ _).mono ?_; rintro e w4 ⟨rfl, h⟩; have HB := Lib.hid h; clear h)
            | (go_at_call 8; refine (data_law W1 _ g M a (mkD 0 (T + 2) 0 1) _ ms _ (n := 40) (HLa.out.below HB.out) (by omega) H2.out.2.1 H2.out.1 (by rw [H2.out.2.2.2.1]; exact l0) (fun _ => H2.out.2.2.2.2) rfl H2.out.2.2.1 rfl).mono ?_; rintro e w5 ⟨A5, c5, rfl, h, hf, hm, hc⟩; rw [← HZ.out.2.2] at hm hc ⊢; have HL5 := Lib.hid h; have HM := Lib.hid hm; clear h hf hm hc HB HLa))
          obtain ⟨b5, c', hv, hbB, hblt, hcc, hcell⟩ := HM.out.cells (by rw [← HZ.out.2.2]; omega)
          rw [← HZ.out.2.2] at hv hcc
          cases hv
          obtain ⟨q, hq⟩ : ∃ q : Nat, n = q + 1 := ⟨n - 1, by omega⟩
          have hmz := HZ.out.1
          rw [← HZ.out.2.2, hq, Nat.add_sub_cancel] at hmz
          obtain ⟨y0, y1, y2, y3⟩ := hcell q z hmz
          rw [HZ.out.2.1] at y2
          subst hq
          clear hcell HM hbB hmz
          go_wp2_with (first | (go_at_call 10; refine (awake_calls _).mono ?_; rintro e w6 ⟨rfl, h6⟩; have H6 := Lib.hid h6; clear h6))
          go_ret
          exact ⟨rfl, HW1.out.1.trans ((HL5.out.bel.trans (H6.out.mono HL5.out.bel.size)).mono (by have := HW1.out.2; omega))⟩
end Go.Proofs.Ytbjojkocmmcpgaa.Acc
