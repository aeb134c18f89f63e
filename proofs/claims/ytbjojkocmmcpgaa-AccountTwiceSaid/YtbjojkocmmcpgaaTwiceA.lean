/- AccountTwice: data that comes twice is told, and changes nothing; data of layers above the level says nothing. Conditions: the numbers of the tick are bytes. -/
import Derived.Test.YtbjojkocmmcpgaaAbove
namespace Go.Proofs.Ytbjojkocmmcpgaa.Acc
set_option linter.unusedSimpArgs false
set_option linter.unusedVariables false
open Go.RowKit Go.Maps Go.Proofs.Ytbjojkocmmcpgaa.Er Go.Proofs.Ytbjojkocmmcpgaa.Mod Go.Proofs.YtbjojkocmmcpgaaW.PrintWords
set_option maxHeartbeats 8000000 in
set_option maxRecDepth 100000 in
theorem twice_calls (x : Nat → Int) (t l b : Int) (W : World) (hx : ∀ i, 0 ≤ x i ∧ x i < 256) :
    Calls Try.prog 6 #[tkV x t l b] W fun e w' => e = .returned (.bool true) ∧ Below W.heap.size W w' := by
  have HX := Lib.hid hx
  clear hx
  unfold tkV
  go_enter Try.func6, Try.ntmps6
  go_upto_region 3 with (fail)
  have u1 := utm_ l 7 (by omega) (by omega)
  have u2 := utm_ t 1099511627774 (by omega) (by omega)
  generalize wrap64 ((IntKind.u64.wrap l).tmod 7) = lv at u1 ⊢
  generalize wrap64 ((IntKind.u64.wrap t).tmod 1099511627774) = T at u2 ⊢
  generalize IntKind.u64.wrap l = z1
  generalize IntKind.u64.wrap t = z2
  obtain ⟨l0, l8⟩ := u1
  obtain ⟨t0, t1⟩ := u2
  have HTB : Hid (TkB (W.alloc (.cells #[.int .i64 t, .int .u8 (x 0), .int .u8 (x 1), .int .u8 (x 2), .int .u8 (x 3), .int .u8 (x 4), .int .u8 (x 5), .int .u8 (x 6), .int .u8 (x 7), .int .i64 l, .int .i64 b] 42)) W.heap.size x t l b) := Lib.hid (heap_new _ _)
  obtain ⟨W1, hW1⟩ : ∃ W1, W1 = W.alloc (.cells #[.int .i64 t, .int .u8 (x 0), .int .u8 (x 1), .int .u8 (x 2), .int .u8 (x 3), .int .u8 (x 4), .int .u8 (x 5), .int .u8 (x 6), .int .u8 (x 7), .int .i64 l, .int .i64 b] 42) := ⟨_, rfl⟩
  rw [← hW1] at HTB ⊢
  have HW1 : Hid (Below W.heap.size W W1 ∧ W1.heap.size = W.heap.size + 1) := Lib.hid (by rw [hW1]; exact ⟨(Below.refl _ _).alloc (Nat.le_refl _) _, by simp⟩)
  clear hW1
  go_upto_region 7 with (first
    | (go_at_call 7; refine (new_law _).mono ?_; rintro e w1 ⟨g, M, rfl, h⟩; have HL := Lib.hid h; clear h)
    | (go_at_call 11; refine (setLevel_law _ _ g M _ lv HL.out ⟨by omega, by omega⟩).mono ?_; rintro e w2 ⟨rfl, h⟩; have HL2 := Lib.hid h; have HTB2 : Hid (TkB w2 W.heap.size x t l b) := Lib.hid ((h.bel.block _ (by have := HW1.out.2; omega)).trans HTB.out); clear h HL)
    | ((with_reducible refine gate_load (t := 42) (p := 1) rfl ?_); refine wpList_load_row rfl 42 _ rfl W.heap.size rfl 42 _ (0, 0) _ HTB2.out Try.underlying42 rfl tk_size ?_)
    | (go_at_call 12; refine (all_calls x t l b lv T _ HX.out ⟨l0, by omega⟩).mono ?_; rintro e w3 ⟨v, rfl, hp, hb⟩; have HP := Lib.hid hp; have HL3 := Lib.hid (HL2.out.below hb); have HTB3 : Hid (TkB w3 W.heap.size x t l b) := Lib.hid ((hb.block _ (by have := HL2.out.bel.size; have := HW1.out.2; omega)).trans HTB2.out); clear hp hb))
  obtain ⟨m, hm⟩ : ∃ m, m = manyOf x := ⟨_, rfl⟩
  obtain ⟨F, hF⟩ : ∃ F, F = allUp m T (lv + 1).toNat := ⟨_, rfl⟩
  have hmb : ∀ l, 1 ≤ m l ∧ m l ≤ 4 := by rw [hm]; exact many_bounds x HX.out
  rw [← hm, ← hF] at HP
  have hpos : 0 < F.length := by rw [hF, show (lv + 1).toNat = lv.toNat + 1 by omega]; exact allUp_pos (fun l => (hmb l).1) T _
  obtain ⟨ab, ac, hv, hAB, hAlt, hcc, _⟩ := HP.out.cells hpos
  obtain ⟨N, hN⟩ : ∃ N : Nat, N = F.length := ⟨_, rfl⟩
  rw [← hN] at hv hcc
  subst hv
  have hN32 : N ≤ 32 := by rw [hN, hF]; have := allUp_len m T (fun l => (hmb l).2) (lv + 1).toNat; omega
  have hN1 : 1 ≤ N := by omega
  have HF := Lib.hid (And.intro hF (And.intro hN hmb))
  have HAS : Hid (∀ k, AS g M k → k < w2.heap.size) := Lib.hid HL2.out.acc.lt
  have HTF : Hid ((∀ d ∈ F, Of m T d) ∧ (F.map kk).Nodup ∧ (∀ d ∈ F, d.layer ≠ (lv + 1).toNat)) := Lib.hid ⟨fun d hd => of_allUp (fun l => (hmb l).1) (by rw [← hF]; exact hd), by rw [hF]; exact nodup_allUp m T _, fun d hd => by
    rw [hF] at hd
    obtain ⟨l, p, h1, _, rfl⟩ := mem_allUp.1 hd
    show l ≠ _; omega⟩
  have HL4 : Hid (LS W1 g M (accAt m lv T F 0) w3) := HL3
  clear hF hm hmb hpos hAB hAlt hN HL3
  go_upto_block 0 with (fail)
  go_wp2
  go_loopg [7, 8, 9, 10, 11, 12, 13, 14, 15, 16] (N + 1) (fun kq v7 v8 v9 v10 v11 v12 v13 v14 v15 v16 wr => ∃ i : Nat, v7 = .int .i64 i ∧ Hid (i ≤ N ∧ kq = N + 1 - i) ∧ Hid (LS W1 g M (accAt m lv T F i) wr) ∧ Hid (Pks wr w2.heap.size (.slice (some ⟨ab, 0, none⟩) N ac) F) ∧ Hid (TkB wr W.heap.size x t l b))
  case atStart => exact ⟨0, rfl, Lib.hid ⟨by omega, by omega⟩, HL4, HP, HTB3⟩
  case round =>
    obtain ⟨i, rfl, HI, HLr, HPr, HTr⟩ := hrel
    clear HL4 HP HTB3 HTB2 HTB
    by_cases hi : i < N
    · have hi' : decide ((i : Int) < (N : Int)) = true := decide_eq_true (by omega)
      obtain ⟨d, hd⟩ : ∃ d, F[i]? = some d := ⟨F[i]'(by rw [← HF.out.2.1]; exact hi), List.getElem?_eq_getElem _⟩
      have hs1 := accAt_step m lv T F HTF.out.1 HTF.out.2.1 i d hd
      have hs2 := again m lv T F HTF.out.1 i d hd
      obtain ⟨ok1, ok2⟩ := allUp_ok HF.out.2.2 (T := T) ⟨t0, by omega⟩ (lv := lv) ⟨l0, by omega⟩ (by rw [← HF.out.1]; exact List.mem_of_getElem? hd)
      have HC : Hid (∀ j v, (pkCells d)[j]? = some v → wr.cell? ⟨ab, i * 20 + j, none⟩ = some v) := Lib.hid (HPr.out.at i d hd)
      have HD := Lib.hid hd
      have HS := Lib.hid (And.intro hs1 (And.intro hs2 (And.intro ok1 ok2)))
      have HG : Hid (∀ i, Good 40 (accAt m lv T F i)) := Lib.hid (fun i => good_at m lv T F 40 ⟨l0, by omega⟩ ⟨t0, by omega⟩ (by rw [← HF.out.2.1]; omega) i)
      have HT1 : Hid ((accAt m lv T F (i + 1)).has = true ∧ (accAt m lv T F (i + 1)).tick = T ∧ (accAt m lv T F (i + 1)).level = lv) := Lib.hid ⟨rfl, rfl, rfl⟩
      clear hs1 hs2 ok1 ok2 hd
      obtain ⟨a0, ha0⟩ : ∃ a0, a0 = accAt m lv T F i := ⟨_, rfl⟩
      obtain ⟨a1, ha1⟩ : ∃ a1, a1 = accAt m lv T F (i + 1) := ⟨_, rfl⟩
      have HUN : Hid ((a1.L (lv + 1).toNat).heard = false) := Lib.hid (by rw [ha1]; exact unheard m lv T F (i + 1) _ HTF.out.2.2)
      have HLV : Hid (a0.level = lv) := Lib.hid (by rw [ha0]; exact level_at m lv T F i)
      have HG0 : Hid (Good 40 a0 ∧ Good 40 a1) := Lib.hid (by rw [ha0, ha1]; exact ⟨HG.out i, HG.out (i + 1)⟩)
      rw [← ha0] at HLr HS
      rw [← ha1] at HS HT1
      have HA1 := Lib.hid ha1
      clear ha0 ha1 HG
      go_upto_region 11 with (first
        | ((with_reducible refine gate_load (t := 34) (p := 53) rfl ?_); refine load_ev (d := d) rfl rfl rfl HC.out ?_)
        | (go_at_call 8; refine (data_law W1 _ g M a0 d a1 [] true (n := 40) HLr.out (by omega) HG0.out.1 HS.out.2.2.1 (by rw [HLV.out]; exact HS.out.2.2.2) HS.out.1.2.2.2 HS.out.1.1 HS.out.1.2.1 HS.out.1.2.2.1).mono ?_; rintro e w5 ⟨A5, c5, rfl, h, hf, hm, hc⟩; have HL5 := Lib.hid h; have HP5 := Lib.hid (HPr.out.fr hf HAS.out); have HT5 : Hid (TkB w5 W.heap.size x t l b) := Lib.hid ((hf.block _ (by have := HLr.out.bel.size; have := HW1.out.2; omega) (fun e => by have := HLr.out.own _ e; have := HW1.out.2; omega)).trans HTr.out); clear h hf hm hc))
      clear HLr HPr HTr HC
      have HC : Hid (∀ j v, (pkCells d)[j]? = some v → w5.cell? ⟨ab, i * 20 + j, none⟩ = some v) := Lib.hid (HP5.out.at i d HD.out)
      go_upto_region 12 with (first
        | ((with_reducible refine gate_load (t := 34) (p := 63) rfl ?_); refine load_ev (d := d) rfl rfl rfl HC.out ?_)
        | (go_at_call 8; refine (data_law W1 _ g M a1 d a1 [] false (n := 40) HL5.out (by omega) HG0.out.2 HS.out.2.2.1 (by rw [HT1.out.2.2]; exact HS.out.2.2.2) (fun _ => by rw [HT1.out.2.1, (HTF.out.1 d (List.mem_of_getElem? HD.out)).tick]; exact Int.le_refl _) HS.out.2.1.1 HS.out.2.1.2.1 HS.out.2.1.2.2).mono ?_; rintro e w6 ⟨A6, c6, rfl, h, hf, hm, hc⟩; have HL6 := Lib.hid h; have HP6 := Lib.hid (HP5.out.fr hf HAS.out); have HT6 : Hid (TkB w6 W.heap.size x t l b) := Lib.hid ((hf.block _ (by have := HL5.out.bel.size; have := HW1.out.2; omega) (fun e => by have := HL5.out.own _ e; have := HW1.out.2; omega)).trans HT5.out); clear h hf hm hc))
      clear HL5 HP5 HT5 HC
      go_upto_region 13 with (first
        | (go_at_call 9; refine (dataOf_at (lv + 1).toNat _ _ _ _ (by omega) _).mono ?_; rintro e w7 ⟨rfl, h⟩; have HL7 := Lib.hid (HL6.out.below h); have HP7 := Lib.hid (HP6.out.below h); have HT7 : Hid (TkB w7 W.heap.size x t l b) := Lib.hid ((h.block _ (by have := HL6.out.bel.size; have := HW1.out.2; omega)).trans HT6.out); clear h HL6 HP6 HT6)
        | (go_at_call 8; refine (data_above _ g M a1 _ HL7.out.acc (dataOk (lv + 1).toNat (T + 1) 0 1 (by omega) (by omega) (by omega) (by omega)) (by rw [HT1.out.2.2]; show lv < ((lv + 1).toNat : Int); omega) HT1.out.1 (by rw [HT1.out.2.1]; show T ≤ T + 1; omega)).mono ?_; rintro e w8 ⟨rfl, h⟩; have HL8 := Lib.hid (HL7.out.below h); have HP8 := Lib.hid (HP7.out.below h); have HT8 : Hid (TkB w8 W.heap.size x t l b) := Lib.hid ((h.block _ (by have := HL7.out.bel.size; have := HW1.out.2; omega)).trans HT7.out); clear h HL7 HP7 HT7))
      go_wp2_with (first | (go_at_call 13; refine (heard_law W1 w8 g M a1 (lv + 1).toNat _ (by omega) false HL8.out (by omega) HUN.out).mono ?_; rintro e w9 ⟨rfl, rfl⟩))
      rw [HA1.out] at HL8
      go_roundg (N - i)
      case measure => have := HI.out; omega
      case rel => exact ⟨i + 1, by go_num, Lib.hid ⟨by omega, by omega⟩, HL8, HP8, HT8⟩
    · have hi' : decide ((i : Int) < (N : Int)) = false := decide_eq_false (by omega)
      obtain ⟨a, ha⟩ : ∃ a, a = st (fun _ => false) m lv T F := ⟨_, rfl⟩
      have HLa : Hid (LS W1 g M a wr) := Lib.hid (by
        have e : accAt m lv T F i = a := by
          have e1 : i = N := by have := HI.out; omega
          obtain ⟨n, rfl⟩ : ∃ n, N = n + 1 := ⟨N - 1, by omega⟩
          rw [ha, e1]
          show st _ m lv T (F.take (n + 1)) = _
          rw [List.take_of_length_le (by rw [← HF.out.2.1]; exact Nat.le_refl _)]
        rw [← e]; exact HLr.out)
      have o2 : Dat.Ok (mkD 0 (T + 1) 0 1) := dataOk _ _ _ _ (by omega) (by omega) (by omega) (by omega)
      have g2 : Good 40 a := by rw [ha]; exact good_st _ m lv T _ 40 ⟨l0, by omega⟩ ⟨t0, by omega⟩ (by rw [← HF.out.2.1]; omega)
      have hms : (a.come (mkD 0 (T + 1) 0 1)).2 = [⟨true, false, false, -1⟩] := by
        rw [ha, come_next _ m lv T _ _ rfl]
        show [(st (fun _ => false) m lv T F).mark] = _
        rw [whole_mark _ m (fun l => (HF.out.2.2 l).1) lv T l0 F (fun l hl => by rw [HF.out.1, count_allUp, if_pos (by omega)])]
      have H2 := Lib.hid (And.intro o2 (And.intro g2 (And.intro hms (show a.level = lv by rw [ha]; rfl))))
      have H3 : Hid (a.has = true → a.tick ≤ (mkD 0 (T + 1) 0 1).tick) := Lib.hid (fun _ => by rw [ha]; show T ≤ T + 1; omega)
      obtain ⟨f, hf⟩ : ∃ f, a.fresh (mkD 0 (T + 1) 0 1) = f := ⟨_, rfl⟩
      have HFR := Lib.hid hf
      clear ha o2 g2 hms hf HLr HPr HTr
      go_upto_region 16 with (first
        | (go_at_call 9; refine (dataOf_calls 0 _ _ _ _).mono ?_; rintro e w4 ⟨rfl, h⟩; have HB := Lib.hid h; clear h)
        | (go_at_call 8; refine (data_law W1 _ g M a (mkD 0 (T + 1) 0 1) _ _ f (n := 40) (HLa.out.below HB.out) (by omega) H2.out.2.1 H2.out.1 (by rw [H2.out.2.2.2]; exact l0) H3.out rfl H2.out.2.2.1 HFR.out).mono ?_; rintro e w5 ⟨A5, c5, rfl, h, hf, hm, hc⟩; have HL5 := Lib.hid h; have HM := Lib.hid hm; clear h hf hm hc HB HLa))
      obtain ⟨b5, c', hv, hbB, hblt, hcc, hcell⟩ := HM.out.cells (by decide)
      cases hv
      obtain ⟨y0, y1, y2, y3⟩ := hcell 0 _ rfl
      simp only [Nat.zero_mul, Nat.zero_add] at y0 y1 y2 y3
      clear hcell HM hbB hcc
      go_wp2_with (first | (go_at_call 10; refine (awake_calls _).mono ?_; rintro e w6 ⟨rfl, h6⟩; have H6 := Lib.hid h6; clear h6))
      go_ret
      exact ⟨rfl, HW1.out.1.trans ((HL5.out.bel.trans (H6.out.mono HL5.out.bel.size)).mono (by have := HW1.out.2; omega))⟩
end Go.Proofs.Ytbjojkocmmcpgaa.Acc
