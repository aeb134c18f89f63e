/- AccountWhole: of a tick of which all data of all layers comes, in whatever order, nothing is lost. Conditions: the numbers of the tick are bytes. -/
import Derived.Test.YtbjojkocmmcpgaaPureA
import Derived.Test.YtbjojkocmmcpgaaGapsA
namespace Go.Proofs.Ytbjojkocmmcpgaa.Acc
set_option linter.unusedSimpArgs false
set_option linter.unusedVariables false
open Go.RowKit Go.Maps Go.Proofs.Ytbjojkocmmcpgaa.Er Go.Proofs.Ytbjojkocmmcpgaa.Mod Go.Proofs.YtbjojkocmmcpgaaW.PrintWords
theorem gate_load {P : Program} {ops : Array Oper} {rest : List Oper} {o : Oper} {a : Act} {Q : Exit → Act → World → Prop} {W : World} {t : TypeId} {p : Tmp} (_ho : o.op = .load t (.tmp p)) (h : wpList P ops Q (o :: rest) a W) : wpList P ops Q (o :: rest) a W := h
theorem load_ev {ops : Array Oper} {rest : List Oper} {o : Oper} {a : Act} {Q : Exit → Act → World → Prop} {W : World} {b off : Nat} {d : Dat} (hgd : o.guard = none) {p : Tmp} (ho : o.op = .load 34 (.tmp p)) (hx : a.eval (.tmp p) = .pointer (some ⟨b, off, none⟩))
    (hc : ∀ j v, (pkCells d)[j]? = some v → W.cell? ⟨b, off + j, none⟩ = some v) (h : wpList Try.prog ops Q rest (a.put o.dst (pkV d)) W) : wpList Try.prog ops Q (o :: rest) a W := by
  refine wpList_plain hgd fun K hK => ?_
  unfold Oper.wp execOp
  simp only [ho, hx, Instr.loadAt, Instr.sureAddr, Sem.run_bind, Sem.run_pure, Result.andThen_ok, load_pk hc]
  exact hK _ _ h
theorem Pks.fr {w w' : World} {B : Nat} {v : Value} {l : List Dat} {g : Nat} {M : Nat → Nat} (h : Pks w B v l) (hf : Fr w w' (AS g M)) (hB : ∀ k, AS g M k → k < B) : Pks w' B v l := h.of_block (fun k hk hl => hf.block k hl (fun e => by have := hB k e; omega))
theorem setLevel_law (W w : World) (g : Nat) (M : Nat → Nat) (a : Acc) (l : Int) (h : LS W g M a w) (hl : 0 ≤ l ∧ l ≤ 7) :
    Calls Try.prog 11 #[.pointer (some ⟨g, 0, none⟩), .int .i64 l] w fun e w' => e = .returned .nilIface ∧ LS W g M (a.setLevel l) w' :=
  (setLevel_calls w g M a l h.acc hl).mono fun _ _ ⟨e, h1, h2⟩ => ⟨e, h.fr h2 h1⟩
/-- The law's own box of a tick's numbers. -/
def TkB (w : World) (b : Nat) (x : Nat → Int) (t l y : Int) : Prop := w.heap[b]? = some (.cells #[.int .i64 t, .int .u8 (x 0), .int .u8 (x 1), .int .u8 (x 2), .int .u8 (x 3), .int .u8 (x 4), .int .u8 (x 5), .int .u8 (x 6), .int .u8 (x 7), .int .i64 l, .int .i64 y] 42 (0, 0))
theorem tk_size : (Try.prog.info? 42).map (·.size) = some 11 := by kernel_rfl
set_option maxHeartbeats 8000000 in
set_option maxRecDepth 100000 in
theorem whole_calls (x : Nat → Int) (t l b : Int) (W : World) (hx : ∀ i, 0 ≤ x i ∧ x i < 256) :
    Calls Try.prog 4 #[tkV x t l b] W fun e w' => e = .returned (.bool true) ∧ Below W.heap.size W w' := by
  have HX := Lib.hid hx
  clear hx
  unfold tkV
  go_enter Try.func4, Try.ntmps4
  go_upto_region 3 with (fail)
  have u1 := utm_ l 8 (by omega) (by omega)
  have u2 := utm_ t 1099511627774 (by omega) (by omega)
  generalize wrap64 ((IntKind.u64.wrap l).tmod 8) = lv at u1 ⊢
  generalize wrap64 ((IntKind.u64.wrap t).tmod 1099511627774) = T at u2 ⊢
  generalize IntKind.u64.wrap l = z1
  generalize IntKind.u64.wrap t = z2
  obtain ⟨l0, l8⟩ := u1
  obtain ⟨t0, t1⟩ := u2
  have HTB : Hid (TkB (W.alloc (.cells #[.int .i64 t, .int .u8 (x 0), .int .u8 (x 1), .int .u8 (x 2), .int .u8 (x 3), .int .u8 (x 4), .int .u8 (x 5), .int .u8 (x 6), .int .u8 (x 7), .int .i64 l, .int .i64 b] 42)) W.heap.size x t l b) := Lib.hid (heap_new _ _)
  obtain ⟨W1, hW1⟩ : ∃ W1, W1 = W.alloc (.cells #[.int .i64 t, .int .u8 (x 0), .int .u8 (x 1), .int .u8 (x 2), .int .u8 (x 3), .int .u8 (x 4), .int .u8 (x 5), .int .u8 (x 6), .int .u8 (x 7), .int .i64 l, .int .i64 b] 42) := ⟨_, rfl⟩
  rw [← hW1] at HTB ⊢
  have HW1 : Hid (Below W.heap.size W W1 ∧ W1.heap.size = W.heap.size + 1) := Lib.hid (by rw [hW1]; exact ⟨(Below.refl _ _).alloc (Nat.le_refl _) _, by simp⟩)
  clear hW1
  go_upto_region 7 with (first
    | (go_at_call 7; refine (new_law _).mono ?_; rintro e w1 ⟨g, M, rfl, h⟩; have HL := Lib.hid h; clear h)
    | (go_at_call 11; refine (setLevel_law _ _ g M _ lv HL.out ⟨by omega, by omega⟩).mono ?_; rintro e w2 ⟨rfl, h⟩; have HL2 := Lib.hid h; have HTB2 : Hid (TkB w2 W.heap.size x t l b) := Lib.hid ((h.bel.block _ (by have := HW1.out.2; omega)).trans HTB.out); clear h HL)
    | ((with_reducible refine gate_load (t := 42) (p := 1) rfl ?_); refine wpList_load_row rfl 42 _ rfl W.heap.size rfl 42 _ (0, 0) _ HTB2.out Try.underlying42 rfl tk_size ?_)
    | (go_at_call 12; refine (all_calls x t l b lv T _ HX.out ⟨l0, by omega⟩).mono ?_; rintro e w3 ⟨v, rfl, hp, hb⟩; have HP := Lib.hid hp; have HL3 := Lib.hid (HL2.out.below hb); have HTB3 : Hid (TkB w3 W.heap.size x t l b) := Lib.hid ((hb.block _ (by have := HL2.out.bel.size; have := HW1.out.2; omega)).trans HTB2.out); clear hp hb))
  obtain ⟨m, hm⟩ : ∃ m, m = manyOf x := ⟨_, rfl⟩
  obtain ⟨F, hF⟩ : ∃ F, F = allUp m T (lv + 1).toNat := ⟨_, rfl⟩
  have hmb : ∀ l, 1 ≤ m l ∧ m l ≤ 4 := by rw [hm]; exact many_bounds x HX.out
  rw [← hm, ← hF] at HP
  have hpos : 0 < F.length := by rw [hF, show (lv + 1).toNat = lv.toNat + 1 by omega]; exact allUp_pos (fun l => (hmb l).1) T _
  obtain ⟨ab, ac, hv, hAB, hAlt, hcc, _⟩ := HP.out.cells hpos
  obtain ⟨N, hN⟩ : ∃ N : Nat, N = F.length := ⟨_, rfl⟩
  rw [← hN] at hv hcc
  subst hv
  have hN32 : N ≤ 32 := by rw [hN, hF]; have := allUp_len m T (fun l => (hmb l).2) (lv + 1).toNat; omega
  have hN1 : 1 ≤ N := by omega
  have HF := Lib.hid (And.intro hF (And.intro hN hmb))
  have HAS : Hid (∀ k, AS g M k → k < w2.heap.size) := Lib.hid HL2.out.acc.lt
  obtain ⟨B, hB⟩ : ∃ B : Nat, wrap64 ((IntKind.u64.wrap b).tmod (N : Int)) = (B : Int) := ⟨(wrap64 ((IntKind.u64.wrap b).tmod (N : Int))).toNat, by have := (utm_ b N (by omega) (by omega)).1; omega⟩
  have hBN : B < N := by have := (utm_ b N (by omega) (by omega)).2; omega
  have HTF : Hid ((∀ d ∈ turn F B, Of m T d) ∧ ((turn F B).map kk).Nodup ∧ (turn F B).Perm F) := Lib.hid ⟨fun d hd => of_allUp (fun l => (hmb l).1) (by rw [← hF]; exact (turn_perm F B).mem_iff.1 hd), by rw [((turn_perm F B).map kk).nodup_iff, hF]; exact nodup_allUp m T _, turn_perm F B⟩
  have HL4 : Hid (LS W1 g M (accAt m lv T (turn F B) 0) w3) := HL3
  clear hF hm hmb hpos hAB hAlt hN HL3
  go_upto_block 0 with (fail)
  go_wp2
  go_loopg [7, 8, 9, 10] (N + 1) (fun kq v7 v8 v9 v10 wr => ∃ i : Nat, v7 = .int .i64 i ∧ Hid (i ≤ N ∧ kq = N + 1 - i) ∧ Hid (LS W1 g M (accAt m lv T (turn F B) i) wr) ∧ Hid (Pks wr w2.heap.size (.slice (some ⟨ab, 0, none⟩) N ac) F) ∧ Hid (TkB wr W.heap.size x t l b))
  case atStart => exact ⟨0, rfl, Lib.hid ⟨by omega, by omega⟩, HL4, HP, HTB3⟩
  case round =>
    obtain ⟨i, rfl, HI, HLr, HPr, HTr⟩ := hrel
    clear HL4 HP HTB3 HTB2 HTB
    have xb : wr.cell? ⟨W.heap.size, 10, none⟩ = some (.int .i64 b) := by have := HTr.out; unfold TkB at this; simp [World.cell?, this]
    by_cases hi : i < N
    · have hi' : decide ((i : Int) < (N : Int)) = true := decide_eq_true (by omega)
      obtain ⟨q, hq⟩ : ∃ q, q = (i + B) % N := ⟨_, rfl⟩
      have hqN : q < N := by rw [hq]; exact Nat.mod_lt _ (by omega)
      have e2 : Int.tmod ((i : Int) + (B : Int)) (N : Int) = (q : Int) := by
        rw [Int.tmod_eq_emod_of_nonneg (by omega), hq]; simp
      have e3 : ((i : Int) + (B : Int)) % (N : Int) = (q : Int) := by rw [hq]; simp
      obtain ⟨d, hd⟩ : ∃ d, F[q]? = some d := ⟨F[q]'(by rw [← HF.out.2.1]; exact hqN), List.getElem?_eq_getElem _⟩
      have htd : (turn F B)[i]? = some d := by rw [turn_at F B i (by rw [← HF.out.2.1]; exact hBN) (by rw [← HF.out.2.1]; exact hi), ← HF.out.2.1, ← hq, hd]
      obtain ⟨s1, s2, s3, s4⟩ := accAt_step m lv T (turn F B) HTF.out.1 HTF.out.2.1 i d htd
      obtain ⟨ok1, ok2⟩ := allUp_ok HF.out.2.2 (T := T) ⟨t0, by omega⟩ (lv := lv) ⟨l0, by omega⟩ (by rw [← HF.out.1]; exact List.mem_of_getElem? hd)
      have HC : Hid (∀ j v, (pkCells d)[j]? = some v → wr.cell? ⟨ab, q * 20 + j, none⟩ = some v) := Lib.hid (HPr.out.at q d hd)
      have HS := Lib.hid (And.intro s1 (And.intro s2 (And.intro s3 (And.intro s4 (And.intro ok1 ok2)))))
      clear s1 s2 s3 s4 ok1 ok2 htd hd hq
      go_upto_region 11 with (first
        | ((with_reducible refine gate_load (t := 34) (p := 59) rfl ?_); refine load_ev (d := d) rfl rfl rfl HC.out ?_)
        | (go_at_call 8; refine (data_law W1 _ g M (accAt m lv T (turn F B) i) d (accAt m lv T (turn F B) (i + 1)) [] true (n := 40) HLr.out (by omega) (good_at m lv T _ 40 ⟨l0, by omega⟩ ⟨t0, by omega⟩ (by rw [turn_len, ← HF.out.2.1]; omega) i) HS.out.2.2.2.2.1 (by rw [level_at]; exact HS.out.2.2.2.2.2) HS.out.2.2.2.1 HS.out.1 HS.out.2.1 HS.out.2.2.1).mono ?_; rintro e w5 ⟨A5, c5, rfl, h, hf, hm, hc⟩; have HL5 := Lib.hid h; have HP5 := Lib.hid (HPr.out.fr hf HAS.out); have HT5 : Hid (TkB w5 W.heap.size x t l b) := Lib.hid ((hf.block _ (by have := HLr.out.bel.size; have := HW1.out.2; omega) (fun e => by have := HLr.out.own _ e; have := HW1.out.2; omega)).trans HTr.out); clear h hf hm hc))
      clear HLr HPr HTr
      go_wp2
      go_roundg (N - i)
      case measure => have := HI.out; omega
      case rel => exact ⟨i + 1, by go_num, Lib.hid ⟨by omega, by omega⟩, HL5, HP5, HT5⟩
    · have hi' : decide ((i : Int) < (N : Int)) = false := decide_eq_false (by omega)
      obtain ⟨a, ha⟩ : ∃ a, a = st (fun _ => false) m lv T (turn F B) := ⟨_, rfl⟩
      have HLa : Hid (LS W1 g M a wr) := Lib.hid (by
        have e : accAt m lv T (turn F B) i = a := by
          have e1 : i = N := by have := HI.out; omega
          obtain ⟨n, rfl⟩ : ∃ n, N = n + 1 := ⟨N - 1, by omega⟩
          rw [ha, e1]
          show st _ m lv T ((turn F B).take (n + 1)) = _
          rw [List.take_of_length_le (by rw [turn_len, ← HF.out.2.1]; exact Nat.le_refl _)]
        rw [← e]; exact HLr.out)
      have o2 : Dat.Ok (mkD 0 (T + 1) 0 1) := dataOk _ _ _ _ (by omega) (by omega) (by omega) (by omega)
      have g2 : Good 40 a := by rw [ha]; exact good_st _ m lv T _ 40 ⟨l0, by omega⟩ ⟨t0, by omega⟩ (by rw [turn_len, ← HF.out.2.1]; omega)
      have hms : (a.come (mkD 0 (T + 1) 0 1)).2 = [⟨true, false, false, -1⟩] := by
        rw [ha, come_next _ m lv T _ _ rfl]
        show [(st (fun _ => false) m lv T (turn F B)).mark] = _
        rw [whole_mark _ m (fun l => (HF.out.2.2 l).1) lv T l0 (turn F B) (fun l hl => by rw [((HTF.out.2.2).filter _).length_eq, HF.out.1, count_allUp, if_pos (by omega)])]
      have H2 := Lib.hid (And.intro o2 (And.intro g2 (And.intro hms (show a.level = lv by rw [ha]; rfl))))
      have H3 : Hid (a.has = true → a.tick ≤ (mkD 0 (T + 1) 0 1).tick) := Lib.hid (fun _ => by rw [ha]; show T ≤ T + 1; omega)
      obtain ⟨f, hf⟩ : ∃ f, a.fresh (mkD 0 (T + 1) 0 1) = f := ⟨_, rfl⟩
      have HFR := Lib.hid hf
      clear ha o2 g2 hms hf HLr HPr HTr xb
      go_upto_region 14 with (first
        | (go_at_call 9; refine (dataOf_calls 0 _ _ _ _).mono ?_; rintro e w4 ⟨rfl, h⟩; have HB := Lib.hid h; clear h)
        | (go_at_call 8; refine (data_law W1 _ g M a (mkD 0 (T + 1) 0 1) _ _ f (n := 40) (HLa.out.below HB.out) (by omega) H2.out.2.1 H2.out.1 (by rw [H2.out.2.2.2]; exact l0) H3.out rfl H2.out.2.2.1 HFR.out).mono ?_; rintro e w5 ⟨A5, c5, rfl, h, hf, hm, hc⟩; have HL5 := Lib.hid h; have HM := Lib.hid hm; clear h hf hm hc HB HLa))
      obtain ⟨b5, c', hv, hbB, hblt, hcc, hcell⟩ := HM.out.cells (by decide)
      cases hv
      obtain ⟨y0, y1, y2, y3⟩ := hcell 0 _ rfl
      simp only [Nat.zero_mul, Nat.zero_add] at y0 y1 y2 y3
      clear hcell HM hbB hcc
      go_wp2_with (first | (go_at_call 10; refine (awake_calls _).mono ?_; rintro e w6 ⟨rfl, h6⟩; have H6 := Lib.hid h6; clear h6))
      go_ret
      exact ⟨rfl, HW1.out.1.trans ((HL5.out.bel.trans (H6.out.mono HL5.out.bel.size)).mono (by have := HW1.out.2; omega))⟩
end Go.Proofs.Ytbjojkocmmcpgaa.Acc
