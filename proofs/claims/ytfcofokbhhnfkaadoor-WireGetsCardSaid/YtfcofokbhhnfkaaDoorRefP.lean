/- geyserref15's power and Sum by their contracts. Conditions: bytes as they may be read. geyserref15's Add by its contract. Conditions: bytes as they may be read. geyserref16's lay by its contract. Conditions: 1, 2, 4 or 5 bytes of a number that is none below 0. geyserref16's all by its contract. Conditions: numbers of 1, 2, 4 or 5 bytes that are none below 0. Printed by mkrall.py. geyserref16's Body and Put, of right packets, by their contracts. Conditions: bytes as they may be read. Printed by mkbody.py. -/
import Derived.Test.YtfcofokbhhnfkaaDoorRefC
namespace Go.Proofs.YtfcofokbhhnfkaaDoor.Byt
set_option linter.unusedSimpArgs false
set_option linter.unusedVariables false
section
open Go.RowKit Go.Deep Go.Proofs.YtfcofokbhhnfkaaDoor.Er Go.Proofs.YtfcofokbhhnfkaaDoorW.PrintWords Go.Proofs.YtfcofokbhhnfkaaDoorW.PrintLast Go.Proofs.YtfcofokbhhnfkaaDoorW.PrintMore
set_option maxHeartbeats 4000000 in
set_option maxRecDepth 100000 in
theorem power_calls (k : Nat) (hk : k ≤ 8) (w : World) : Calls Tryd.prog 55 #[.int .i64 (k : Int)] w fun e w' => e = .returned (.int .u32 ((2 ^ k : Nat) : Int)) ∧ w' = w := by
  have HK := Lib.hid hk
  go_enter Tryd.func55, Tryd.ntmps55
  go_wp2
  go_loopg [3, 4] (k + 1) (fun kq v3 v4 wr => ∃ (i n : Nat), v4 = .int .i64 i ∧ v3 = .int .u32 n ∧ wr = w ∧ Hid (i ≤ k ∧ kq = k + 1 - i ∧ n = 2 ^ i))
  case atStart => exact ⟨0, 1, rfl, rfl, rfl, Lib.hid ⟨by omega, by omega, rfl⟩⟩
  case round =>
    obtain ⟨i, n, rfl, rfl, rfl, HI⟩ := hrel
    by_cases hi : i < k
    · have hn : n ≤ 256 := by rw [HI.out.2.2]; exact Nat.pow_le_pow_right (n := 2) (by omega) (show i ≤ 8 by have := HK.out; omega)
      obtain ⟨n2, hn2⟩ : ∃ n2, n2 = n * 2 := ⟨_, rfl⟩
      have hw : ((n : Int) * 2) % 4294967296 = (n2 : Int) := by omega
      have hw' : IntKind.u32.wrap ((n : Int) * 2) = (n2 : Int) := by rw [IntKind.wrap_u32]; exact hw
      have HN2 : Hid (n2 = 2 ^ (i + 1)) := Lib.hid (by rw [hn2, HI.out.2.2, Nat.pow_succ])
      clear hn hn2
      go_wp2
      go_roundg (k - i)
      case measure => have := HI.out; omega
      case rel => exact ⟨i + 1, n2, by go_num, by first | rfl | exact congrArg _ hw | exact congrArg _ hw', rfl, Lib.hid ⟨by omega, by omega, HN2.out⟩⟩
    · have hik : i = k := by have := HI.out; omega
      have HN : Hid (n = 2 ^ k) := Lib.hid (by rw [← hik]; exact HI.out.2.2)
      clear hik
      go_wp2
      go_ret
      exact ⟨by rw [HN.out]; rfl, rfl⟩
theorem getD_nats {l : List Int} {i : Nat} {b : Int} (h : l[i]? = some b) : nats (l.take (i + 1)) = nats (l.take i) ++ [b.toNat] := nats_snoc h
set_option maxHeartbeats 4000000 in
set_option maxRecDepth 100000 in
theorem rsum_calls {D : Nat → Prop} (w : World) (v : Value) (l : List Int) (hl : RdB D w v l) (hD : ∀ k, D k → k < w.heap.size) :
    Calls Tryd.prog 46 #[v] w fun e w' => e = .returned (.int .u32 ((sumI l : Nat) : Int)) ∧ Below w.heap.size w w' := by
  have HR := Lib.hid hl
  have HD := Lib.hid hD
  obtain ⟨A, c, rfl, hc1, hc2, hlt, hx⟩ := hl
  obtain ⟨m, hm⟩ : ∃ m, m = l.length := ⟨_, rfl⟩
  have HM := Lib.hid hm
  have HLT := Lib.hid hlt
  have HX := Lib.hid hx
  rw [← hm] at HR hc1 hc2 ⊢
  clear hm hlt hx hD
  go_enter Tryd.func46, Tryd.ntmps46
  go_wp2
  go_loopg [3, 4, 5, 6, 7] (m + 1) (fun kq v3 v4 v5 v6 v7 wr => ∃ i n : Nat, v3 = .int .u32 n ∧ v4 = .int .i64 i ∧ Hid (i ≤ m ∧ kq = m + 1 - i ∧ n = CrcM.crc CrcM.M (nats (l.take i))) ∧ Hid (Below w.heap.size w wr))
  case atStart => exact ⟨0, 4294967295, rfl, rfl, Lib.hid ⟨by omega, by omega, rfl⟩, Lib.hid (Below.refl _ _)⟩
  case round =>
    obtain ⟨i, n, rfl, rfl, HI, HW⟩ := hrel
    by_cases hi : i < m
    · obtain ⟨b, hb⟩ : ∃ b, l[i]? = some b := ⟨l[i]'(by rw [← HM.out]; exact hi), List.getElem?_eq_getElem _⟩
      have hbb := HLT.out b (List.mem_of_getElem? hb)
      obtain ⟨ab, ao, rfl, hDb, hcl⟩ := HR.out.at i b hb
      obtain ⟨bn, rfl⟩ := Int.eq_ofNat_of_zero_le hbb.1
      have hbn : bn < 256 := by omega
      have HB2 : Hid (nats (l.take (i + 1)) = nats (l.take i) ++ [bn]) := Lib.hid (by rw [nats_snoc hb]; rfl)
      have HCL : Hid (∀ w' : World, Below w.heap.size w w' → w'.cell? ⟨ab, ao + i, none⟩ = some (.int .u8 bn)) := Lib.hid (fun w' hw => (hw.cell (p := ⟨ab, ao + i, none⟩) (HD.out _ hDb)).trans hcl)
      have hn32 : n < 4294967296 := by
        rw [HI.out.2.2]
        exact CrcM.crc_lt _ (by decide) (nats_lt (fun x hx => HLT.out x (List.mem_of_mem_take hx)))
      have HN0 := Lib.hid hn32
      have hi' : (i : Int) < (m : Int) := by omega
      clear hb hbb hcl hDb
      go_wp2
      go_loopg [3, 5, 6, 7] 9 (fun kq v3 v5 v6 v7 w2 => ∃ j n2 : Nat, v3 = .int .u32 n2 ∧ v5 = .int .i64 j ∧ Hid (j ≤ 8 ∧ kq = 9 - j ∧ CrcM.refB 8 n bn = CrcM.refB (8 - j) n2 (bn / 2 ^ j) ∧ n2 < 4294967296) ∧ Hid (Below w.heap.size w w2))
      case atStart => exact ⟨0, n, rfl, rfl, Lib.hid ⟨by omega, by omega, by simp, HN0.out⟩, HW⟩
      case round =>
        obtain ⟨j, n2, rfl, rfl, HJ, HW2⟩ := hrel
        by_cases hj : j < 8
        · have k0 := HCL.out _ HW2.out
          have hj' : j ≤ 8 := by omega
          go_upto_region 8 with (fail)
          obtain ⟨pw, hpw⟩ : ∃ pw, pw = 2 ^ j := ⟨_, rfl⟩
          have HPW : Hid (2 ^ j = pw) := Lib.hid hpw.symm
          have hpp : 0 < pw := by rw [hpw]; exact Nat.two_pow_pos j
          have p0 : ¬ (pw : Int) = 0 := by omega
          have p2 : ¬ pw = 0 := by omega
          have p1 : ((pw : Int) == 0) = false := beq_eq_false_iff_ne.2 p0
          clear hpw
          refine start_ (n := 10) (S := fun w' => w'.cell? ⟨ab, ao + i, none⟩ = some (.int .u8 bn) ∧ Below w.heap.size w w') (ds := []) #[false, false, false, false, false, false, false, false, false, false] (by kernel_rfl) rfl rfl ⟨k0, HW2.out.drew⟩ (fun hHeld => ?_)
          refine pure_ (i := 0) (N := some 18) (v := ?_) (a' := ?_) #[true, false, false, false, false, false, false, false, false, false] rfl rfl (by kernel_rfl) (fun _ _ _ h => h) (Or.inl ⟨by rfl, ?_⟩) ?_ ?_
          rotate_left
          · intro w'
            go_simp
            with_reducible rfl
          rotate_left
          · simp only [Act.put, List.setIfInBounds_toArray, List.set_cons_zero, List.set_cons_succ, i64_w, i32_w]
            rfl
          refine pure_ (i := 1) (N := some 19) (v := ?_) (a' := ?_) #[true, true, false, false, false, false, false, false, false, false] rfl rfl (by kernel_rfl) (fun _ _ _ h => h) (Or.inl ⟨by rfl, ?_⟩) ?_ ?_
          rotate_left
          · intro w'
            go_simp
            with_reducible rfl
          rotate_left
          · simp only [Act.put, List.setIfInBounds_toArray, List.set_cons_zero, List.set_cons_succ, i64_w, i32_w]
            rfl
          refine pure_ (i := 2) (N := some 20) (v := ?_) (a' := ?_) #[true, true, true, false, false, false, false, false, false, false] rfl rfl (by kernel_rfl) (fun _ _ _ h => h) (Or.inl ⟨by rfl, ?_⟩) ?_ ?_
          rotate_left
          · intro w'
            go_simp
            with_reducible rfl
          rotate_left
          · simp only [Act.put, List.setIfInBounds_toArray, List.set_cons_zero, List.set_cons_succ, i64_w, i32_w]
            rfl
          refine take_ (i := 3) (N := some 21) (v := ?_) (a' := ?_) #[true, true, true, true, false, false, false, false, false, false] rfl rfl (by kernel_rfl) (fun _ _ _ h => h) (Or.inl ⟨by rfl, ?_⟩) hHeld ?_ ?_
          rotate_left
          · rintro w' ⟨s0, s1⟩
            go_simp
            with_reducible rfl
          rotate_left
          · simp only [Act.put, List.setIfInBounds_toArray, List.set_cons_zero, List.set_cons_succ, i64_w, i32_w]
            rfl
          refine pure_ (i := 4) (N := some 22) (v := ?_) (a' := ?_) #[true, true, true, true, true, false, false, false, false, false] rfl rfl (by kernel_rfl) (fun _ _ _ h => h) (Or.inl ⟨by rfl, ?_⟩) ?_ ?_
          rotate_left
          · intro w'
            go_simp
            with_reducible rfl
          rotate_left
          · simp only [Act.put, List.setIfInBounds_toArray, List.set_cons_zero, List.set_cons_succ, i64_w, i32_w]
            rfl
          refine pure_ (i := 5) (N := some 23) (v := ?_) (a' := ?_) #[true, true, true, true, true, true, false, false, false, false] rfl rfl (by kernel_rfl) (fun _ _ _ h => h) (Or.inl ⟨by rfl, ?_⟩) ?_ ?_
          rotate_left
          · intro w'
            go_simp
            with_reducible rfl
          rotate_left
          · simp only [Act.put, List.setIfInBounds_toArray, List.set_cons_zero, List.set_cons_succ, i64_w, i32_w]
            rfl
          refine one_ (i := 6) (N := some 24) #[true, true, true, true, true, true, true, false, false, false] rfl rfl (by kernel_rfl) (by decide) (fun K hK => ?_)
          refine call_ 55 #[.int .i64 (j : Int)] (by rfl) rfl ?_ ?_
          · have he := enters_ (P := Tryd.prog) Tryd.func55 (by kernel_rfl) rfl #[.int .i64 (j : Int)] wr.drew
            unfold execOp
            simp [resolve, Deferred.ofValue, invoke, Act.eval, he]
          refine (power_calls j hj' wr.drew).mono ?_
          rw [HPW.out]
          rintro e w9 ⟨rfl, hw9⟩
          subst hw9
          refine ⟨_, rfl, ?_⟩
          refine hK.out _ _ hHeld (fun hHeld6 => ?_)
          clear hK K hHeld
          refine norm_ (a' := ?_) ?_ ?_
          rotate_left
          · show Act.put _ (some 24) _ = _
            simp only [Act.put, List.setIfInBounds_toArray, List.set_cons_zero, List.set_cons_succ, i64_w, i32_w]
            rfl
          refine pure_ (i := 7) (N := some 25) (v := ?_) (a' := ?_) #[true, true, true, true, true, true, true, true, false, false] rfl rfl (by kernel_rfl) (fun _ _ _ h => h) (Or.inl ⟨by rfl, ?_⟩) ?_ ?_
          rotate_left
          · intro w'
            go_simp
            with_reducible rfl
          rotate_left
          · simp only [Act.put, List.setIfInBounds_toArray, List.set_cons_zero, List.set_cons_succ, i64_w, i32_w]
            rfl
          refine pure_ (i := 8) (N := some 26) (v := ?_) (a' := ?_) #[true, true, true, true, true, true, true, true, true, false] rfl rfl (by kernel_rfl) (fun _ _ _ h => h) (Or.inl ⟨by rfl, ?_⟩) ?_ ?_
          rotate_left
          · intro w'
            go_simp
            with_reducible rfl
          rotate_left
          · simp only [Act.put, List.setIfInBounds_toArray, List.set_cons_zero, List.set_cons_succ, i64_w, i32_w]
            rfl
          refine pure_ (i := 9) (N := some 6) (v := ?_) (a' := ?_) #[true, true, true, true, true, true, true, true, true, true] rfl rfl (by kernel_rfl) (fun _ _ _ h => h) (Or.inl ⟨by rfl, ?_⟩) ?_ ?_
          rotate_left
          · intro w'
            go_simp
            with_reducible rfl
          rotate_left
          · simp only [Act.put, List.setIfInBounds_toArray, List.set_cons_zero, List.set_cons_succ, i64_w, i32_w]
            rfl
          refine done_ (by kernel_rfl) ?_
          obtain ⟨ib, hib⟩ : ∃ ib, ib = bn / pw % 2 := ⟨_, rfl⟩
          have hq1 : bn / pw ≤ bn := Nat.div_le_self _ _
          have hin : Int.tmod (IntKind.u32.wrap (Int.tdiv (IntKind.u32.wrap (bn : Int)) (pw : Int))) 2 = (ib : Int) := by
            rw [IntKind.wrap_u32, IntKind.wrap_u32, show ((bn : Int) % 4294967296) = (bn : Int) by omega, Int.tdiv_eq_ediv_of_nonneg (Int.natCast_nonneg _), ← Int.natCast_ediv, hib]
            generalize bn / pw = q at hq1 ⊢
            rw [show ((q : Int) % 4294967296) = (q : Int) by omega, Int.tmod_eq_emod_of_nonneg (Int.natCast_nonneg _)]
            omega
          have HN2 := Lib.hid HJ.out.2.2.2
          have hn2 := HN2.out
          obtain ⟨lo, hlo⟩ : ∃ lo, lo = n2 % 2 := ⟨_, rfl⟩
          obtain ⟨hf, hhf⟩ : ∃ hf, hf = n2 / 2 := ⟨_, rfl⟩
          have e1 : Int.tmod (n2 : Int) 2 = (lo : Int) := by rw [Int.tmod_eq_emod_of_nonneg (by omega)]; omega
          have e2 : IntKind.u32.wrap (Int.tdiv (n2 : Int) 2) = (hf : Int) := by rw [IntKind.wrap_u32, Int.tdiv_eq_ediv_of_nonneg (by omega)]; omega
          have e3 : (Int.tdiv (n2 : Int) 2) % 4294967296 = (hf : Int) := by rw [Int.tdiv_eq_ediv_of_nonneg (by omega)]; omega
          have hst : CrcM.refB (8 - j) n2 (bn / 2 ^ j) = CrcM.refB (8 - (j + 1)) (if ib ≠ lo then hf ^^^ CrcM.P else hf) (bn / 2 ^ (j + 1)) := by
            rw [show 8 - j = (8 - (j + 1)) + 1 by omega, CrcM.refB, hib, hlo, hhf, ← HPW.out, Nat.pow_succ, Nat.div_div_eq_div_mul]
          have HW3 : Hid (Below w.heap.size w wr.drew) := Lib.hid hHeld6.2
          have hhf32 : hf < 2147483648 := by omega
          obtain ⟨z, hz⟩ : ∃ z, z = hf ^^^ CrcM.P := ⟨_, rfl⟩
          have hxr : bits BinOp.xor IntKind.u32 (hf : Int) 2197175160 = (z : Int) := by
            have := u32_xor_nat hf 2197175160 (by omega) (by omega)
            rw [show ((2197175160 : Nat) : Int) = 2197175160 from rfl] at this
            rw [this, hz]; rfl
          have hxr2 : bits BinOp.xor IntKind.u32 ((n2 : Int) / 2 % 4294967296) 2197175160 = (z : Int) := by rw [show ((n2 : Int) / 2 % 4294967296) = (hf : Int) by omega]; exact hxr
          have hz32 : z < 4294967296 := by rw [hz]; exact Nat.xor_lt_two_pow (n := 32) (by omega) (by unfold CrcM.P; omega)
          by_cases hc : ib = lo
          · have HST : Hid (CrcM.refB 8 n bn = CrcM.refB (8 - (j + 1)) hf (bn / 2 ^ (j + 1)) ∧ hf < 4294967296) := Lib.hid ⟨HJ.out.2.2.1.trans (hst.trans (by rw [if_neg (by omega)])), by omega⟩
            have f1 : ((ib : Int) != (lo : Int)) = false := bne_eq_false_iff_eq.2 (by omega)
            have f2 : ((ib : Int) == (lo : Int)) = true := beq_iff_eq.2 (by omega)
            have f3 : (ib == lo) = true := beq_iff_eq.2 hc
            have f4 : (ib != lo) = false := bne_eq_false_iff_eq.2 hc
            rw [hin] at *
            clear hin hst hxr hxr2 hz hz32 hq1 hib hlo hhf hc hn2 hhf32 hHeld6 k0 p0 p1 p2 hpp
            generalize wr.drew = w7 at HW3 ⊢
            go_wp2
            go_roundg (8 - j)
            case measure => have := HJ.out; omega
            case rel => exact ⟨j + 1, hf, by first | rfl | exact congrArg _ e2 | exact congrArg _ e3, by go_num, Lib.hid ⟨by omega, by omega, HST.out.1, HST.out.2⟩, HW3⟩
          · have HST : Hid (CrcM.refB 8 n bn = CrcM.refB (8 - (j + 1)) z (bn / 2 ^ (j + 1)) ∧ z < 4294967296) := Lib.hid ⟨HJ.out.2.2.1.trans (hst.trans (by rw [if_pos hc, hz])), hz32⟩
            have f1 : ((ib : Int) != (lo : Int)) = true := bne_iff_ne.2 (by omega)
            have f2 : ((ib : Int) == (lo : Int)) = false := beq_eq_false_iff_ne.2 (by omega)
            have f3 : (ib == lo) = false := beq_eq_false_iff_ne.2 hc
            have f4 : (ib != lo) = true := bne_iff_ne.2 hc
            rw [hin] at *
            clear hin hst hz hz32 hq1 hib hlo hhf hc hn2 hhf32 hHeld6 k0 p0 p1 p2 hpp
            generalize wr.drew = w7 at HW3 ⊢
            go_wp2
            go_roundg (8 - j)
            case measure => have := HJ.out; omega
            case rel => exact ⟨j + 1, z, by first | rfl | exact congrArg _ hxr | exact congrArg _ hxr2, by go_num, Lib.hid ⟨by omega, by omega, HST.out.1, HST.out.2⟩, HW3⟩
        · have hj8 : j = 8 := by have := HJ.out; omega
          subst hj8
          have HN : Hid (n2 = CrcM.crc CrcM.M (nats (l.take (i + 1)))) := Lib.hid (by
            rw [HB2.out, CrcM.crc_app, ← HI.out.2.2]
            show n2 = CrcM.crcB n bn
            rw [← CrcM.ref8 hbn, HJ.out.2.2.1]
            rfl)
          clear HCL
          go_wp2
          go_roundg (m - i)
          case measure => have := HI.out; omega
          case rel => exact ⟨i + 1, n2, rfl, by go_num, Lib.hid ⟨by omega, by omega, HN.out⟩, HW2⟩
    · have him : i = m := by have := HI.out; omega
      have HS : Hid (n < 4294967296 ∧ sumI l = 4294967295 - n) := Lib.hid (by
        have h := HI.out.2.2
        rw [him, HM.out, List.take_length] at h
        have h32 : n < 4294967296 := by rw [h]; exact CrcM.crc_lt _ (by decide) (nats_lt HLT.out)
        refine ⟨h32, ?_⟩
        unfold sumI CrcM.sum
        rw [← h, CrcM.compl h32]
        rfl)
      have hns := HS.out.1
      clear him
      have e5 : IntKind.u32.wrap (4294967295 - (n : Int)) = ((sumI l : Nat) : Int) := by rw [IntKind.wrap_u32, HS.out.2]; omega
      have e6 : (4294967295 - (n : Int)) % 4294967296 = ((sumI l : Nat) : Int) := by rw [HS.out.2]; omega
      go_wp2
      go_ret
      exact ⟨congrArg (fun z => Ending.returned (Value.int .u32 z)) (by first | rfl | exact e5 | exact e6), HW.out⟩
end
section
open Go.RowKit Go.Deep Go.Proofs.YtfcofokbhhnfkaaDoor.Er Go.Proofs.YtfcofokbhhnfkaaDoorW.PrintWords Go.Proofs.YtfcofokbhhnfkaaDoorW.PrintLast Go.Proofs.YtfcofokbhhnfkaaDoorW.PrintMore
set_option maxHeartbeats 4000000 in
set_option maxRecDepth 100000 in
theorem radd_calls {D : Nat → Prop} (w : World) (v : Value) (l : List Int) (hl : RdB D w v l) (hD : ∀ k, D k → k < w.heap.size) (hlen : l.length + 4 ≤ 140737488355328) :
    Calls Tryd.prog 28 #[v] w fun e w' => ∃ v', e = .returned v' ∧ OB w.heap.size w' v' (addI l) ∧ Below w.heap.size w w' := by
  have HR := Lib.hid hl
  have HD := Lib.hid hD
  obtain ⟨A, c, rfl, hc1, hc2, hlt, _⟩ := hl
  obtain ⟨m, hm⟩ : ∃ m, m = l.length := ⟨_, rfl⟩
  have HM := Lib.hid hm
  have HLEN := Lib.hid hlen
  obtain ⟨S, hS⟩ : ∃ S, S = sumI l := ⟨_, rfl⟩
  have HS : Hid (sumI l = S) := Lib.hid hS.symm
  have hS32 : S < 4294967296 := by rw [hS]; exact CrcM.sum_lt (nats_lt hlt)
  rw [← hm] at HR hc1 hc2 ⊢
  clear hm hD hlt hlen hS
  go_enter Tryd.func28, Tryd.ntmps28
  go_upto_region 2 with (first | (go_at_call 46; refine (rsum_calls w _ l HR.out HD.out).mono ?_; rw [HS.out]; rintro e w2 ⟨rfl, hb⟩; have HB2 := Lib.hid hb; clear hb))
  have HC1 : Hid (RdB D (w2.alloc (.cells #[] 5)) (.slice A m c) l) := Lib.hid (HR.out.keep (fun k hk => (HB2.out.alloc HB2.out.size _).block k (HD.out k hk)))
  have HC3 : Hid (w.heap.size ≤ (w2.alloc (.cells #[] 5)).heap.size) := Lib.hid (by have := HB2.out.size; simp; omega)
  go_upto_region 3 with (first
    | (at_builtin
       refine wp_copyO w.heap.size rfl (.tmp 7) (.tmp 8) rfl rfl rfl HC1.out (heap_new _ _) HB2.out.size HC3.out ?_
       rw [← HM.out]
       intro A5 c5 w5 hO hF
       have HB5 : Hid (Below w.heap.size w w5) := Lib.hid (hF.below (HB2.out.alloc HB2.out.size _) HC3.out (fun k e => by have := HB2.out.size; omega))
       have HO5 := Lib.hid hO
       clear hO hF))
  obtain ⟨xs, hxs⟩ : ∃ xs : List Int, xs = [(S : Int) % 256, (S : Int) / 256 % 256, (S : Int) / 65536 % 256, (S : Int) / 16777216] := ⟨_, rfl⟩
  have HXS := Lib.hid hxs
  have HX4 : Hid (xs.length = 4 ∧ xs ≠ [] ∧ ∀ x ∈ xs, 0 ≤ x ∧ x < 256) := Lib.hid (by
    rw [hxs]
    refine ⟨rfl, by simp, fun x hx => ?_⟩
    simp only [List.mem_cons, List.not_mem_nil, or_false] at hx
    rcases hx with rfl | rfl | rfl | rfl <;> omega)
  have HLE : Hid (l ++ xs = addI l) := Lib.hid (by
    have h4 : le4 S = xs := by
      rw [hxs]
      show [((S % 256 : Nat) : Int), ((S / 256 % 256 : Nat) : Int), ((S / 256 / 256 % 256 : Nat) : Int), ((S / 256 / 256 / 256 % 256 : Nat) : Int)] = _
      simp only [List.cons.injEq, and_true]
      refine ⟨by omega, by omega, by omega, by omega⟩
    unfold addI
    rw [HS.out, h4])
  have HW6 : Hid (∀ b6 : Nat, b6 = w5.heap.size → (w5.alloc (.cells (xs.map (Value.int .u8)).toArray 5)).heap[b6]? = some (.cells (xs.map (Value.int .u8)).toArray 5 (0, 0)) ∧ Below w5.heap.size w5 (w5.alloc (.cells (xs.map (Value.int .u8)).toArray 5))) := Lib.hid (fun b6 e => by rw [e]; exact ⟨heap_new _ _, (Below.refl _ _).alloc (Nat.le_refl _) _⟩)
  have HRX : Hid (RdB (fun _ => True) (w5.alloc (.cells (xs.map (Value.int .u8)).toArray 5)) (.slice (some ⟨w5.heap.size, 0, none⟩) xs.length xs.length) xs) := Lib.hid (rd_lit (HW6.out _ rfl).1 trivial (by rw [HX4.out.1]; decide) HX4.out.2.2)
  have HA6 : Hid (OB w.heap.size (w5.alloc (.cells (xs.map (Value.int .u8)).toArray 5)) (.slice A5 m c5) l ∧ w.heap.size ≤ (w5.alloc (.cells (xs.map (Value.int .u8)).toArray 5)).heap.size ∧ Below w.heap.size w (w5.alloc (.cells (xs.map (Value.int .u8)).toArray 5))) := Lib.hid ⟨HO5.out.below (HW6.out _ rfl).2, (HB5.out.trans ((HW6.out _ rfl).2.mono HB5.out.size)).size, HB5.out.trans ((HW6.out _ rfl).2.mono HB5.out.size)⟩
  clear HW6
  rw [hxs] at HRX HA6
  have HLX : Hid (l.length + [(S : Int) % 256, (S : Int) / 256 % 256, (S : Int) / 65536 % 256, (S : Int) / 16777216].length ≤ 140737488355328) := Lib.hid HLEN.out
  clear hxs
  go_wp2_with (first
    | (at_builtin
       refine wp_appendO w.heap.size rfl (.tmp 10) (.tmp 25) rfl rfl rfl HA6.out.1 HRX.out (by simp) HLX.out HA6.out.2.1 ?_
       rw [← HXS.out, HLE.out]
       intro A7 c7 w7 hO7 hF7
       have HE := Lib.hid (And.intro hO7 (HA6.out.1.bel hF7 HA6.out.2.2 HA6.out.2.1))
       clear hO7 hF7))
  go_ret
  exact ⟨_, rfl, HE.out.1, HE.out.2⟩
end
section
open Go.RowKit Go.Deep Go.Proofs.YtfcofokbhhnfkaaDoor.Er Go.Proofs.YtfcofokbhhnfkaaDoorW.PrintWords Go.Proofs.YtfcofokbhhnfkaaDoorW.PrintLast Go.Proofs.YtfcofokbhhnfkaaDoorW.PrintMore
theorem OB.row {B g : Nat} {w : World} {l : List Int} (h : w.heap[g]? = some (.cells (l.map (Value.int .u8)).toArray 5 (0, 0))) (hB : B ≤ g) (hx : ∀ x ∈ l, 0 ≤ x ∧ x < 256) (hl : l.length ≤ 140737488355328) : OB B w (.slice (some ⟨g, 0, none⟩) l.length l.length) l := by
  refine ⟨⟨by simp, .inr ⟨g, l.length, _, rfl, hB, h, Nat.le_refl _, by simp only [maxLen]; omega, by simp, ?_⟩⟩, hx, hl⟩
  rw [Nat.mul_one]
  exact List.take_of_length_le (by simp)
theorem own_exact {B g n : Nat} {w : World} {xs : List Value} (h : w.ownsRow B 5 1 (.slice (some ⟨g, 0, none⟩) n n) n xs) : w.heap[g]? = some (.cells xs.toArray 5 (0, 0)) := by
  rcases h.2 with ⟨e, _⟩ | ⟨g', cap, cur, e, _, hc, _, _, h1, h2⟩
  · cases e
  · cases e
    rw [hc]
    congr 2
    apply Array.toList_inj.1
    rw [← h2, Nat.mul_one, List.take_of_length_le (by rw [Array.length_toList, h1]; omega)]
def zrow (s k : Nat) (n : Int) : List Int := List.replicate (s - k) 0 ++ beI k n
theorem zrow_step {s k : Nat} (n : Int) (h : k < s) : (zrow s k n).set (s - k - 1) (n / 256 ^ k % 256) = zrow s (k + 1) n := by
  unfold zrow
  obtain ⟨d, hd⟩ : ∃ d, s - k = d + 1 := ⟨s - k - 1, by omega⟩
  rw [hd, show s - (k + 1) = d by omega, List.replicate_succ', List.append_assoc, Nat.add_sub_cancel, List.set_append_right _ _ (by simp)]
  simp [beI]
theorem zrow_at {s k : Nat} (n : Int) (h : k < s) : (zrow s k n)[s - k - 1]? = some 0 := by
  unfold zrow
  rw [List.getElem?_append_left (by simp; omega), List.getElem?_replicate, if_pos (by omega)]
theorem zrow_len (s k : Nat) (n : Int) (h : k ≤ s) : (zrow s k n).length = s := by
  unfold zrow
  rw [List.length_append, List.length_replicate, beI_len]; omega
theorem made_eq (s : Nat) (n : Int) : (madeCells (Value.int .u8 0).cells (s * 1)).toList = (zrow s 0 n).map (Value.int .u8) := by
  unfold madeCells zrow
  apply List.ext_getElem
  · simp [beI]
  · intro i h1 h2
    simp [Value.cells, beI, Nat.mod_one]
set_option maxHeartbeats 8000000 in
set_option maxRecDepth 100000 in
theorem rlay_calls (s : Nat) (n : Int) (w : World) (hn : 0 ≤ n ∧ n ≤ 9223372036854775807) (hs : s = 1 ∨ s = 2 ∨ s = 4 ∨ s = 5) :
    Calls Tryd.prog 48 #[.int .i64 n, .int .i64 (s : Int)] w fun e w' => ∃ v', e = .returned v' ∧ OB w.heap.size w' v' (beI s n) ∧ Below w.heap.size w w' := by
  have HN := Lib.hid hn
  obtain ⟨iU, hiU, hU0, hU1, hU2⟩ := info_parts infoU
  clear hn
  rcases hs with rfl | rfl | rfl | rfl
  · go_enter Tryd.func48, Tryd.ntmps48
    go_wp2_with (first
      | (at_make
         refine wpList_make_full _ rfl (.tmp 7) (.tmp 7) 22 rfl w.heap.size 5 iU (.int .u8 0) 1 Tryd.underlying22 hiU hU0 hU1 .i64 .i64 1 1 1 rfl rfl rfl rfl (by rw [hU2]; decide) (by decide) (Nat.le_refl _) ?_
         intro w1 hown hgr
         have H0 : Hid (w1.heap[w.heap.size]? = some (.cells ((zrow 1 0 n).map (Value.int .u8)).toArray 5 (0, 0)) ∧ Below w.heap.size w w1) := Lib.hid ⟨own_exact (made_eq _ n ▸ hown), below_grown (Below.refl _ _) hgr (Nat.le_refl _) (fun k e => by cases e)⟩
         clear hown hgr))
    go_loopg [0, 6] (1 + 1) (fun kq v0 v6 wr => ∃ (k : Nat) (z q : Int), v6 = .int .i64 z ∧ v0 = .int .i64 q ∧ Hid (k ≤ 1 ∧ kq = 1 + 1 - k ∧ z = (1 : Int) - 1 - k ∧ q = n / 256 ^ k) ∧ Hid (wr.heap[w.heap.size]? = some (.cells ((zrow 1 k n).map (Value.int .u8)).toArray 5 (0, 0)) ∧ Below w.heap.size w wr))
    case atStart => exact ⟨0, _, n, rfl, rfl, Lib.hid ⟨by omega, by omega, by omega, by simp⟩, H0⟩
    case round =>
      obtain ⟨k, z, q, rfl, rfl, HK, HW⟩ := hrel
      by_cases hk : k < 1
      · obtain ⟨j, hj⟩ : ∃ j : Nat, j = 1 - k - 1 := ⟨_, rfl⟩
        obtain rfl : z = (j : Int) := by have := HK.out.2.2.1; omega
        have hq0 : 0 ≤ q ∧ q ≤ 9223372036854775807 := by
          rw [HK.out.2.2.2]
          have := HN.out
          exact ⟨Int.ediv_nonneg this.1 (Int.le_of_lt (Int.pow_pos (by decide))), Int.le_trans (Int.ediv_le_self _ this.1) this.2⟩
        obtain ⟨x, hx⟩ : ∃ x, x = q % 256 := ⟨_, rfl⟩
        obtain ⟨q2, hq2⟩ : ∃ q2, q2 = q / 256 := ⟨_, rfl⟩
        have e1 : Int.tmod q 256 = x := by rw [Int.tmod_eq_emod_of_nonneg hq0.1, hx]
        have e2 : Int.tdiv q 256 = q2 := by rw [Int.tdiv_eq_ediv_of_nonneg hq0.1, hq2]
        have e3 : wrap64 q2 = q2 := w64 ⟨by omega, by omega⟩
        have e4 : IntKind.u8.wrap x = x := by rw [IntKind.wrap_u8']; omega
        have e5 : x % 256 = x := by omega
        have hjs : (j : Int) < 1 := by omega
        have c0 : wr.cell? ⟨w.heap.size, j, none⟩ = some (.int .u8 0) := by
          rw [blk_cell HW.out.1 j]
          have := zrow_at n hk
          rw [← hj] at this
          simp [this]
        have c1 := blk_frozen HW.out.1 j
        have HNX : Hid ((wr.setCell ⟨w.heap.size, j, none⟩ (.int .u8 x)).heap[w.heap.size]? = some (.cells ((zrow 1 (k + 1) n).map (Value.int .u8)).toArray 5 (0, 0)) ∧ Below w.heap.size w (wr.setCell ⟨w.heap.size, j, none⟩ (.int .u8 x))) := Lib.hid (by
          refine ⟨?_, HW.out.2.setCell (Nat.le_refl _) _⟩
          have := blk_set HW.out.1 j (.int .u8 x)
          rw [List.setIfInBounds_toArray, ← List.map_set] at this
          rw [this, ← zrow_step n hk, ← hj, hx, HK.out.2.2.2])
        have HQ2 : Hid (q2 = n / 256 ^ (k + 1)) := Lib.hid (by rw [hq2, HK.out.2.2.2, Int.pow_succ, Int.ediv_ediv_of_nonneg (Int.le_of_lt (Int.pow_pos (by decide)))])
        clear hx hq2 hq0 hj
        go_wp2
        generalize wr.setCell ⟨w.heap.size, j, none⟩ (.int .u8 x) = w7 at HNX ⊢
        go_roundg (1 - k)
        case measure => have := HK.out; omega
        case rel => exact ⟨k + 1, _, q2, rfl, by first | rfl | exact congrArg _ e3 | exact congrArg _ e2, Lib.hid ⟨by omega, by omega, by have := HK.out.2.2.1; omega, HQ2.out⟩, HNX⟩
      · have hk5 : k = 1 := by have := HK.out; omega
        subst hk5
        obtain rfl : z = -1 := by have := HK.out.2.2.1; omega
        have HO : Hid (OB w.heap.size wr (.slice (some ⟨w.heap.size, 0, none⟩) 1 1) (beI 1 n)) := Lib.hid (by
          have h := OB.row (l := zrow 1 1 n) HW.out.1 (Nat.le_refl _) (fun x hx => by
            unfold zrow at hx
            rw [Nat.sub_self] at hx
            exact beI_lt _ _ x (by simpa using hx)) (by rw [zrow_len _ _ _ (Nat.le_refl _)]; decide)
          rw [zrow_len _ _ _ (Nat.le_refl _)] at h
          have e : zrow 1 1 n = beI 1 n := by unfold zrow; simp
          rw [e] at h
          exact h)
        go_wp2
        go_ret
        exact ⟨_, rfl, HO.out, HW.out.2⟩
  · go_enter Tryd.func48, Tryd.ntmps48
    go_wp2_with (first
      | (at_make
         refine wpList_make_full _ rfl (.tmp 7) (.tmp 7) 22 rfl w.heap.size 5 iU (.int .u8 0) 1 Tryd.underlying22 hiU hU0 hU1 .i64 .i64 2 2 2 rfl rfl rfl rfl (by rw [hU2]; decide) (by decide) (Nat.le_refl _) ?_
         intro w1 hown hgr
         have H0 : Hid (w1.heap[w.heap.size]? = some (.cells ((zrow 2 0 n).map (Value.int .u8)).toArray 5 (0, 0)) ∧ Below w.heap.size w w1) := Lib.hid ⟨own_exact (made_eq _ n ▸ hown), below_grown (Below.refl _ _) hgr (Nat.le_refl _) (fun k e => by cases e)⟩
         clear hown hgr))
    go_loopg [0, 6] (2 + 1) (fun kq v0 v6 wr => ∃ (k : Nat) (z q : Int), v6 = .int .i64 z ∧ v0 = .int .i64 q ∧ Hid (k ≤ 2 ∧ kq = 2 + 1 - k ∧ z = (2 : Int) - 1 - k ∧ q = n / 256 ^ k) ∧ Hid (wr.heap[w.heap.size]? = some (.cells ((zrow 2 k n).map (Value.int .u8)).toArray 5 (0, 0)) ∧ Below w.heap.size w wr))
    case atStart => exact ⟨0, _, n, rfl, rfl, Lib.hid ⟨by omega, by omega, by omega, by simp⟩, H0⟩
    case round =>
      obtain ⟨k, z, q, rfl, rfl, HK, HW⟩ := hrel
      by_cases hk : k < 2
      · obtain ⟨j, hj⟩ : ∃ j : Nat, j = 2 - k - 1 := ⟨_, rfl⟩
        obtain rfl : z = (j : Int) := by have := HK.out.2.2.1; omega
        have hq0 : 0 ≤ q ∧ q ≤ 9223372036854775807 := by
          rw [HK.out.2.2.2]
          have := HN.out
          exact ⟨Int.ediv_nonneg this.1 (Int.le_of_lt (Int.pow_pos (by decide))), Int.le_trans (Int.ediv_le_self _ this.1) this.2⟩
        obtain ⟨x, hx⟩ : ∃ x, x = q % 256 := ⟨_, rfl⟩
        obtain ⟨q2, hq2⟩ : ∃ q2, q2 = q / 256 := ⟨_, rfl⟩
        have e1 : Int.tmod q 256 = x := by rw [Int.tmod_eq_emod_of_nonneg hq0.1, hx]
        have e2 : Int.tdiv q 256 = q2 := by rw [Int.tdiv_eq_ediv_of_nonneg hq0.1, hq2]
        have e3 : wrap64 q2 = q2 := w64 ⟨by omega, by omega⟩
        have e4 : IntKind.u8.wrap x = x := by rw [IntKind.wrap_u8']; omega
        have e5 : x % 256 = x := by omega
        have hjs : (j : Int) < 2 := by omega
        have c0 : wr.cell? ⟨w.heap.size, j, none⟩ = some (.int .u8 0) := by
          rw [blk_cell HW.out.1 j]
          have := zrow_at n hk
          rw [← hj] at this
          simp [this]
        have c1 := blk_frozen HW.out.1 j
        have HNX : Hid ((wr.setCell ⟨w.heap.size, j, none⟩ (.int .u8 x)).heap[w.heap.size]? = some (.cells ((zrow 2 (k + 1) n).map (Value.int .u8)).toArray 5 (0, 0)) ∧ Below w.heap.size w (wr.setCell ⟨w.heap.size, j, none⟩ (.int .u8 x))) := Lib.hid (by
          refine ⟨?_, HW.out.2.setCell (Nat.le_refl _) _⟩
          have := blk_set HW.out.1 j (.int .u8 x)
          rw [List.setIfInBounds_toArray, ← List.map_set] at this
          rw [this, ← zrow_step n hk, ← hj, hx, HK.out.2.2.2])
        have HQ2 : Hid (q2 = n / 256 ^ (k + 1)) := Lib.hid (by rw [hq2, HK.out.2.2.2, Int.pow_succ, Int.ediv_ediv_of_nonneg (Int.le_of_lt (Int.pow_pos (by decide)))])
        clear hx hq2 hq0 hj
        go_wp2
        generalize wr.setCell ⟨w.heap.size, j, none⟩ (.int .u8 x) = w7 at HNX ⊢
        go_roundg (2 - k)
        case measure => have := HK.out; omega
        case rel => exact ⟨k + 1, _, q2, rfl, by first | rfl | exact congrArg _ e3 | exact congrArg _ e2, Lib.hid ⟨by omega, by omega, by have := HK.out.2.2.1; omega, HQ2.out⟩, HNX⟩
      · have hk5 : k = 2 := by have := HK.out; omega
        subst hk5
        obtain rfl : z = -1 := by have := HK.out.2.2.1; omega
        have HO : Hid (OB w.heap.size wr (.slice (some ⟨w.heap.size, 0, none⟩) 2 2) (beI 2 n)) := Lib.hid (by
          have h := OB.row (l := zrow 2 2 n) HW.out.1 (Nat.le_refl _) (fun x hx => by
            unfold zrow at hx
            rw [Nat.sub_self] at hx
            exact beI_lt _ _ x (by simpa using hx)) (by rw [zrow_len _ _ _ (Nat.le_refl _)]; decide)
          rw [zrow_len _ _ _ (Nat.le_refl _)] at h
          have e : zrow 2 2 n = beI 2 n := by unfold zrow; simp
          rw [e] at h
          exact h)
        go_wp2
        go_ret
        exact ⟨_, rfl, HO.out, HW.out.2⟩
  · go_enter Tryd.func48, Tryd.ntmps48
    go_wp2_with (first
      | (at_make
         refine wpList_make_full _ rfl (.tmp 7) (.tmp 7) 22 rfl w.heap.size 5 iU (.int .u8 0) 1 Tryd.underlying22 hiU hU0 hU1 .i64 .i64 4 4 4 rfl rfl rfl rfl (by rw [hU2]; decide) (by decide) (Nat.le_refl _) ?_
         intro w1 hown hgr
         have H0 : Hid (w1.heap[w.heap.size]? = some (.cells ((zrow 4 0 n).map (Value.int .u8)).toArray 5 (0, 0)) ∧ Below w.heap.size w w1) := Lib.hid ⟨own_exact (made_eq _ n ▸ hown), below_grown (Below.refl _ _) hgr (Nat.le_refl _) (fun k e => by cases e)⟩
         clear hown hgr))
    go_loopg [0, 6] (4 + 1) (fun kq v0 v6 wr => ∃ (k : Nat) (z q : Int), v6 = .int .i64 z ∧ v0 = .int .i64 q ∧ Hid (k ≤ 4 ∧ kq = 4 + 1 - k ∧ z = (4 : Int) - 1 - k ∧ q = n / 256 ^ k) ∧ Hid (wr.heap[w.heap.size]? = some (.cells ((zrow 4 k n).map (Value.int .u8)).toArray 5 (0, 0)) ∧ Below w.heap.size w wr))
    case atStart => exact ⟨0, _, n, rfl, rfl, Lib.hid ⟨by omega, by omega, by omega, by simp⟩, H0⟩
    case round =>
      obtain ⟨k, z, q, rfl, rfl, HK, HW⟩ := hrel
      by_cases hk : k < 4
      · obtain ⟨j, hj⟩ : ∃ j : Nat, j = 4 - k - 1 := ⟨_, rfl⟩
        obtain rfl : z = (j : Int) := by have := HK.out.2.2.1; omega
        have hq0 : 0 ≤ q ∧ q ≤ 9223372036854775807 := by
          rw [HK.out.2.2.2]
          have := HN.out
          exact ⟨Int.ediv_nonneg this.1 (Int.le_of_lt (Int.pow_pos (by decide))), Int.le_trans (Int.ediv_le_self _ this.1) this.2⟩
        obtain ⟨x, hx⟩ : ∃ x, x = q % 256 := ⟨_, rfl⟩
        obtain ⟨q2, hq2⟩ : ∃ q2, q2 = q / 256 := ⟨_, rfl⟩
        have e1 : Int.tmod q 256 = x := by rw [Int.tmod_eq_emod_of_nonneg hq0.1, hx]
        have e2 : Int.tdiv q 256 = q2 := by rw [Int.tdiv_eq_ediv_of_nonneg hq0.1, hq2]
        have e3 : wrap64 q2 = q2 := w64 ⟨by omega, by omega⟩
        have e4 : IntKind.u8.wrap x = x := by rw [IntKind.wrap_u8']; omega
        have e5 : x % 256 = x := by omega
        have hjs : (j : Int) < 4 := by omega
        have c0 : wr.cell? ⟨w.heap.size, j, none⟩ = some (.int .u8 0) := by
          rw [blk_cell HW.out.1 j]
          have := zrow_at n hk
          rw [← hj] at this
          simp [this]
        have c1 := blk_frozen HW.out.1 j
        have HNX : Hid ((wr.setCell ⟨w.heap.size, j, none⟩ (.int .u8 x)).heap[w.heap.size]? = some (.cells ((zrow 4 (k + 1) n).map (Value.int .u8)).toArray 5 (0, 0)) ∧ Below w.heap.size w (wr.setCell ⟨w.heap.size, j, none⟩ (.int .u8 x))) := Lib.hid (by
          refine ⟨?_, HW.out.2.setCell (Nat.le_refl _) _⟩
          have := blk_set HW.out.1 j (.int .u8 x)
          rw [List.setIfInBounds_toArray, ← List.map_set] at this
          rw [this, ← zrow_step n hk, ← hj, hx, HK.out.2.2.2])
        have HQ2 : Hid (q2 = n / 256 ^ (k + 1)) := Lib.hid (by rw [hq2, HK.out.2.2.2, Int.pow_succ, Int.ediv_ediv_of_nonneg (Int.le_of_lt (Int.pow_pos (by decide)))])
        clear hx hq2 hq0 hj
        go_wp2
        generalize wr.setCell ⟨w.heap.size, j, none⟩ (.int .u8 x) = w7 at HNX ⊢
        go_roundg (4 - k)
        case measure => have := HK.out; omega
        case rel => exact ⟨k + 1, _, q2, rfl, by first | rfl | exact congrArg _ e3 | exact congrArg _ e2, Lib.hid ⟨by omega, by omega, by have := HK.out.2.2.1; omega, HQ2.out⟩, HNX⟩
      · have hk5 : k = 4 := by have := HK.out; omega
        subst hk5
        obtain rfl : z = -1 := by have := HK.out.2.2.1; omega
        have HO : Hid (OB w.heap.size wr (.slice (some ⟨w.heap.size, 0, none⟩) 4 4) (beI 4 n)) := Lib.hid (by
          have h := OB.row (l := zrow 4 4 n) HW.out.1 (Nat.le_refl _) (fun x hx => by
            unfold zrow at hx
            rw [Nat.sub_self] at hx
            exact beI_lt _ _ x (by simpa using hx)) (by rw [zrow_len _ _ _ (Nat.le_refl _)]; decide)
          rw [zrow_len _ _ _ (Nat.le_refl _)] at h
          have e : zrow 4 4 n = beI 4 n := by unfold zrow; simp
          rw [e] at h
          exact h)
        go_wp2
        go_ret
        exact ⟨_, rfl, HO.out, HW.out.2⟩
  · go_enter Tryd.func48, Tryd.ntmps48
    go_wp2_with (first
      | (at_make
         refine wpList_make_full _ rfl (.tmp 7) (.tmp 7) 22 rfl w.heap.size 5 iU (.int .u8 0) 1 Tryd.underlying22 hiU hU0 hU1 .i64 .i64 5 5 5 rfl rfl rfl rfl (by rw [hU2]; decide) (by decide) (Nat.le_refl _) ?_
         intro w1 hown hgr
         have H0 : Hid (w1.heap[w.heap.size]? = some (.cells ((zrow 5 0 n).map (Value.int .u8)).toArray 5 (0, 0)) ∧ Below w.heap.size w w1) := Lib.hid ⟨own_exact (made_eq _ n ▸ hown), below_grown (Below.refl _ _) hgr (Nat.le_refl _) (fun k e => by cases e)⟩
         clear hown hgr))
    go_loopg [0, 6] (5 + 1) (fun kq v0 v6 wr => ∃ (k : Nat) (z q : Int), v6 = .int .i64 z ∧ v0 = .int .i64 q ∧ Hid (k ≤ 5 ∧ kq = 5 + 1 - k ∧ z = (5 : Int) - 1 - k ∧ q = n / 256 ^ k) ∧ Hid (wr.heap[w.heap.size]? = some (.cells ((zrow 5 k n).map (Value.int .u8)).toArray 5 (0, 0)) ∧ Below w.heap.size w wr))
    case atStart => exact ⟨0, _, n, rfl, rfl, Lib.hid ⟨by omega, by omega, by omega, by simp⟩, H0⟩
    case round =>
      obtain ⟨k, z, q, rfl, rfl, HK, HW⟩ := hrel
      by_cases hk : k < 5
      · obtain ⟨j, hj⟩ : ∃ j : Nat, j = 5 - k - 1 := ⟨_, rfl⟩
        obtain rfl : z = (j : Int) := by have := HK.out.2.2.1; omega
        have hq0 : 0 ≤ q ∧ q ≤ 9223372036854775807 := by
          rw [HK.out.2.2.2]
          have := HN.out
          exact ⟨Int.ediv_nonneg this.1 (Int.le_of_lt (Int.pow_pos (by decide))), Int.le_trans (Int.ediv_le_self _ this.1) this.2⟩
        obtain ⟨x, hx⟩ : ∃ x, x = q % 256 := ⟨_, rfl⟩
        obtain ⟨q2, hq2⟩ : ∃ q2, q2 = q / 256 := ⟨_, rfl⟩
        have e1 : Int.tmod q 256 = x := by rw [Int.tmod_eq_emod_of_nonneg hq0.1, hx]
        have e2 : Int.tdiv q 256 = q2 := by rw [Int.tdiv_eq_ediv_of_nonneg hq0.1, hq2]
        have e3 : wrap64 q2 = q2 := w64 ⟨by omega, by omega⟩
        have e4 : IntKind.u8.wrap x = x := by rw [IntKind.wrap_u8']; omega
        have e5 : x % 256 = x := by omega
        have hjs : (j : Int) < 5 := by omega
        have c0 : wr.cell? ⟨w.heap.size, j, none⟩ = some (.int .u8 0) := by
          rw [blk_cell HW.out.1 j]
          have := zrow_at n hk
          rw [← hj] at this
          simp [this]
        have c1 := blk_frozen HW.out.1 j
        have HNX : Hid ((wr.setCell ⟨w.heap.size, j, none⟩ (.int .u8 x)).heap[w.heap.size]? = some (.cells ((zrow 5 (k + 1) n).map (Value.int .u8)).toArray 5 (0, 0)) ∧ Below w.heap.size w (wr.setCell ⟨w.heap.size, j, none⟩ (.int .u8 x))) := Lib.hid (by
          refine ⟨?_, HW.out.2.setCell (Nat.le_refl _) _⟩
          have := blk_set HW.out.1 j (.int .u8 x)
          rw [List.setIfInBounds_toArray, ← List.map_set] at this
          rw [this, ← zrow_step n hk, ← hj, hx, HK.out.2.2.2])
        have HQ2 : Hid (q2 = n / 256 ^ (k + 1)) := Lib.hid (by rw [hq2, HK.out.2.2.2, Int.pow_succ, Int.ediv_ediv_of_nonneg (Int.le_of_lt (Int.pow_pos (by decide)))])
        clear hx hq2 hq0 hj
        go_wp2
        generalize wr.setCell ⟨w.heap.size, j, none⟩ (.int .u8 x) = w7 at HNX ⊢
        go_roundg (5 - k)
        case measure => have := HK.out; omega
        case rel => exact ⟨k + 1, _, q2, rfl, by first | rfl | exact congrArg _ e3 | exact congrArg _ e2, Lib.hid ⟨by omega, by omega, by have := HK.out.2.2.1; omega, HQ2.out⟩, HNX⟩
      · have hk5 : k = 5 := by have := HK.out; omega
        subst hk5
        obtain rfl : z = -1 := by have := HK.out.2.2.1; omega
        have HO : Hid (OB w.heap.size wr (.slice (some ⟨w.heap.size, 0, none⟩) 5 5) (beI 5 n)) := Lib.hid (by
          have h := OB.row (l := zrow 5 5 n) HW.out.1 (Nat.le_refl _) (fun x hx => by
            unfold zrow at hx
            rw [Nat.sub_self] at hx
            exact beI_lt _ _ x (by simpa using hx)) (by rw [zrow_len _ _ _ (Nat.le_refl _)]; decide)
          rw [zrow_len _ _ _ (Nat.le_refl _)] at h
          have e : zrow 5 5 n = beI 5 n := by unfold zrow; simp
          rw [e] at h
          exact h)
        go_wp2
        go_ret
        exact ⟨_, rfl, HO.out, HW.out.2⟩
end
section
open Go.RowKit Go.Deep Go.Proofs.YtfcofokbhhnfkaaDoor.Er Go.Proofs.YtfcofokbhhnfkaaDoorW.PrintWords Go.Proofs.YtfcofokbhhnfkaaDoorW.PrintLast Go.Proofs.YtfcofokbhhnfkaaDoorW.PrintMore
def nmB (x : Nm) : List Int := beI x.sz.toNat x.n
def nmsB (L : List Nm) : List Int := L.flatMap nmB
def NmOk (x : Nm) : Prop := (0 ≤ x.n ∧ x.n ≤ 9223372036854775807) ∧ (x.sz = 1 ∨ x.sz = 2 ∨ x.sz = 4 ∨ x.sz = 5)
theorem nmsB_snoc {L : List Nm} {i : Nat} {x : Nm} (h : L[i]? = some x) : nmsB (L.take (i + 1)) = nmsB (L.take i) ++ nmB x := by
  unfold nmsB
  rw [List.take_add_one, h, List.flatMap_append]
  simp
theorem nmsB_len : ∀ (L : List Nm), (∀ x ∈ L, NmOk x) → (nmsB L).length ≤ 5 * L.length
  | [], _ => by simp [nmsB]
  | x :: L, h => by
    have h1 := nmsB_len L (fun y hy => h y (List.mem_cons_of_mem _ hy))
    have h2 := (h x List.mem_cons_self).2
    show (nmB x ++ nmsB L).length ≤ _
    rw [List.length_append, List.length_cons]
    unfold nmB
    rw [beI_len]
    omega
set_option maxHeartbeats 8000000 in
set_option maxRecDepth 100000 in
theorem rall_calls (w : World) (g c : Nat) (L : List Nm) (hg : NumAt w g L) (hl : L.length ≤ 1000) (hok : ∀ x ∈ L, NmOk x) :
    Calls Tryd.prog 47 #[.slice (some ⟨g, 0, none⟩) L.length c] w fun e w' => ∃ v', e = .returned v' ∧ OB w.heap.size w' v' (nmsB L) ∧ Below w.heap.size w w' := by
  have HG := Lib.hid hg
  have HOK := Lib.hid hok
  obtain ⟨m, hm⟩ : ∃ m, m = L.length := ⟨_, rfl⟩
  have HM := Lib.hid hm
  rw [← hm] at hl ⊢
  clear hg hm hok
  go_enter Tryd.func47, Tryd.ntmps47
  have H0 : Hid (OB w.heap.size (w.alloc (.cells #[] 5)) (.slice (some ⟨w.heap.size, 0, none⟩) 0 0) [] ∧ Below w.heap.size w (w.alloc (.cells #[] 5))) := Lib.hid ⟨⟨⟨rfl, .inr ⟨_, 0, #[], rfl, Nat.le_refl _, heap_new _ _, Nat.le_refl _, Nat.zero_le _, rfl, rfl⟩⟩, by simp, by simp⟩, (Below.refl _ _).alloc (Nat.le_refl _) _⟩
  go_wp2
  go_loopg [3, 4] (m + 1) (fun kq v3 v4 wr => ∃ (i : Nat), v4 = .int .i64 i ∧ Hid (i ≤ m ∧ kq = m + 1 - i) ∧ Hid (OB w.heap.size wr v3 (nmsB (L.take i)) ∧ Below w.heap.size w wr))
  case atStart => exact ⟨0, rfl, Lib.hid ⟨by omega, by omega⟩, H0⟩
  case round =>
    obtain ⟨i, rfl, HI, HA⟩ := hrel
    by_cases hi : i < m
    · obtain ⟨x, hx⟩ : ∃ x, L[i]? = some x := ⟨L[i]'(by rw [← HM.out]; exact hi), List.getElem?_eq_getElem _⟩
      have hxo := HOK.out x (List.mem_of_getElem? hx)
      have HNX := Lib.hid (nmsB_snoc hx)
      have HCE0 : ∀ w' : World, Below w.heap.size w w' → w'.cell? ⟨g, i * 4, none⟩ = some (.int .i64 x.n) ∧ w'.cell? ⟨g, i * 4 + 1, none⟩ = some (.int .i64 x.sz) := fun w' hb => ⟨(HG.out.below hb).cell hx 0 (by decide), (HG.out.below hb).cell hx 1 (by decide)⟩
      have hlen := nmsB_len (L.take i) (fun y hy => HOK.out y (List.mem_of_mem_take hy))
      rw [List.length_take] at hlen
      obtain ⟨n, sz, lo, hi_⟩ := x
      simp only [nmB] at HNX
      dsimp only at HCE0 HNX
      obtain ⟨hn, hs⟩ := hxo
      dsimp only at hn hs
      obtain ⟨s, rfl⟩ : ∃ s : Nat, sz = (s : Int) := ⟨sz.toNat, by omega⟩
      rw [Int.toNat_natCast] at HNX
      have HSN : Hid (True ∧ (s = 1 ∨ s = 2 ∨ s = 4 ∨ s = 5) ∧ (0 ≤ n ∧ n ≤ 9223372036854775807)) := Lib.hid ⟨trivial, by omega, hn⟩
      have HCE := Lib.hid HCE0
      obtain ⟨X, hX⟩ : ∃ X, X = nmsB (L.take i) := ⟨_, rfl⟩
      rw [← hX] at HA HNX hlen
      obtain ⟨A3, c3, hv3, _⟩ := HA.out.1.val
      obtain ⟨L3, hL3⟩ : ∃ L3, L3 = X.length := ⟨_, rfl⟩
      have HX : Hid (True ∧ L3 = X.length) := Lib.hid ⟨trivial, hL3⟩
      have HXL : Hid (X.length ≤ 5000) := Lib.hid (by omega)
      rw [← hL3] at hv3
      subst hv3
      have hi' : (i : Int) < (m : Int) := by omega
      clear hx hn hs HCE0 hX hL3 hlen
      go_upto_region 5 with (fail)
      refine start_ (n := 14) (S := fun w' => w'.cell? ⟨g, i * 4, none⟩ = some (.int .i64 n) ∧ w'.cell? ⟨g, i * 4 + 1, none⟩ = some (.int .i64 (s : Int)) ∧ OB w.heap.size w' (.slice A3 L3 c3) X ∧ Below w.heap.size w w') (ds := [12]) #[false, false, false, false, false, false, false, false, false, false, false, false, false, false] (by kernel_rfl) rfl rfl ⟨(HCE.out _ HA.out.2.drew).1, (HCE.out _ HA.out.2.drew).2, HA.out.1.below (Below.refl _ _).drew, HA.out.2.drew⟩ (fun hHeld => ?_)
      refine pure_ (i := 0) (N := some 12) (v := ?_) (a' := ?_) #[true, false, false, false, false, false, false, false, false, false, false, false, false, false] rfl rfl (by kernel_rfl) (fun _ _ _ h => h) (Or.inl ⟨by rfl, ?_⟩) ?_ ?_
      rotate_left
      · intro w'
        go_simp
        with_reducible rfl
      rotate_left
      · simp only [Act.put, List.setIfInBounds_toArray, List.set_cons_zero, List.set_cons_succ, i64_w, i32_w]
        rfl
      refine pure_ (i := 1) (N := some 13) (v := ?_) (a' := ?_) #[true, true, false, false, false, false, false, false, false, false, false, false, false, false] rfl rfl (by kernel_rfl) (fun _ _ _ h => h) (Or.inl ⟨by rfl, ?_⟩) ?_ ?_
      rotate_left
      · intro w'
        go_simp
        with_reducible rfl
      rotate_left
      · simp only [Act.put, List.setIfInBounds_toArray, List.set_cons_zero, List.set_cons_succ, i64_w, i32_w]
        rfl
      refine pure_ (i := 2) (N := some 14) (v := ?_) (a' := ?_) #[true, true, true, false, false, false, false, false, false, false, false, false, false, false] rfl rfl (by kernel_rfl) (fun _ _ _ h => h) (Or.inl ⟨by rfl, ?_⟩) ?_ ?_
      rotate_left
      · intro w'
        go_simp
        with_reducible rfl
      rotate_left
      · simp only [Act.put, List.setIfInBounds_toArray, List.set_cons_zero, List.set_cons_succ, i64_w, i32_w]
        rfl
      refine pure_ (i := 3) (N := some 15) (v := ?_) (a' := ?_) #[true, true, true, true, false, false, false, false, false, false, false, false, false, false] rfl rfl (by kernel_rfl) (fun _ _ _ h => h) (Or.inl ⟨by rfl, ?_⟩) ?_ ?_
      rotate_left
      · intro w'
        go_simp
        with_reducible rfl
      rotate_left
      · simp only [Act.put, List.setIfInBounds_toArray, List.set_cons_zero, List.set_cons_succ, i64_w, i32_w]
        rfl
      refine pure_ (i := 4) (N := some 16) (v := ?_) (a' := ?_) #[true, true, true, true, true, false, false, false, false, false, false, false, false, false] rfl rfl (by kernel_rfl) (fun _ _ _ h => h) (Or.inl ⟨by rfl, ?_⟩) ?_ ?_
      rotate_left
      · intro w'
        go_simp
        with_reducible rfl
      rotate_left
      · simp only [Act.put, List.setIfInBounds_toArray, List.set_cons_zero, List.set_cons_succ, i64_w, i32_w]
        rfl
      refine take_ (i := 5) (N := some 17) (v := ?_) (a' := ?_) #[true, true, true, true, true, true, false, false, false, false, false, false, false, false] rfl rfl (by kernel_rfl) (fun _ _ _ h => h) (Or.inl ⟨by rfl, ?_⟩) hHeld ?_ ?_
      rotate_left
      · rintro w' ⟨s0, s1, s2, s3⟩
        go_simp
        with_reducible rfl
      rotate_left
      · simp only [Act.put, List.setIfInBounds_toArray, List.set_cons_zero, List.set_cons_succ, i64_w, i32_w]
        rfl
      refine pure_ (i := 6) (N := some 18) (v := ?_) (a' := ?_) #[true, true, true, true, true, true, true, false, false, false, false, false, false, false] rfl rfl (by kernel_rfl) (fun _ _ _ h => h) (Or.inl ⟨by rfl, ?_⟩) ?_ ?_
      rotate_left
      · intro w'
        go_simp
        with_reducible rfl
      rotate_left
      · simp only [Act.put, List.setIfInBounds_toArray, List.set_cons_zero, List.set_cons_succ, i64_w, i32_w]
        rfl
      refine pure_ (i := 7) (N := some 19) (v := ?_) (a' := ?_) #[true, true, true, true, true, true, true, true, false, false, false, false, false, false] rfl rfl (by kernel_rfl) (fun _ _ _ h => h) (Or.inl ⟨by rfl, ?_⟩) ?_ ?_
      rotate_left
      · intro w'
        go_simp
        with_reducible rfl
      rotate_left
      · simp only [Act.put, List.setIfInBounds_toArray, List.set_cons_zero, List.set_cons_succ, i64_w, i32_w]
        rfl
      refine pure_ (i := 8) (N := some 20) (v := ?_) (a' := ?_) #[true, true, true, true, true, true, true, true, true, false, false, false, false, false] rfl rfl (by kernel_rfl) (fun _ _ _ h => h) (Or.inl ⟨by rfl, ?_⟩) ?_ ?_
      rotate_left
      · intro w'
        go_simp
        with_reducible rfl
      rotate_left
      · simp only [Act.put, List.setIfInBounds_toArray, List.set_cons_zero, List.set_cons_succ, i64_w, i32_w]
        rfl
      refine pure_ (i := 9) (N := some 21) (v := ?_) (a' := ?_) #[true, true, true, true, true, true, true, true, true, true, false, false, false, false] rfl rfl (by kernel_rfl) (fun _ _ _ h => h) (Or.inl ⟨by rfl, ?_⟩) ?_ ?_
      rotate_left
      · intro w'
        go_simp
        with_reducible rfl
      rotate_left
      · simp only [Act.put, List.setIfInBounds_toArray, List.set_cons_zero, List.set_cons_succ, i64_w, i32_w]
        rfl
      refine take_ (i := 10) (N := some 22) (v := ?_) (a' := ?_) #[true, true, true, true, true, true, true, true, true, true, true, false, false, false] rfl rfl (by kernel_rfl) (fun _ _ _ h => h) (Or.inl ⟨by rfl, ?_⟩) hHeld ?_ ?_
      rotate_left
      · rintro w' ⟨s0, s1, s2, s3⟩
        go_simp
        with_reducible rfl
      rotate_left
      · simp only [Act.put, List.setIfInBounds_toArray, List.set_cons_zero, List.set_cons_succ, i64_w, i32_w]
        rfl
      refine one_ (i := 11) (N := some 23) #[true, true, true, true, true, true, true, true, true, true, true, true, false, false] rfl rfl (by kernel_rfl) (by decide) (fun K hK => ?_)
      refine call_ 48 #[.int .i64 n, .int .i64 (s : Int)] (by rfl) rfl ?_ ?_
      · have he := enters_ (P := Tryd.prog) Tryd.func48 (by kernel_rfl) rfl #[.int .i64 n, .int .i64 (s : Int)] wr.drew
        unfold execOp
        simp [resolve, Deferred.ofValue, invoke, Act.eval, he]
      refine (rlay_calls s n wr.drew HSN.out.2.2 HSN.out.2.1).mono ?_
      rintro e w6 ⟨v6, rfl, ho, hb⟩
      refine ⟨_, rfl, ?_⟩
      obtain ⟨A6, c6, rfl, _⟩ := ho.val
      have hB6 : Below w.heap.size w w6 := hHeld.2.2.2.trans (hb.mono hHeld.2.2.2.size)
      have HL6 := Lib.hid ho
      refine hK.out _ _ ⟨(HCE.out _ hB6).1, (HCE.out _ hB6).2, hHeld.2.2.1.below hb, hB6⟩ (fun hHeld6 => ?_)
      clear hK K hHeld ho hb hB6
      refine norm_ (a' := ?_) ?_ ?_
      rotate_left
      · show Act.put _ (some 23) _ = _
        simp only [Act.put, List.setIfInBounds_toArray, List.set_cons_zero, List.set_cons_succ, i64_w, i32_w]
        rfl
      refine last_ (i := 12) (N := some 24) #[true, true, true, true, true, true, true, true, true, true, true, true, true, false] rfl rfl (by kernel_rfl) (by decide) (fun K hK => ?_)
      obtain ⟨A7, c7, w7, hr7, ho7, hf7⟩ := hHeld6.2.2.1.append hHeld6.2.2.2.size (HL6.out.rb.rd HL6.out.2.2) (by intro e; have e2 := congrArg List.length e; rw [beI_len] at e2; have e3 := HSN.out.2.1; simp only [List.length_nil] at e2; omega) (by have e1 := HXL.out; rw [beI_len]; have e3 := HSN.out.2.1; omega) 22
      refine value_ (by rfl) rfl (run_app rfl rfl rfl hr7) ?_
      have HO7 : Hid (OB w.heap.size w7 (.slice A7 (X ++ beI s n).length c7) (X ++ beI s n) ∧ Below w.heap.size w w7) := Lib.hid ⟨ho7, hHeld6.2.2.1.bel hf7 hHeld6.2.2.2 hHeld6.2.2.2.size⟩
      refine hK.out _ _ ?_
      clear hK K hr7 ho7 hf7 hHeld6
      refine norm_ (a' := ?_) ?_ ?_
      rotate_left
      · show Act.put _ (some 24) _ = _
        simp only [Act.put, List.setIfInBounds_toArray, List.set_cons_zero, List.set_cons_succ, i64_w, i32_w]
        rfl
      refine pure_ (i := 13) (N := some 3) (v := ?_) (a' := ?_) #[true, true, true, true, true, true, true, true, true, true, true, true, true, true] rfl rfl (by kernel_rfl) (fun _ _ _ h => h) (Or.inl ⟨by rfl, ?_⟩) ?_ ?_
      rotate_left
      · intro w'
        go_simp
        with_reducible rfl
      rotate_left
      · simp only [Act.put, List.setIfInBounds_toArray, List.set_cons_zero, List.set_cons_succ, i64_w, i32_w]
        rfl
      refine done_ (by kernel_rfl) ?_
      have HA8 : Hid (OB w.heap.size w7 (.slice A7 (X.length + (beI s n).length) c7) (nmsB (L.take (i + 1))) ∧ Below w.heap.size w w7) := Lib.hid ⟨by rw [HNX.out, ← List.length_append]; exact HO7.out.1, HO7.out.2⟩
      clear HO7 HA HL6 HCE
      go_wp2
      go_roundg (m - i)
      case measure => have := HI.out; omega
      case rel => exact ⟨i + 1, by go_num, Lib.hid ⟨by omega, by omega⟩, HA8⟩
    · have HE : Hid (L.take i = L) := Lib.hid (List.take_of_length_le (by have := HM.out; have := HI.out; omega))
      go_wp2
      go_ret
      exact ⟨_, rfl, by rw [← HE.out]; exact HA.out.1, HA.out.2⟩
end
section
open Go.RowKit Go.Deep Go.Proofs.YtfcofokbhhnfkaaDoor.Er Go.Proofs.YtfcofokbhhnfkaaDoorW.PrintWords Go.Proofs.YtfcofokbhhnfkaaDoorW.PrintLast Go.Proofs.YtfcofokbhhnfkaaDoorW.PrintMore
theorem LS.app2 {B : Nat} {D : Nat → Prop} {w : World} {g : Nat} {p : Pk} {v : Value} {wk : World} {vk u : Value} {X Y : List Int} {m : Nat} (h : LS B w g p v wk vk X m) (hY : RdB D wk u Y) (hl : 1 ≤ Y.length ∧ Y.length ≤ 64) (hm : m ≤ 1000) (ty : TypeId) :
    ∃ v' w', (Builtin.append_ #[22, 22] ty #[vk, u]).run Tryd.prog wk = .ok v' w' ∧ LS B w g p v w' v' (X ++ Y) (m + 64) := by
  have hB := Nat.le_trans h.hB h.be.size
  obtain ⟨A', c', w', h1, h2, h3⟩ := h.ob.append hB hY (fun e => by rw [e] at hl; simp at hl) (by have := h.le; omega) ty
  have hf := (Fr.refl wk (U8 B wk)).u8 h.ob h3
  exact ⟨_, w', h1, h2, h.pk.fr hf, hf.u8below h.be hB, h.hB, by rw [List.length_append]; have := h.le; omega⟩
theorem wp_appLS {ops : Array Oper} {rest : List Oper} {o : Oper} {a : Act} {Q : Exit → Act → World → Prop} {B : Nat} {D : Nat → Prop} {w : World} {g : Nat} {p : Pk} {v : Value} {wk : World} {vk u : Value} {X Y : List Int} {m : Nat} (h : LS B w g p v wk vk X m) (hgd : o.guard = none) (s x : Operand) (ho : o.op = .call { callee := .builtin .append, args := #[s, x], argTypes := #[22, 22] }) (hs : a.eval s = vk) (hx : a.eval x = u) (hY : RdB D wk u Y) (hl : 1 ≤ Y.length ∧ Y.length ≤ 64) (hm : m ≤ 1000)
    (k : ∀ v' w', Hid (LS B w g p v w' v' (X ++ Y) (m + 64)) → wpList Tryd.prog ops Q rest (a.put o.dst v') w') : wpList Tryd.prog ops Q (o :: rest) a wk := by
  obtain ⟨v', w', hr, hS⟩ := h.app2 hY hl hm o.type
  exact Kd.event_run hgd (run_app ho hs hx hr) (k v' w' (Lib.hid hS))
theorem OB.setAt {B b : Nat} {w : World} {m c : Nat} {l : List Int} (h : OB B w (.slice (some ⟨b, 0, none⟩) m c) l) (j : Nat) (hj : j < l.length) (x : Int) (hx : 0 ≤ x ∧ x < 256) : OB B (w.setCell ⟨b, j, none⟩ (.int .u8 x)) (.slice (some ⟨b, 0, none⟩) m c) (l.set j x) := by
  obtain ⟨⟨h1, h2⟩, h3, h4⟩ := h
  rcases h2 with ⟨e, _⟩ | ⟨g, cap, cur, e, hb, hc, k1, k2, k3, k4⟩
  · cases e
  · cases e
    have hset := blk_set hc j (.int .u8 x)
    refine ⟨⟨by simp, .inr ⟨b, c, _, by rw [List.length_set], hb, hset, by rw [List.length_set]; exact k1, k2, by simpa using k3, ?_⟩⟩, fun y hy => ?_, by rw [List.length_set]; exact h4⟩
    · rw [List.map_set, ← k4, List.length_set, Nat.mul_one]
      rw [show (cur.setIfInBounds j (.int .u8 x)).toList = cur.toList.set j (.int .u8 x) by simp]
      rw [Nat.mul_one] at k4
      exact List.take_set ..
    · rcases List.mem_or_eq_of_mem_set hy with hy | rfl
      · exact h3 y hy
      · exact hx
theorem OB.ptr {B : Nat} {w : World} {v : Value} {l : List Int} (h : OB B w v l) (hne : l ≠ []) : ∃ b c, v = .slice (some ⟨b, 0, none⟩) l.length c ∧ B ≤ b ∧ ∃ cur, w.heap[b]? = some (.cells cur 5 (0, 0)) ∧ ∀ (j : Nat) (x : Int), l[j]? = some x → w.cell? ⟨b, j, none⟩ = some (.int .u8 x) := by
  rcases h.1.2 with ⟨e, e2⟩ | ⟨g, cap, cur, e, hb, hc, k1, k2, k3, k4⟩
  · exact absurd (List.length_eq_zero_iff.1 e2) hne
  · refine ⟨g, cap, e, hb, cur, hc, fun j x hj => ?_⟩
    have hjl : j < l.length := (List.getElem?_eq_some_iff.1 hj).1
    have e3 : (cur.toList.take (l.length * 1))[j]? = some (.int .u8 x) := by rw [k4, List.getElem?_map, hj]; rfl
    rw [Nat.mul_one, List.getElem?_take, if_pos hjl] at e3
    rw [blk_cell hc j]
    simpa using e3
theorem LS.below5 {B : Nat} {w : World} {g : Nat} {p : Pk} {v : Value} {w5 w6 : World} {vk : Value} {X : List Int} {m b : Nat} (h : LS B w g p v w5 vk X m) (hb : Below w5.heap.size w5 w6) (hge : w5.heap.size ≤ b) (x : Value) : LS B w g p v (w6.setCell ⟨b, 0, none⟩ x) vk X m := h.below (hb.setCell hge x)
def b1P (p : Pk) : List Int := beI 2 p.many ++ (beI 2 p.place ++ (beI 1 p.block ++ beI 2 p.esi))
theorem head_B (p : Pk) : nmsB (headN p) = beI 1 p.kind ++ (beI 2 p.sess ++ (beI 1 p.layer ++ beI 5 p.tick)) := by
  show beI 1 p.kind ++ (beI 2 p.sess ++ (beI 1 p.layer ++ (beI 5 p.tick ++ []))) = _
  rw [List.append_nil]
theorem data_B {p : Pk} (h : -1 ≤ p.sync ∧ p.sync ≤ 7) : nmsB (dataN p) = (p.sync + 1) :: b1P p := by
  show beI 1 (wrap64 (p.sync + 1)) ++ (beI 2 p.many ++ (beI 2 p.place ++ (beI 1 p.block ++ (beI 2 p.esi ++ [])))) = _
  rw [List.append_nil, w64 ⟨by omega, by omega⟩]
  show ((p.sync + 1) / 256 ^ 0 % 256) :: b1P p = _
  congr 1
  rw [Int.pow_zero, Int.ediv_one]
  omega
theorem body_d {p : Pk} (hk : p.kind = 1) (h : -1 ≤ p.sync ∧ p.sync ≤ 7) : bodyI p = (nmsB (headN p) ++ (flg p :: b1P p)) ++ p.data := by
  unfold bodyI
  rw [if_pos hk, head_B]
  have e : beI 1 (flg p) = [flg p] := by
    show [flg p / 256 ^ 0 % 256] = _
    rw [Int.pow_zero, Int.ediv_one]
    congr 1
    unfold flg
    split <;> omega
  rw [e]
  unfold b1P
  simp only [List.append_assoc, List.cons_append, List.nil_append, List.singleton_append]
theorem one_be {n : Int} (h : 0 ≤ n ∧ n < 256) : beI 1 n = [n] := by
  show [n / 256 ^ 0 % 256] = _
  rw [Int.pow_zero, Int.ediv_one]
  congr 1
  omega
theorem body_a {p : Pk} (hk : ¬ p.kind = 1) (h1 : 0 ≤ p.sym ∧ p.sym < 256) (h2 : 0 ≤ p.blocks ∧ p.blocks < 256) (h3 : 0 ≤ p.long ∧ p.long < 256) (h4 : 0 ≤ p.short ∧ p.short < 256) (h5 : 0 ≤ p.layers ∧ p.layers < 256) :
    bodyI p = ((((nmsB (headN p) ++ beI 4 p.size) ++ [p.sym, p.blocks, p.long, p.short, p.layers]) ++ beI 2 (p.esis - 1)) ++ beI 2 p.base) ++ beI 2 p.len := by
  unfold bodyI
  rw [if_neg hk, head_B, one_be h1, one_be h2, one_be h3, one_be h4, one_be h5]
  simp only [List.append_assoc, List.cons_append, List.nil_append, List.singleton_append]
theorem ok_head {p : Pk} (h : RangeOk p) : ∀ x ∈ headN p, NmOk x := by
  obtain ⟨r1, r2, r3, r4⟩ := h
  have hk : 1 ≤ p.kind ∧ p.kind ≤ 2 := by rcases r4 with q | q <;> omega
  intro x hx
  simp only [headN, List.mem_cons, List.not_mem_nil, or_false] at hx
  rcases hx with rfl | rfl | rfl | rfl <;> refine ⟨⟨?_, ?_⟩, ?_⟩ <;> dsimp only <;> omega
theorem ok_data {p : Pk} (h : DataR p) : ∀ x ∈ dataN p, NmOk x := by
  obtain ⟨d1, d2, d3, d4, d5⟩ := h
  have e := w64 (n := p.sync + 1) ⟨by omega, by omega⟩
  intro x hx
  simp only [dataN, List.mem_cons, List.not_mem_nil, or_false] at hx
  rcases hx with rfl | rfl | rfl | rfl | rfl <;> refine ⟨⟨?_, ?_⟩, ?_⟩ <;> dsimp only <;> omega
theorem RdB.at2 {w w' : World} {v : Value} {l : List Int} (h : RdB (fun k => k < w.heap.size) w v l) (hb : Below w.heap.size w w') : RdB (fun k => k < w'.heap.size) w' v l := by
  obtain ⟨A, c, h1, h2, h3, h4, h5⟩ := h.at0 hb
  refine ⟨A, c, h1, h2, h3, h4, fun hne => ?_⟩
  obtain ⟨a, e, hd, hx⟩ := h5 hne
  exact ⟨a, e, Nat.lt_of_lt_of_le hd hb.size, hx⟩
set_option maxHeartbeats 8000000 in
set_option maxRecDepth 100000 in
theorem rbody_calls (p : Pk) (u : Value) (w : World) (hp : RdB (fun k => k < w.heap.size) w u p.data) (hw : whyP p = 0) :
    Calls Tryd.prog 29 #[pkV p u] w fun e w' => ∃ v', e = .returned v' ∧ OB w.heap.size w' v' (bodyI p) ∧ Below w.heap.size w w' := by
  have HP := Lib.hid hp
  have HU := Lib.hid (cells_of hp)
  obtain ⟨hr, hf⟩ := whyP_zero hw
  have HOH := Lib.hid (ok_head hr)
  obtain ⟨X0, hX0⟩ : ∃ X, X = nmsB (headN p) := ⟨_, rfl⟩
  have HX0 : Hid (nmsB (headN p) = X0 ∧ X0.length ≤ 20) := Lib.hid ⟨hX0.symm, by rw [hX0]; exact nmsB_len _ HOH.out⟩
  rcases hf with ⟨hk, hf⟩ | ⟨hk, hf⟩
  · skip
    have hdr : DataR p := (hr.2.2.2.resolve_right (fun q => by omega)).2
    have HK := Lib.hid hk
    have HDL := Lib.hid hf.1
    have HOD := Lib.hid (ok_data hdr)
    have HSY := Lib.hid hdr.1
    have hsy := hdr.1
    obtain ⟨y, hy⟩ : ∃ y, y = p.sync + 1 := ⟨_, rfl⟩
    have HDB : Hid (nmsB (dataN p) = y :: b1P p) := Lib.hid (by rw [hy]; exact data_B hsy)
    have HBL : Hid ((b1P p).length = 7) := Lib.hid (by unfold b1P; simp [beI_len])
    have HBI : Hid (bodyI p = (X0 ++ (flg p :: b1P p)) ++ p.data) := Lib.hid (by rw [hX0]; exact body_d hk hsy)
    have hyb : 0 ≤ y ∧ y ≤ 8 := by omega
    have HY := Lib.hid (And.intro hy hyb)
    clear hp hw hr hf hk hdr hsy hX0 hy
    go_enter Tryd.func29, Tryd.ntmps29
    go_upto_region 2 with (first
      | ((with_reducible refine gate_dst (N := 1) rfl ?_); refine wp_box rfl (.tmp 0) rfl rfl HU.out ?_; intro w2 hP hB hs; have H2 := Lib.hid (SB.mk hP hB); clear hP hB hs)
      | ((with_reducible refine gate_dst (N := 5) rfl ?_); refine wp_ldpk rfl (.tmp 1) rfl rfl H2.out.P ?_)
      | (go_at_call 41; refine (head_calls p u _ HU.out).mono ?_; rintro e w3 ⟨g3, c3, rfl, hN, hb⟩; have H3 := Lib.hid (And.intro (H2.out.below hb) hN); clear hN hb H2)
      | (go_at_call 47; refine (rall_calls _ g3 c3 (headN p) H3.out.2 (show 4 ≤ 1000 by decide) HOH.out).mono ?_; rw [HX0.out.1]; rintro e w4 ⟨v4, rfl, ho, hb⟩; have HS4 : Hid (LS w.heap.size w w.heap.size p u w4 v4 X0 20) := Lib.hid ⟨ho.base H3.out.1.B.size, H3.out.1.P.below hb, H3.out.1.B.trans (hb.mono H3.out.1.B.size), Nat.le_refl _, HX0.out.2⟩; clear ho hb H3))
    have s0 : w4.cell? ⟨w.heap.size, 0, none⟩ = some (.int .i64 1) := (blk_cell HS4.out.pk 0).trans (congrArg (fun z => some (Value.int .i64 z)) HK.out)
    go_upto_region 4 with (first
      | ((with_reducible refine gate_dst (N := 11) rfl ?_); refine wp_ldpk rfl (.tmp 1) rfl rfl HS4.out.pk ?_)
      | (go_at_call 42; refine (dataN_calls p u _ HU.out).mono ?_; rintro e w5 ⟨g5, c5, rfl, hN, hb⟩; have HS5 := Lib.hid (And.intro (HS4.out.below hb) hN); clear hN hb HS4 s0)
      | (go_at_call 47; refine (rall_calls _ g5 c5 (dataN p) HS5.out.2 (show 5 ≤ 1000 by decide) HOD.out).mono ?_; rw [HDB.out]; rintro e w6 ⟨v6, rfl, ho, hb⟩; have HM6 := Lib.hid ho; have HS6 := Lib.hid (And.intro (HS5.out.1.below hb) hb); have HS5o := Lib.hid HS5.out.1; clear ho hb HS5))
    obtain ⟨b6, c6, rfl, hb6, cur6, hc6, hcl6⟩ := HM6.out.ptr (by simp)
    rw [show (y :: b1P p).length = 8 by rw [List.length_cons, HBL.out]] at HM6 ⊢
    have q0 : w6.cell? ⟨b6, 0, none⟩ = some (.int .u8 y) := hcl6 0 y rfl
    have q1 := blk_frozen hc6 0
    have HB6 := Lib.hid hb6
    clear hcl6 hc6 hb6
    have s4 : w6.cell? ⟨w.heap.size, 4, none⟩ = some (.bool p.burst) := (blk_cell HS6.out.1.pk 4).trans rfl
    have e1 : IntKind.u8.wrap (y + 128) = y + 128 := by rw [IntKind.wrap_u8']; omega
    have e2 : (y + 128) % 256 = y + 128 := by omega
    cases hbu : p.burst
    · rw [hbu] at s4
      have HF : Hid (flg p = y) := Lib.hid (by unfold flg; rw [hbu, HY.out.1]; rfl)
      clear hbu
      go_upto_region 6 with (fail)
      have HSF := HS6.out.1
      have HMF : Hid (OB w5.heap.size w6 (.slice (some ⟨b6, 0, none⟩) 8 c6) (flg p :: b1P p)) := Lib.hid (by rw [HF.out]; exact HM6.out)
      have HSS := Lib.hid HSF
      clear HSF HS6 HM6 q0 q1 s4 e1 e2
      have s10 : w6.cell? ⟨w.heap.size, 10, none⟩ = some u := (blk_cell HSS.out.pk 10).trans rfl
      clear s10
      go_upto_region 7 with (first
        | (at_builtin
           refine wp_appLS HSS.out rfl (.tmp 22) (.tmp 23) rfl rfl rfl HMF.out.rb.rdlt (by rw [List.length_cons, HBL.out]; decide) (by decide) ?_
           intro v7 w7 HS7
           have s10 : w7.cell? ⟨w.heap.size, 10, none⟩ = some u := (blk_cell HS7.out.pk 10).trans rfl))
      go_wp2_with (first
        | (at_builtin
           refine wp_appLS HS7.out rfl (.tmp 25) (.tmp 27) rfl rfl rfl (HP.out.at0 HS7.out.be) HDL.out (by decide) ?_
           intro v8 w8 HS8))
      go_ret
      exact ⟨_, rfl, by rw [HBI.out]; exact HS8.out.ob, HS8.out.be⟩
    · rw [hbu] at s4
      have HF : Hid (flg p = y + 128) := Lib.hid (by unfold flg; rw [hbu, HY.out.1]; simp only [if_true]; omega)
      clear hbu
      go_upto_region 6 with (fail)
      have HMF : Hid (OB w5.heap.size (w6.setCell ⟨b6, 0, none⟩ (.int .u8 (y + 128))) (.slice (some ⟨b6, 0, none⟩) 8 c6) (flg p :: b1P p)) := Lib.hid (by
        have h := HM6.out.setAt 0 (by simp) (y + 128) (by have := HY.out.2; omega)
        rw [HF.out]
        exact h)
      have HSS : Hid (LS w.heap.size w w.heap.size p u (w6.setCell ⟨b6, 0, none⟩ (.int .u8 (y + 128))) v4 X0 20) := Lib.hid (LS.below5 HS5o.out HS6.out.2 HB6.out (.int .u8 (y + 128)))
      clear HS6 HM6 q0 q1 s4 e1 e2
      generalize (w6.setCell ⟨b6, 0, none⟩ (.int .u8 (y + 128))) = w6 at HMF HSS ⊢
      have s10 : w6.cell? ⟨w.heap.size, 10, none⟩ = some u := (blk_cell HSS.out.pk 10).trans rfl
      clear s10
      go_upto_region 7 with (first
        | (at_builtin
           refine wp_appLS HSS.out rfl (.tmp 22) (.tmp 23) rfl rfl rfl HMF.out.rb.rdlt (by rw [List.length_cons, HBL.out]; decide) (by decide) ?_
           intro v7 w7 HS7
           have s10 : w7.cell? ⟨w.heap.size, 10, none⟩ = some u := (blk_cell HS7.out.pk 10).trans rfl))
      go_wp2_with (first
        | (at_builtin
           refine wp_appLS HS7.out rfl (.tmp 25) (.tmp 27) rfl rfl rfl (HP.out.at0 HS7.out.be) HDL.out (by decide) ?_
           intro v8 w8 HS8))
      go_ret
      exact ⟨_, rfl, by rw [HBI.out]; exact HS8.out.ob, HS8.out.be⟩
  · skip
    have har : AnnR p := (hr.2.2.2.resolve_left (fun q => by omega)).2
    have hk1 : ¬ p.kind = 1 := by omega
    have hsz0 : 0 ≤ p.size := hf.2.2.2.2.2.2.2.1
    obtain ⟨_, hsym, hblk, hlong, hshort, hs2, _⟩ := hf.2.2.2.2.2.2.2
    have hshort2 : p.short ≤ 128 := by split at hs2 <;> omega
    obtain ⟨hlay, hsz, hlys, hess, hbas, hlen⟩ := har
    have HK := Lib.hid hk
    have fk : (p.kind == 1) = false := beq_eq_false_iff_ne.2 hk1
    have HBI : Hid (bodyI p = ((((X0 ++ beI 4 p.size) ++ [p.sym, p.blocks, p.long, p.short, p.layers]) ++ beI 2 (p.esis - 1)) ++ beI 2 p.base) ++ beI 2 p.len) := Lib.hid (by rw [hX0]; exact body_a hk1 (by omega) (by omega) (by omega) (by omega) (by omega))
    have HR1 : Hid (0 ≤ p.size ∧ p.size ≤ 9223372036854775807) := Lib.hid (by omega)
    have HR2 : Hid (0 ≤ p.esis - 1 ∧ p.esis - 1 ≤ 9223372036854775807) := Lib.hid (by omega)
    have HR3 : Hid (0 ≤ p.base ∧ p.base ≤ 9223372036854775807) := Lib.hid (by omega)
    have HR4 : Hid (0 ≤ p.len ∧ p.len ≤ 9223372036854775807) := Lib.hid (by omega)
    have e17 : wrap64 (p.esis - 1) = p.esis - 1 := w64 ⟨by omega, by omega⟩
    have ew_sym : IntKind.u8.wrap p.sym = p.sym := by rw [IntKind.wrap_u8']; omega
    have em_sym : p.sym % 256 = p.sym := by omega
    have ew_blocks : IntKind.u8.wrap p.blocks = p.blocks := by rw [IntKind.wrap_u8']; omega
    have em_blocks : p.blocks % 256 = p.blocks := by omega
    have ew_long : IntKind.u8.wrap p.long = p.long := by rw [IntKind.wrap_u8']; omega
    have em_long : p.long % 256 = p.long := by omega
    have ew_short : IntKind.u8.wrap p.short = p.short := by rw [IntKind.wrap_u8']; omega
    have em_short : p.short % 256 = p.short := by omega
    have ew_layers : IntKind.u8.wrap p.layers = p.layers := by rw [IntKind.wrap_u8']; omega
    have em_layers : p.layers % 256 = p.layers := by omega
    have HL5 : Hid (∀ x ∈ [p.sym, p.blocks, p.long, p.short, p.layers], 0 ≤ x ∧ x < 256) := Lib.hid (by
      intro x hx
      simp only [List.mem_cons, List.not_mem_nil, or_false] at hx
      rcases hx with rfl | rfl | rfl | rfl | rfl <;> omega)
    clear hp hw hr hf hk hk1 hsz0 hsym hblk hlong hshort hs2 hshort2 hlay hsz hlys hess hbas hlen hX0
    go_enter Tryd.func29, Tryd.ntmps29
    go_upto_region 2 with (first
      | ((with_reducible refine gate_dst (N := 1) rfl ?_); refine wp_box rfl (.tmp 0) rfl rfl HU.out ?_; intro w2 hP hB hs; have H2 := Lib.hid (SB.mk hP hB); clear hP hB hs)
      | ((with_reducible refine gate_dst (N := 5) rfl ?_); refine wp_ldpk rfl (.tmp 1) rfl rfl H2.out.P ?_)
      | (go_at_call 41; refine (head_calls p u _ HU.out).mono ?_; rintro e w3 ⟨g3, c3, rfl, hN, hb⟩; have H3 := Lib.hid (And.intro (H2.out.below hb) hN); clear hN hb H2)
      | (go_at_call 47; refine (rall_calls _ g3 c3 (headN p) H3.out.2 (show 4 ≤ 1000 by decide) HOH.out).mono ?_; rw [HX0.out.1]; rintro e w4 ⟨v4, rfl, ho, hb⟩; have HS4 : Hid (LS w.heap.size w w.heap.size p u w4 v4 X0 20) := Lib.hid ⟨ho.base H3.out.1.B.size, H3.out.1.P.below hb, H3.out.1.B.trans (hb.mono H3.out.1.B.size), Nat.le_refl _, HX0.out.2⟩; clear ho hb H3))
    have s0 : w4.cell? ⟨w.heap.size, 0, none⟩ = some (.int .i64 p.kind) := (blk_cell HS4.out.pk 0).trans rfl
    go_upto_region 8 with (fail)
    clear s0
    have s11 : w4.cell? ⟨w.heap.size, 11, none⟩ = some (.int .i64 p.size) := (blk_cell HS4.out.pk 11).trans rfl
    go_upto_region 9 with (first
      | (go_at_call 48; refine (rlay_calls 4 p.size _ HR1.out (by decide)).mono ?_; rintro e w5 ⟨v5, rfl, ho, hb⟩; have HS5 := Lib.hid (HS4.out.below hb); have HL := Lib.hid ho; clear ho hb s11)
      | (at_builtin
         refine wp_appLS (Y := beI 4 p.size) HS5.out rfl (.tmp 29) (.tmp 33) rfl rfl rfl HL.out.rb.rdlt ⟨by rw [beI_len]; decide, by rw [beI_len]; decide⟩ (by decide) ?_
         intro v6 w6 HS6))
    clear HL HS5
    have s12 : w6.cell? ⟨w.heap.size, 12, none⟩ = some (.int .i64 p.sym) := (blk_cell HS6.out.pk 12).trans rfl
    have s13 : w6.cell? ⟨w.heap.size, 13, none⟩ = some (.int .i64 p.blocks) := (blk_cell HS6.out.pk 13).trans rfl
    have s14 : w6.cell? ⟨w.heap.size, 14, none⟩ = some (.int .i64 p.long) := (blk_cell HS6.out.pk 14).trans rfl
    have s15 : w6.cell? ⟨w.heap.size, 15, none⟩ = some (.int .i64 p.short) := (blk_cell HS6.out.pk 15).trans rfl
    have s16 : w6.cell? ⟨w.heap.size, 16, none⟩ = some (.int .i64 p.layers) := (blk_cell HS6.out.pk 16).trans rfl
    have HS7 : Hid (LS w.heap.size w w.heap.size p u (w6.alloc (.cells #[.int .u8 p.sym, .int .u8 p.blocks, .int .u8 p.long, .int .u8 p.short, .int .u8 p.layers] 5)) v6 (X0 ++ beI 4 p.size) (20 + 64)) := Lib.hid (HS6.out.below ((Below.refl _ _).alloc (Nat.le_refl _) _))
    have HL : Hid (RdB (fun _ => True) (w6.alloc (.cells #[.int .u8 p.sym, .int .u8 p.blocks, .int .u8 p.long, .int .u8 p.short, .int .u8 p.layers] 5)) (.slice (some ⟨w6.heap.size, 0, none⟩) 5 5) [p.sym, p.blocks, p.long, p.short, p.layers]) := Lib.hid (rd_lit (l := [p.sym, p.blocks, p.long, p.short, p.layers]) (heap_new _ _) trivial (show 5 ≤ 140737488355328 by decide) HL5.out)
    go_upto_region 10 with (first
      | (at_builtin
         refine wp_appLS HS7.out rfl (.tmp 35) (.tmp 55) rfl rfl rfl HL.out (show 1 ≤ 5 ∧ 5 ≤ 64 by decide) (by decide) ?_
         intro v8 w8 HS8))
    clear HL HS7 HS6 s12 s13 s14 s15 s16 ew_sym em_sym ew_blocks em_blocks ew_long em_long ew_short em_short ew_layers em_layers
    have s17 : w8.cell? ⟨w.heap.size, 17, none⟩ = some (.int .i64 p.esis) := (blk_cell HS8.out.pk 17).trans rfl
    go_upto_region 11 with (first
      | (go_at_call 48; refine (rlay_calls 2 (p.esis - 1) _ HR2.out (by decide)).mono ?_; rintro e w9 ⟨v9, rfl, ho, hb⟩; have HS9 := Lib.hid (HS8.out.below hb); have HL := Lib.hid ho; clear ho hb s17)
      | (at_builtin
         refine wp_appLS (Y := beI 2 (p.esis - 1)) HS9.out rfl (.tmp 57) (.tmp 61) rfl rfl rfl HL.out.rb.rdlt ⟨by rw [beI_len]; decide, by rw [beI_len]; decide⟩ (by decide) ?_
         intro v10 w10 HS10))
    clear HL HS9 HS8
    have s18 : w10.cell? ⟨w.heap.size, 18, none⟩ = some (.int .i64 p.base) := (blk_cell HS10.out.pk 18).trans rfl
    go_upto_region 12 with (first
      | (go_at_call 48; refine (rlay_calls 2 p.base _ HR3.out (by decide)).mono ?_; rintro e w11 ⟨v11, rfl, ho, hb⟩; have HS11 := Lib.hid (HS10.out.below hb); have HL := Lib.hid ho; clear ho hb s18)
      | (at_builtin
         refine wp_appLS (Y := beI 2 p.base) HS11.out rfl (.tmp 63) (.tmp 66) rfl rfl rfl HL.out.rb.rdlt ⟨by rw [beI_len]; decide, by rw [beI_len]; decide⟩ (by decide) ?_
         intro v12 w12 HS12))
    clear HL HS11 HS10
    have s19 : w12.cell? ⟨w.heap.size, 19, none⟩ = some (.int .i64 p.len) := (blk_cell HS12.out.pk 19).trans rfl
    go_wp2_with (first
      | (go_at_call 48; refine (rlay_calls 2 p.len _ HR4.out (by decide)).mono ?_; rintro e w13 ⟨v13, rfl, ho, hb⟩; have HS13 := Lib.hid (HS12.out.below hb); have HL := Lib.hid ho; clear ho hb s19)
      | (at_builtin
         refine wp_appLS (Y := beI 2 p.len) HS13.out rfl (.tmp 68) (.tmp 71) rfl rfl rfl HL.out.rb.rdlt ⟨by rw [beI_len]; decide, by rw [beI_len]; decide⟩ (by decide) ?_
         intro v14 w14 HS14))
    go_ret
    exact ⟨_, rfl, by rw [HBI.out]; exact HS14.out.ob, HS14.out.be⟩
set_option maxHeartbeats 8000000 in
theorem rput_calls (p : Pk) (u : Value) (w : World) (hp : RdB (fun k => k < w.heap.size) w u p.data) (hw : whyP p = 0) :
    Calls Tryd.prog 13 #[pkV p u] w fun e w' => ∃ v', e = .returned v' ∧ OB w.heap.size w' v' (putL p) ∧ Below w.heap.size w w' := by
  have HP := Lib.hid hp
  have HU := Lib.hid (cells_of hp)
  have HW := Lib.hid hw
  have HL : Hid (putL p = addI (bodyI p) ∧ (bodyI p).length + 4 ≤ 140737488355328) := Lib.hid ⟨if_pos hw, by have := bodyI_len hw; omega⟩
  clear hp hw
  rw [HL.out.1]
  go_enter Tryd.func13, Tryd.ntmps13
  go_wp2_with (first
    | ((with_reducible refine gate_dst (N := 1) rfl ?_); refine wp_box rfl (.tmp 0) rfl rfl HU.out ?_; intro w2 hP hB hs; have H2 := Lib.hid (SB.mk hP hB); clear hP hB hs)
    | ((with_reducible refine gate_dst (N := 3) rfl ?_); refine wp_ldpk rfl (.tmp 1) rfl rfl H2.out.P ?_)
    | (go_at_call 29; refine (rbody_calls p u _ (HP.out.at2 H2.out.B) HW.out).mono ?_; rintro e w3 ⟨v3, rfl, ho, hb⟩; have H3 := Lib.hid (And.intro (H2.out.below hb).B ho); clear ho hb H2)
    | (go_at_call 28; refine (radd_calls _ v3 (bodyI p) H3.out.2.rb.rdlt (fun k hk => hk) HL.out.2).mono ?_; rintro e w4 ⟨v4, rfl, ho, hb⟩; have H4 := Lib.hid (And.intro (H3.out.1.trans (hb.mono H3.out.1.size)) (ho.base H3.out.1.size)); clear ho hb H3))
  go_ret
  exact ⟨_, rfl, H4.out.2, H4.out.1⟩
end
end Go.Proofs.YtfcofokbhhnfkaaDoor.Byt
