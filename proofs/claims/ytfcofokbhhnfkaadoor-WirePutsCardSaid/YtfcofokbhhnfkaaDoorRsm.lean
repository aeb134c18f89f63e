/- geyserref15's power and Sum by their contracts. Conditions: bytes as they may be read. -/
import Derived.Test.YtfcofokbhhnfkaaDoorRefC
namespace Go.Proofs.YtfcofokbhhnfkaaDoor.Byt
set_option linter.unusedSimpArgs false
set_option linter.unusedVariables false
open Go.RowKit Go.Deep Go.Proofs.YtfcofokbhhnfkaaDoor.Er Go.Proofs.YtfcofokbhhnfkaaDoorW.PrintWords Go.Proofs.YtfcofokbhhnfkaaDoorW.PrintLast Go.Proofs.YtfcofokbhhnfkaaDoorW.PrintMore
set_option maxHeartbeats 4000000 in
set_option maxRecDepth 100000 in
theorem power_calls (k : Nat) (hk : k ≤ 8) (w : World) : Calls Tryd.prog 55 #[.int .i64 (k : Int)] w fun e w' => e = .returned (.int .u32 ((2 ^ k : Nat) : Int)) ∧ w' = w := by
  have HK := Lib.hid hk
  go_enter Tryd.func55, Tryd.ntmps55
  go_wp2
  go_loopg [3, 4] (k + 1) (fun kq v3 v4 wr => ∃ (i n : Nat), v4 = .int .i64 i ∧ v3 = .int .u32 n ∧ wr = w ∧ Hid (i ≤ k ∧ kq = k + 1 - i ∧ n = 2 ^ i))
  case atStart => exact ⟨0, 1, rfl, rfl, rfl, Lib.hid ⟨by omega, by omega, rfl⟩⟩
  case round =>
    obtain ⟨i, n, rfl, rfl, rfl, HI⟩ := hrel
    by_cases hi : i < k
    · have hn : n ≤ 256 := by rw [HI.out.2.2]; exact Nat.pow_le_pow_right (n := 2) (by omega) (show i ≤ 8 by have := HK.out; omega)
      obtain ⟨n2, hn2⟩ : ∃ n2, n2 = n * 2 := ⟨_, rfl⟩
      have hw : ((n : Int) * 2) % 4294967296 = (n2 : Int) := by omega
      have hw' : IntKind.u32.wrap ((n : Int) * 2) = (n2 : Int) := by rw [IntKind.wrap_u32]; exact hw
      have HN2 : Hid (n2 = 2 ^ (i + 1)) := Lib.hid (by rw [hn2, HI.out.2.2, Nat.pow_succ])
      clear hn hn2
      go_wp2
      go_roundg (k - i)
      case measure => have := HI.out; omega
      case rel => exact ⟨i + 1, n2, by go_num, by first | rfl | exact congrArg _ hw | exact congrArg _ hw', rfl, Lib.hid ⟨by omega, by omega, HN2.out⟩⟩
    · have hik : i = k := by have := HI.out; omega
      have HN : Hid (n = 2 ^ k) := Lib.hid (by rw [← hik]; exact HI.out.2.2)
      clear hik
      go_wp2
      go_ret
      exact ⟨by rw [HN.out]; rfl, rfl⟩
theorem getD_nats {l : List Int} {i : Nat} {b : Int} (h : l[i]? = some b) : nats (l.take (i + 1)) = nats (l.take i) ++ [b.toNat] := nats_snoc h
set_option maxHeartbeats 4000000 in
set_option maxRecDepth 100000 in
theorem rsum_calls {D : Nat → Prop} (w : World) (v : Value) (l : List Int) (hl : RdB D w v l) (hD : ∀ k, D k → k < w.heap.size) :
    Calls Tryd.prog 46 #[v] w fun e w' => e = .returned (.int .u32 ((sumI l : Nat) : Int)) ∧ Below w.heap.size w w' := by
  have HR := Lib.hid hl
  have HD := Lib.hid hD
  obtain ⟨A, c, rfl, hc1, hc2, hlt, hx⟩ := hl
  obtain ⟨m, hm⟩ : ∃ m, m = l.length := ⟨_, rfl⟩
  have HM := Lib.hid hm
  have HLT := Lib.hid hlt
  have HX := Lib.hid hx
  rw [← hm] at HR hc1 hc2 ⊢
  clear hm hlt hx hD
  go_enter Tryd.func46, Tryd.ntmps46
  go_wp2
  go_loopg [3, 4, 5, 6, 7] (m + 1) (fun kq v3 v4 v5 v6 v7 wr => ∃ i n : Nat, v3 = .int .u32 n ∧ v4 = .int .i64 i ∧ Hid (i ≤ m ∧ kq = m + 1 - i ∧ n = CrcM.crc CrcM.M (nats (l.take i))) ∧ Hid (Below w.heap.size w wr))
  case atStart => exact ⟨0, 4294967295, rfl, rfl, Lib.hid ⟨by omega, by omega, rfl⟩, Lib.hid (Below.refl _ _)⟩
  case round =>
    obtain ⟨i, n, rfl, rfl, HI, HW⟩ := hrel
    by_cases hi : i < m
    · obtain ⟨b, hb⟩ : ∃ b, l[i]? = some b := ⟨l[i]'(by rw [← HM.out]; exact hi), List.getElem?_eq_getElem _⟩
      have hbb := HLT.out b (List.mem_of_getElem? hb)
      obtain ⟨ab, ao, rfl, hDb, hcl⟩ := HR.out.at i b hb
      obtain ⟨bn, rfl⟩ := Int.eq_ofNat_of_zero_le hbb.1
      have hbn : bn < 256 := by omega
      have HB2 : Hid (nats (l.take (i + 1)) = nats (l.take i) ++ [bn]) := Lib.hid (by rw [nats_snoc hb]; rfl)
      have HCL : Hid (∀ w' : World, Below w.heap.size w w' → w'.cell? ⟨ab, ao + i, none⟩ = some (.int .u8 bn)) := Lib.hid (fun w' hw => (hw.cell (p := ⟨ab, ao + i, none⟩) (HD.out _ hDb)).trans hcl)
      have hn32 : n < 4294967296 := by
        rw [HI.out.2.2]
        exact CrcM.crc_lt _ (by decide) (nats_lt (fun x hx => HLT.out x (List.mem_of_mem_take hx)))
      have HN0 := Lib.hid hn32
      have hi' : (i : Int) < (m : Int) := by omega
      clear hb hbb hcl hDb
      go_wp2
      go_loopg [3, 5, 6, 7] 9 (fun kq v3 v5 v6 v7 w2 => ∃ j n2 : Nat, v3 = .int .u32 n2 ∧ v5 = .int .i64 j ∧ Hid (j ≤ 8 ∧ kq = 9 - j ∧ CrcM.refB 8 n bn = CrcM.refB (8 - j) n2 (bn / 2 ^ j) ∧ n2 < 4294967296) ∧ Hid (Below w.heap.size w w2))
      case atStart => exact ⟨0, n, rfl, rfl, Lib.hid ⟨by omega, by omega, by simp, HN0.out⟩, HW⟩
      case round =>
        obtain ⟨j, n2, rfl, rfl, HJ, HW2⟩ := hrel
        by_cases hj : j < 8
        · have k0 := HCL.out _ HW2.out
          have hj' : j ≤ 8 := by omega
          go_upto_region 8 with (fail)
          obtain ⟨pw, hpw⟩ : ∃ pw, pw = 2 ^ j := ⟨_, rfl⟩
          have HPW : Hid (2 ^ j = pw) := Lib.hid hpw.symm
          have hpp : 0 < pw := by rw [hpw]; exact Nat.two_pow_pos j
          have p0 : ¬ (pw : Int) = 0 := by omega
          have p2 : ¬ pw = 0 := by omega
          have p1 : ((pw : Int) == 0) = false := beq_eq_false_iff_ne.2 p0
          clear hpw
          refine start_ (n := 10) (S := fun w' => w'.cell? ⟨ab, ao + i, none⟩ = some (.int .u8 bn) ∧ Below w.heap.size w w') (ds := []) #[false, false, false, false, false, false, false, false, false, false] (by kernel_rfl) rfl rfl ⟨k0, HW2.out.drew⟩ (fun hHeld => ?_)
          refine pure_ (i := 0) (N := some 18) (v := ?_) (a' := ?_) #[true, false, false, false, false, false, false, false, false, false] rfl rfl (by kernel_rfl) (fun _ _ _ h => h) (Or.inl ⟨by rfl, ?_⟩) ?_ ?_
          rotate_left
          · intro w'
            go_simp
            with_reducible rfl
          rotate_left
          · simp only [Act.put, List.setIfInBounds_toArray, List.set_cons_zero, List.set_cons_succ, i64_w, i32_w]
            rfl
          refine pure_ (i := 1) (N := some 19) (v := ?_) (a' := ?_) #[true, true, false, false, false, false, false, false, false, false] rfl rfl (by kernel_rfl) (fun _ _ _ h => h) (Or.inl ⟨by rfl, ?_⟩) ?_ ?_
          rotate_left
          · intro w'
            go_simp
            with_reducible rfl
          rotate_left
          · simp only [Act.put, List.setIfInBounds_toArray, List.set_cons_zero, List.set_cons_succ, i64_w, i32_w]
            rfl
          refine pure_ (i := 2) (N := some 20) (v := ?_) (a' := ?_) #[true, true, true, false, false, false, false, false, false, false] rfl rfl (by kernel_rfl) (fun _ _ _ h => h) (Or.inl ⟨by rfl, ?_⟩) ?_ ?_
          rotate_left
          · intro w'
            go_simp
            with_reducible rfl
          rotate_left
          · simp only [Act.put, List.setIfInBounds_toArray, List.set_cons_zero, List.set_cons_succ, i64_w, i32_w]
            rfl
          refine take_ (i := 3) (N := some 21) (v := ?_) (a' := ?_) #[true, true, true, true, false, false, false, false, false, false] rfl rfl (by kernel_rfl) (fun _ _ _ h => h) (Or.inl ⟨by rfl, ?_⟩) hHeld ?_ ?_
          rotate_left
          · rintro w' ⟨s0, s1⟩
            go_simp
            with_reducible rfl
          rotate_left
          · simp only [Act.put, List.setIfInBounds_toArray, List.set_cons_zero, List.set_cons_succ, i64_w, i32_w]
            rfl
          refine pure_ (i := 4) (N := some 22) (v := ?_) (a' := ?_) #[true, true, true, true, true, false, false, false, false, false] rfl rfl (by kernel_rfl) (fun _ _ _ h => h) (Or.inl ⟨by rfl, ?_⟩) ?_ ?_
          rotate_left
          · intro w'
            go_simp
            with_reducible rfl
          rotate_left
          · simp only [Act.put, List.setIfInBounds_toArray, List.set_cons_zero, List.set_cons_succ, i64_w, i32_w]
            rfl
          refine pure_ (i := 5) (N := some 23) (v := ?_) (a' := ?_) #[true, true, true, true, true, true, false, false, false, false] rfl rfl (by kernel_rfl) (fun _ _ _ h => h) (Or.inl ⟨by rfl, ?_⟩) ?_ ?_
          rotate_left
          · intro w'
            go_simp
            with_reducible rfl
          rotate_left
          · simp only [Act.put, List.setIfInBounds_toArray, List.set_cons_zero, List.set_cons_succ, i64_w, i32_w]
            rfl
          refine one_ (i := 6) (N := some 24) #[true, true, true, true, true, true, true, false, false, false] rfl rfl (by kernel_rfl) (by decide) (fun K hK => ?_)
          refine call_ 55 #[.int .i64 (j : Int)] (by rfl) rfl ?_ ?_
          · have he := enters_ (P := Tryd.prog) Tryd.func55 (by kernel_rfl) rfl #[.int .i64 (j : Int)] wr.drew
            unfold execOp
            simp [resolve, Deferred.ofValue, invoke, Act.eval, he]
          refine (power_calls j hj' wr.drew).mono ?_
          rw [HPW.out]
          rintro e w9 ⟨rfl, hw9⟩
          subst hw9
          refine ⟨_, rfl, ?_⟩
          refine hK.out _ _ hHeld (fun hHeld6 => ?_)
          clear hK K hHeld
          refine norm_ (a' := ?_) ?_ ?_
          rotate_left
          · show Act.put _ (some 24) _ = _
            simp only [Act.put, List.setIfInBounds_toArray, List.set_cons_zero, List.set_cons_succ, i64_w, i32_w]
            rfl
          refine pure_ (i := 7) (N := some 25) (v := ?_) (a' := ?_) #[true, true, true, true, true, true, true, true, false, false] rfl rfl (by kernel_rfl) (fun _ _ _ h => h) (Or.inl ⟨by rfl, ?_⟩) ?_ ?_
          rotate_left
          · intro w'
            go_simp
            with_reducible rfl
          rotate_left
          · simp only [Act.put, List.setIfInBounds_toArray, List.set_cons_zero, List.set_cons_succ, i64_w, i32_w]
            rfl
          refine pure_ (i := 8) (N := some 26) (v := ?_) (a' := ?_) #[true, true, true, true, true, true, true, true, true, false] rfl rfl (by kernel_rfl) (fun _ _ _ h => h) (Or.inl ⟨by rfl, ?_⟩) ?_ ?_
          rotate_left
          · intro w'
            go_simp
            with_reducible rfl
          rotate_left
          · simp only [Act.put, List.setIfInBounds_toArray, List.set_cons_zero, List.set_cons_succ, i64_w, i32_w]
            rfl
          refine pure_ (i := 9) (N := some 6) (v := ?_) (a' := ?_) #[true, true, true, true, true, true, true, true, true, true] rfl rfl (by kernel_rfl) (fun _ _ _ h => h) (Or.inl ⟨by rfl, ?_⟩) ?_ ?_
          rotate_left
          · intro w'
            go_simp
            with_reducible rfl
          rotate_left
          · simp only [Act.put, List.setIfInBounds_toArray, List.set_cons_zero, List.set_cons_succ, i64_w, i32_w]
            rfl
          refine done_ (by kernel_rfl) ?_
          obtain ⟨ib, hib⟩ : ∃ ib, ib = bn / pw % 2 := ⟨_, rfl⟩
          have hq1 : bn / pw ≤ bn := Nat.div_le_self _ _
          have hin : Int.tmod (IntKind.u32.wrap (Int.tdiv (IntKind.u32.wrap (bn : Int)) (pw : Int))) 2 = (ib : Int) := by
            rw [IntKind.wrap_u32, IntKind.wrap_u32, show ((bn : Int) % 4294967296) = (bn : Int) by omega, Int.tdiv_eq_ediv_of_nonneg (Int.natCast_nonneg _), ← Int.natCast_ediv, hib]
            generalize bn / pw = q at hq1 ⊢
            rw [show ((q : Int) % 4294967296) = (q : Int) by omega, Int.tmod_eq_emod_of_nonneg (Int.natCast_nonneg _)]
            omega
          have HN2 := Lib.hid HJ.out.2.2.2
          have hn2 := HN2.out
          obtain ⟨lo, hlo⟩ : ∃ lo, lo = n2 % 2 := ⟨_, rfl⟩
          obtain ⟨hf, hhf⟩ : ∃ hf, hf = n2 / 2 := ⟨_, rfl⟩
          have e1 : Int.tmod (n2 : Int) 2 = (lo : Int) := by rw [Int.tmod_eq_emod_of_nonneg (by omega)]; omega
          have e2 : IntKind.u32.wrap (Int.tdiv (n2 : Int) 2) = (hf : Int) := by rw [IntKind.wrap_u32, Int.tdiv_eq_ediv_of_nonneg (by omega)]; omega
          have e3 : (Int.tdiv (n2 : Int) 2) % 4294967296 = (hf : Int) := by rw [Int.tdiv_eq_ediv_of_nonneg (by omega)]; omega
          have hst : CrcM.refB (8 - j) n2 (bn / 2 ^ j) = CrcM.refB (8 - (j + 1)) (if ib ≠ lo then hf ^^^ CrcM.P else hf) (bn / 2 ^ (j + 1)) := by
            rw [show 8 - j = (8 - (j + 1)) + 1 by omega, CrcM.refB, hib, hlo, hhf, ← HPW.out, Nat.pow_succ, Nat.div_div_eq_div_mul]
          have HW3 : Hid (Below w.heap.size w wr.drew) := Lib.hid hHeld6.2
          have hhf32 : hf < 2147483648 := by omega
          obtain ⟨z, hz⟩ : ∃ z, z = hf ^^^ CrcM.P := ⟨_, rfl⟩
          have hxr : bits BinOp.xor IntKind.u32 (hf : Int) 2197175160 = (z : Int) := by
            have := u32_xor_nat hf 2197175160 (by omega) (by omega)
            rw [show ((2197175160 : Nat) : Int) = 2197175160 from rfl] at this
            rw [this, hz]; rfl
          have hxr2 : bits BinOp.xor IntKind.u32 ((n2 : Int) / 2 % 4294967296) 2197175160 = (z : Int) := by rw [show ((n2 : Int) / 2 % 4294967296) = (hf : Int) by omega]; exact hxr
          have hz32 : z < 4294967296 := by rw [hz]; exact Nat.xor_lt_two_pow (n := 32) (by omega) (by unfold CrcM.P; omega)
          by_cases hc : ib = lo
          · have HST : Hid (CrcM.refB 8 n bn = CrcM.refB (8 - (j + 1)) hf (bn / 2 ^ (j + 1)) ∧ hf < 4294967296) := Lib.hid ⟨HJ.out.2.2.1.trans (hst.trans (by rw [if_neg (by omega)])), by omega⟩
            have f1 : ((ib : Int) != (lo : Int)) = false := bne_eq_false_iff_eq.2 (by omega)
            have f2 : ((ib : Int) == (lo : Int)) = true := beq_iff_eq.2 (by omega)
            have f3 : (ib == lo) = true := beq_iff_eq.2 hc
            have f4 : (ib != lo) = false := bne_eq_false_iff_eq.2 hc
            rw [hin] at *
            clear hin hst hxr hxr2 hz hz32 hq1 hib hlo hhf hc hn2 hhf32 hHeld6 k0 p0 p1 p2 hpp
            generalize wr.drew = w7 at HW3 ⊢
            go_wp2
            go_roundg (8 - j)
            case measure => have := HJ.out; omega
            case rel => exact ⟨j + 1, hf, by first | rfl | exact congrArg _ e2 | exact congrArg _ e3, by go_num, Lib.hid ⟨by omega, by omega, HST.out.1, HST.out.2⟩, HW3⟩
          · have HST : Hid (CrcM.refB 8 n bn = CrcM.refB (8 - (j + 1)) z (bn / 2 ^ (j + 1)) ∧ z < 4294967296) := Lib.hid ⟨HJ.out.2.2.1.trans (hst.trans (by rw [if_pos hc, hz])), hz32⟩
            have f1 : ((ib : Int) != (lo : Int)) = true := bne_iff_ne.2 (by omega)
            have f2 : ((ib : Int) == (lo : Int)) = false := beq_eq_false_iff_ne.2 (by omega)
            have f3 : (ib == lo) = false := beq_eq_false_iff_ne.2 hc
            have f4 : (ib != lo) = true := bne_iff_ne.2 hc
            rw [hin] at *
            clear hin hst hz hz32 hq1 hib hlo hhf hc hn2 hhf32 hHeld6 k0 p0 p1 p2 hpp
            generalize wr.drew = w7 at HW3 ⊢
            go_wp2
            go_roundg (8 - j)
            case measure => have := HJ.out; omega
            case rel => exact ⟨j + 1, z, by first | rfl | exact congrArg _ hxr | exact congrArg _ hxr2, by go_num, Lib.hid ⟨by omega, by omega, HST.out.1, HST.out.2⟩, HW3⟩
        · have hj8 : j = 8 := by have := HJ.out; omega
          subst hj8
          have HN : Hid (n2 = CrcM.crc CrcM.M (nats (l.take (i + 1)))) := Lib.hid (by
            rw [HB2.out, CrcM.crc_app, ← HI.out.2.2]
            show n2 = CrcM.crcB n bn
            rw [← CrcM.ref8 hbn, HJ.out.2.2.1]
            rfl)
          clear HCL
          go_wp2
          go_roundg (m - i)
          case measure => have := HI.out; omega
          case rel => exact ⟨i + 1, n2, rfl, by go_num, Lib.hid ⟨by omega, by omega, HN.out⟩, HW2⟩
    · have him : i = m := by have := HI.out; omega
      have HS : Hid (n < 4294967296 ∧ sumI l = 4294967295 - n) := Lib.hid (by
        have h := HI.out.2.2
        rw [him, HM.out, List.take_length] at h
        have h32 : n < 4294967296 := by rw [h]; exact CrcM.crc_lt _ (by decide) (nats_lt HLT.out)
        refine ⟨h32, ?_⟩
        unfold sumI CrcM.sum
        rw [← h, CrcM.compl h32]
        rfl)
      have hns := HS.out.1
      clear him
      have e5 : IntKind.u32.wrap (4294967295 - (n : Int)) = ((sumI l : Nat) : Int) := by rw [IntKind.wrap_u32, HS.out.2]; omega
      have e6 : (4294967295 - (n : Int)) % 4294967296 = ((sumI l : Nat) : Int) := by rw [HS.out.2]; omega
      go_wp2
      go_ret
      exact ⟨congrArg (fun z => Ending.returned (Value.int .u32 z)) (by first | rfl | exact e5 | exact e6), HW.out⟩
end Go.Proofs.YtfcofokbhhnfkaaDoor.Byt
