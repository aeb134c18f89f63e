/- geyserref15's Add by its contract. Conditions: bytes as they may be read. -/
import Derived.Test.YtfcofokbhhnfkaaDoorRsm
namespace Go.Proofs.YtfcofokbhhnfkaaDoor.Byt
set_option linter.unusedSimpArgs false
set_option linter.unusedVariables false
open Go.RowKit Go.Deep Go.Proofs.YtfcofokbhhnfkaaDoor.Er Go.Proofs.YtfcofokbhhnfkaaDoorW.PrintWords Go.Proofs.YtfcofokbhhnfkaaDoorW.PrintLast Go.Proofs.YtfcofokbhhnfkaaDoorW.PrintMore
set_option maxHeartbeats 4000000 in
set_option maxRecDepth 100000 in
theorem radd_calls {D : Nat → Prop} (w : World) (v : Value) (l : List Int) (hl : RdB D w v l) (hD : ∀ k, D k → k < w.heap.size) (hlen : l.length + 4 ≤ 140737488355328) :
    Calls Tryd.prog 28 #[v] w fun e w' => ∃ v', e = .returned v' ∧ OB w.heap.size w' v' (addI l) ∧ Below w.heap.size w w' := by
  have HR := Lib.hid hl
  have HD := Lib.hid hD
  obtain ⟨A, c, rfl, hc1, hc2, hlt, _⟩ := hl
  obtain ⟨m, hm⟩ : ∃ m, m = l.length := ⟨_, rfl⟩
  have HM := Lib.hid hm
  have HLEN := Lib.hid hlen
  obtain ⟨S, hS⟩ : ∃ S, S = sumI l := ⟨_, rfl⟩
  have HS : Hid (sumI l = S) := Lib.hid hS.symm
  have hS32 : S < 4294967296 := by rw [hS]; exact CrcM.sum_lt (nats_lt hlt)
  rw [← hm] at HR hc1 hc2 ⊢
  clear hm hD hlt hlen hS
  go_enter Tryd.func28, Tryd.ntmps28
  go_upto_region 2 with (first | (go_at_call 46; refine (rsum_calls w _ l HR.out HD.out).mono ?_; rw [HS.out]; rintro e w2 ⟨rfl, hb⟩; have HB2 := Lib.hid hb; clear hb))
  have HC1 : Hid (RdB D (w2.alloc (.cells #[] 5)) (.slice A m c) l) := Lib.hid (HR.out.keep (fun k hk => (HB2.out.alloc HB2.out.size _).block k (HD.out k hk)))
  have HC3 : Hid (w.heap.size ≤ (w2.alloc (.cells #[] 5)).heap.size) := Lib.hid (by have := HB2.out.size; simp; omega)
  go_upto_region 3 with (first
    | (at_builtin
       refine wp_copyO w.heap.size rfl (.tmp 7) (.tmp 8) rfl rfl rfl HC1.out (heap_new _ _) HB2.out.size HC3.out ?_
       rw [← HM.out]
       intro A5 c5 w5 hO hF
       have HB5 : Hid (Below w.heap.size w w5) := Lib.hid (hF.below (HB2.out.alloc HB2.out.size _) HC3.out (fun k e => by have := HB2.out.size; omega))
       have HO5 := Lib.hid hO
       clear hO hF))
  obtain ⟨xs, hxs⟩ : ∃ xs : List Int, xs = [(S : Int) % 256, (S : Int) / 256 % 256, (S : Int) / 65536 % 256, (S : Int) / 16777216] := ⟨_, rfl⟩
  have HXS := Lib.hid hxs
  have HX4 : Hid (xs.length = 4 ∧ xs ≠ [] ∧ ∀ x ∈ xs, 0 ≤ x ∧ x < 256) := Lib.hid (by
    rw [hxs]
    refine ⟨rfl, by simp, fun x hx => ?_⟩
    simp only [List.mem_cons, List.not_mem_nil, or_false] at hx
    rcases hx with rfl | rfl | rfl | rfl <;> omega)
  have HLE : Hid (l ++ xs = addI l) := Lib.hid (by
    have h4 : le4 S = xs := by
      rw [hxs]
      show [((S % 256 : Nat) : Int), ((S / 256 % 256 : Nat) : Int), ((S / 256 / 256 % 256 : Nat) : Int), ((S / 256 / 256 / 256 % 256 : Nat) : Int)] = _
      simp only [List.cons.injEq, and_true]
      refine ⟨by omega, by omega, by omega, by omega⟩
    unfold addI
    rw [HS.out, h4])
  have HW6 : Hid (∀ b6 : Nat, b6 = w5.heap.size → (w5.alloc (.cells (xs.map (Value.int .u8)).toArray 5)).heap[b6]? = some (.cells (xs.map (Value.int .u8)).toArray 5 (0, 0)) ∧ Below w5.heap.size w5 (w5.alloc (.cells (xs.map (Value.int .u8)).toArray 5))) := Lib.hid (fun b6 e => by rw [e]; exact ⟨heap_new _ _, (Below.refl _ _).alloc (Nat.le_refl _) _⟩)
  have HRX : Hid (RdB (fun _ => True) (w5.alloc (.cells (xs.map (Value.int .u8)).toArray 5)) (.slice (some ⟨w5.heap.size, 0, none⟩) xs.length xs.length) xs) := Lib.hid (rd_lit (HW6.out _ rfl).1 trivial (by rw [HX4.out.1]; decide) HX4.out.2.2)
  have HA6 : Hid (OB w.heap.size (w5.alloc (.cells (xs.map (Value.int .u8)).toArray 5)) (.slice A5 m c5) l ∧ w.heap.size ≤ (w5.alloc (.cells (xs.map (Value.int .u8)).toArray 5)).heap.size ∧ Below w.heap.size w (w5.alloc (.cells (xs.map (Value.int .u8)).toArray 5))) := Lib.hid ⟨HO5.out.below (HW6.out _ rfl).2, (HB5.out.trans ((HW6.out _ rfl).2.mono HB5.out.size)).size, HB5.out.trans ((HW6.out _ rfl).2.mono HB5.out.size)⟩
  clear HW6
  rw [hxs] at HRX HA6
  have HLX : Hid (l.length + [(S : Int) % 256, (S : Int) / 256 % 256, (S : Int) / 65536 % 256, (S : Int) / 16777216].length ≤ 140737488355328) := Lib.hid HLEN.out
  clear hxs
  go_wp2_with (first
    | (at_builtin
       refine wp_appendO w.heap.size rfl (.tmp 10) (.tmp 25) rfl rfl rfl HA6.out.1 HRX.out (by simp) HLX.out HA6.out.2.1 ?_
       rw [← HXS.out, HLE.out]
       intro A7 c7 w7 hO7 hF7
       have HE := Lib.hid (And.intro hO7 (HA6.out.1.bel hF7 HA6.out.2.2 HA6.out.2.1))
       clear hO7 hF7))
  go_ret
  exact ⟨_, rfl, HE.out.1, HE.out.2⟩
end Go.Proofs.YtfcofokbhhnfkaaDoor.Byt
