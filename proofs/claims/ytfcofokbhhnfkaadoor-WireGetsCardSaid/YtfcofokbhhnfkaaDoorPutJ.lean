/- wire.Put by its contract, of any packet. Conditions: bytes as they may be read. -/
import Derived.Test.YtfcofokbhhnfkaaDoorPut
namespace Go.Proofs.YtfcofokbhhnfkaaDoor.Byt
set_option linter.unusedSimpArgs false
set_option linter.unusedVariables false
open Go.RowKit Go.Deep Go.Proofs.YtfcofokbhhnfkaaDoor.Er Go.Proofs.YtfcofokbhhnfkaaDoorW.PrintWords Go.Proofs.YtfcofokbhhnfkaaDoorW.PrintLast
set_option maxHeartbeats 4000000 in
set_option maxRecDepth 100000 in
theorem Put_bad (p : Pk) (A : Option Addr) (L c : Nat) (w : World) (hL : L = p.data.length) (h : ¬ whyP p = 0) :
    Calls Tryd.prog 12 #[pkV p (.slice A L c)] w fun e w' => ∃ ev, e = .returned (.tuple #[.slice none 0 0, ev]) ∧ ErR w' ev (some ([putN, ckN], whyP p)) ∧ Below w.heap.size w w' := by
  have HL := Lib.hid hL
  obtain ⟨n, hn⟩ : ∃ n, n = whyP p := ⟨_, rfl⟩
  have HN := Lib.hid hn
  rw [← hn] at h ⊢
  have HE0 : Hid (er ckN n = some ([ckN], n)) := Lib.hid (if_neg h)
  clear hL hn h
  go_enter Tryd.func12, Tryd.ntmps12
  go_wp2_with (first
    | ((with_reducible refine gate_dst (N := 1) rfl ?_); refine wp_box rfl (.tmp 0) rfl rfl rfl ?_; intro w1 hP hB hs; have HP := Lib.hid hP; have HB := Lib.hid hB; clear hP hB hs)
    | ((with_reducible refine gate_dst (N := 6) rfl ?_); refine wp_ldpk rfl (.tmp 1) rfl rfl HP.out ?_)
    | (go_at_call 8
       refine (Check_calls p A L c _ HL.out).mono ?_
       rw [← HN.out, HE0.out]
       rintro e w2 ⟨ev, rfl, h1, h2⟩
       have HE := Lib.hid (And.intro h1 (HB.out.trans (h2.mono HB.out.size)))
       obtain ⟨a, rfl⟩ := ErR_ptr h1
       clear h1 h2)
    | (go_at_call 24; refine (fault_Wrap.calls putN _ (some ([ckN], n)) (some ([putN, ckN], n)) _ HE.out.1 rfl).mono ?_; rintro e w3 ⟨ev, rfl, h1, h2⟩; have HE3 := Lib.hid (And.intro h1 h2); clear h1 h2))
  go_ret2
  exact ⟨_, rfl, HE3.out.1, HE.out.2.trans (HE3.out.2.mono HE.out.2.size)⟩
theorem Put_calls {D : Nat → Prop} (p : Pk) (v : Value) (w : World) (hr : RdB D w v p.data) (hD : ∀ k, D k → k < w.heap.size) :
    Calls Tryd.prog 12 #[pkV p v] w fun e w' => ∃ v' ev, e = .returned (.tuple #[v', ev]) ∧ ErR w' ev (putR p) ∧ OB w.heap.size w' v' (putL p) ∧ Below w.heap.size w w' := by
  have hr' := hr
  obtain ⟨A, c, rfl, _, _, _, _⟩ := hr
  by_cases h : whyP p = 0
  · have e1 : putR p = none := if_pos h
    have e2 : putL p = addI (bodyI p) := if_pos h
    rw [e1, e2]
    have hR : RangeOk p := by
      by_cases r : RangeOk p
      · exact r
      · exfalso; unfold whyP at h; rw [if_neg r] at h; cases h
    obtain ⟨kind, sess, layer, tick, burst, sync, many, place, block, esi, data, size, sym, blocks, long, short, layers, esis, base, len⟩ := p
    by_cases hk : kind = 1
    · have hF : DataF (Pk.mk kind sess layer tick burst sync many place block esi data size sym blocks long short layers esis base len) := by
        refine Decidable.byContradiction fun hn => ?_
        unfold whyP at h
        rw [if_pos hR, if_pos hk, if_neg hn] at h
        cases h
      have hs : -1 ≤ sync ∧ sync ≤ 7 := by
        rcases hR.2.2.2 with q | q
        · exact q.2.1
        · exact absurd q.1 (by show ¬ kind = 2; omega)
      exact Put_data A data.length c w hr' hD rfl hk h hs hF.1
    · have hs : -9223372036854775808 ≤ esis - 1 ∧ esis - 1 ≤ 9223372036854775807 := by
        rcases hR.2.2.2 with q | q
        · exact absurd q.1 hk
        · have := q.2.2.2.2.1
          simp only at this
          omega
      exact Put_ann A data.length c w hr' hD rfl hk h hs
  · have e1 : putR p = some ([putN, ckN], whyP p) := if_neg h
    have e2 : putL p = [] := if_neg h
    rw [e1, e2]
    refine (Put_bad p A p.data.length c w rfl h).mono ?_
    rintro e w' ⟨ev, he, h1, h2⟩
    exact ⟨_, ev, he, h1, OB.nil _ _, h2⟩
end Go.Proofs.YtfcofokbhhnfkaaDoor.Byt
