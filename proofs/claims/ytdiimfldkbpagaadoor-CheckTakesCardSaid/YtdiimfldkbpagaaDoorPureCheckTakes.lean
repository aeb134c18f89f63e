/- CheckTakes (P15.1): what any bytes are with their sum, or why nothing, as the reference says. Conditions: none. -/
import Derived.Test.YtdiimfldkbpagaaDoorRadCheckTakes
import Derived.Test.YtdiimfldkbpagaaDoorTells15
namespace Go.Proofs.YtdiimfldkbpagaaDoor.Pure
open Go.RowKit Go.Proofs.YtdiimfldkbpagaaDoor.QCheckTakes Go.Proofs.YtdiimfldkbpagaaDoorW.PrintWords Go.Proofs.YtdiimfldkbpagaaDoorW.PrintLast Go.Proofs.YtdiimfldkbpagaaDoorW.PrintMore Go.Proofs.YtdiimfldkbpagaaDoor.Kit Go.Proofs.YtdiimfldkbpagaaDoor.Er Go.Proofs.YtdiimfldkbpagaaDoor.Tells Go.Proofs.YtdiimfldkbpagaaDoor.CrcM Go.Proofs.YtdiimfldkbpagaaDoor.CheCheckTakes Go.Proofs.YtdiimfldkbpagaaDoor.RefCheckTakes Go.Proofs.YtdiimfldkbpagaaDoor.RadCheckTakes

theorem tells_two : tells.f (some ([takeW], 2)) 2 takeW = some true := by decide +kernel
theorem tells_six : tells.f (some ([takeW], 6)) 6 takeW = some true := by decide +kernel
theorem tells_ok : tells.f none 0 takeW = some true := by decide +kernel
theorem ref_short (N : List Nat) (h : N.length < 4) : Ev (fun k => geyserref15_Take.f k (li N)) ([], 2) := by
  unfold geyserref15_Take.f
  exact EvT (by rw [li_len]; omega) (EvK rfl)
theorem ref_long (N : List Nat) (hN : ∀ x ∈ N, x < 256) (h : 4 ≤ N.length) (hl : N.length < 140737488355328) :
    Ev (fun k => geyserref15_Take.f k (li N)) (if add (N.take (N.length - 4)) = N then (li (N.take (N.length - 4)), 0) else ([], 6)) := by
  have e : wrap64 (((li N).length : Int) - 4) = ((N.length - 4 : Nat) : Int) := by rw [li_len, w64 ⟨by omega, by omega⟩]; omega
  have e2 : (((N.length - 4 : Nat) : Int)).toNat = N.length - 4 := by omega
  have hl2 : (N.take (N.length - 4)).length = N.length - 4 := by rw [List.length_take]; omega
  unfold geyserref15_Take.f
  refine EvF (by rw [li_len]; omega) ?_
  rw [e, e2, take_li]
  refine EvT (by omega) (EvT (by rw [li_len]; omega) (Ev.bind (ref_add _ (take_lt hN _) (by rw [hl2]; omega)) ?_))
  by_cases c : add (N.take (N.length - 4)) = N
  · rw [if_pos c]
    exact EvT ((str_eq (add_lt (take_lt hN _)) hN).2 c) (EvK rfl)
  · rw [if_neg c]
    exact EvF (fun h => c ((str_eq (add_lt (take_lt hN _)) hN).1 h)) (EvK rfl)
theorem loop (N : List Nat) (B : List Int) (E : Option Er) (fin : Ev (fun k => (geyserref15_Take.f k (li N)).bind fun bt => ((tells.f E bt.2 takeW).bind fun t => (if t = true then (if (strOfNums B).toList = (strOfNums bt.1).toList then ((geyserlaw15_awake.f k).bind fun t2 => (some t2)) else (some false)) else (some false)))) true) :
    ∀ (d p : Nat) (X : List Int), X.length = p + d → p + d ≤ 140737488355328 → Ev (fun k => geyserlaw15_CheckTakes.l0 k (li N) X B E (p : Int)) true
  | 0, p, X, hX, _ => Ev.step (fun k => geyserlaw15_CheckTakes.l0.eq_2 (li N) X B E (p : Int) k) (EvF (by omega) fin)
  | d + 1, p, X, hX, hp => by
    refine Ev.step (fun k => geyserlaw15_CheckTakes.l0.eq_2 (li N) X B E (p : Int) k) (EvT (by omega) (EvT (by omega) ?_))
    rw [w64 (n := (p : Int) + 1) (by omega)]
    exact loop N B E fin d (p + 1) _ (by rw [List.length_set]; omega) (by omega)
theorem CheckTakes : geyserlaw15_CheckTakes.Pure := by
  intro l _ h1 h2
  obtain ⟨N, rfl, hN⟩ := li_of h2
  rw [li_len] at h1
  refine Ev.rounds ?_
  unfold geyserlaw15_CheckTakes.f
  refine EvC rfl (EvT (by rw [li_len]; simp; omega) (EvC rfl ?_))
  by_cases c : N.length < 4
  · refine Ev.bind (take_short N c) ?_
    have := loop N [] (some ([takeW], 2)) (Ev.bind (ref_short N c) (EvC tells_two (EvT rfl (EvT rfl (Ev.bind awake_ev (Ev.now true)))))) N.length 0 (li N) (by rw [li_len]; omega) (by omega)
    exact this
  · refine Ev.bind (take_long N hN (by omega) (by omega)) ?_
    have hr := ref_long N hN (by omega) (by omega)
    by_cases e : add (N.take (N.length - 4)) = N
    · rw [if_pos e] at hr ⊢
      have := loop N (li (N.take (N.length - 4))) none (Ev.bind hr (EvC tells_ok (EvT rfl (EvT rfl (Ev.bind awake_ev (Ev.now true)))))) N.length 0 (li N) (by rw [li_len]; omega) (by omega)
      exact this
    · rw [if_neg e] at hr ⊢
      have := loop N [] (some ([takeW], 6)) (Ev.bind hr (EvC tells_six (EvT rfl (EvT rfl (Ev.bind awake_ev (Ev.now true)))))) N.length 0 (li N) (by rw [li_len]; omega) (by omega)
      exact this
end Go.Proofs.YtdiimfldkbpagaaDoor.Pure
