/- MixRows (P6.2): for every x, bound and number n, mix.Row tells n numbers below the bound as the reference does, or ErrRange of mix.Row, just where the reference refuses (the statement itself says nothing of n from 201 to 4096). Conditions: none. -/
import Derived.Test.YtakhbcmhfgjocaaDoorMixMixRows
namespace Go.Proofs.YtakhbcmhfgjocaaDoor.Pure
open Go.RowKit Go.Proofs.YtakhbcmhfgjocaaDoor.QMixRows Go.Proofs.YtakhbcmhfgjocaaDoorW.PrintWords Go.Proofs.YtakhbcmhfgjocaaDoorW.PrintLast Go.Proofs.YtakhbcmhfgjocaaDoorW.PrintMore Go.Proofs.YtakhbcmhfgjocaaDoor.MixM Go.Proofs.YtakhbcmhfgjocaaDoor.Kit Go.Proofs.YtakhbcmhfgjocaaDoor.Er Go.Proofs.YtakhbcmhfgjocaaDoor.Tells Go.Proofs.YtakhbcmhfgjocaaDoor.MixMixRows

def rowW : ByteArray := ⟨#[109, 105, 120, 46, 82, 111, 119]⟩
theorem tells_ok (w : ByteArray) : tells.f none 0 w = some true := rfl
theorem tells_one : tells.f (some ([rowW], 1)) 1 rowW = some true := by decide +kernel
theorem tells_two : tells.f (some ([rowW, belowW], 1)) 1 rowW = some true := by decide +kernel
def vals (x : Nat) (m : Int) (n : Nat) : List Int := (List.range n).map fun i => ((nmix x i : Nat) : Int) % m
theorem vals_len (x : Nat) (m : Int) (n : Nat) : (vals x m n).length = n := by simp [vals]
theorem vals_succ (x : Nat) (m : Int) (n : Nat) : vals x m (n + 1) = vals x m n ++ [((nmix x n : Nat) : Int) % m] := by simp [vals, List.range_succ]
theorem vals_rd (x : Nat) (m : Int) (n i : Nat) (h : i < n) : rd (vals x m n) (i : Int) = ((nmix x i : Nat) : Int) % m := by
  have e : ((i : Int)).toNat = i := by omega
  simp [rd, vals, e, h]
theorem loop (x : Nat) (m : Int) (n N : Nat) (hN : N ≤ 4096) (hn : n ≤ N) (h1 : 1 ≤ m) (h2 : m ≤ 1048576) (d : Nat) : ∀ i : Nat, i ≤ N → N - i = d →
    Ev (fun k => mix_Row.l0 k (x : Int) m (n : Int) (vals x m i) (N : Int) (i : Int)) ((vals x m N).take n, none) := by
  induction d with
  | zero =>
    intro i hi hd
    obtain rfl : i = N := by omega
    refine Ev.step (fun k => mix_Row.l0.eq_2 (x : Int) m (n : Int) (vals x m i) (i : Int) (i : Int) k) (EvF (by omega) (EvT (by omega) (EvT ?_ (EvK ?_))))
    · rw [vals_len]; omega
    · rw [show ((n : Int)).toNat = n from by omega]
  | succ d ih =>
    intro i hi hd
    refine Ev.step (fun k => mix_Row.l0.eq_2 (x : Int) m (n : Int) (vals x m i) (N : Int) (i : Int) k) (EvT (by omega) ?_)
    rw [show (i : Int) % 4294967296 = (i : Int) from by omega, w64 (n := (i : Int) + 1) (by omega)]
    refine Ev.bind (below_ok x i m h1 h2) (EvT rfl (EvT ?_ ?_))
    · rw [vals_len]; omega
    · show Ev (fun k => mix_Row.l0 k (x : Int) m (n : Int) (vals x m i ++ [((nmix x i : Nat) : Int) % m]) (N : Int) ((i : Int) + 1)) _
      rw [← vals_succ]
      exact ih (i + 1) (by omega) (by omega)
theorem row_ok (x : Nat) (m : Int) (n : Nat) (hn : n ≤ 4096) (h1 : 1 ≤ m) (h2 : m ≤ 1048576) : Ev (fun k => mix_Row.f k (x : Int) m (n : Int)) (vals x m n, none) := by
  unfold mix_Row.f
  refine EvF (by omega) (Ev.step (fun k => mix_Row.j0.eq_2 (x : Int) m (n : Int) _ k) (EvF (by rw [decide_eq_true_iff]; omega) ?_))
  by_cases h : n = 0
  · subst h
    have := loop x m 0 1 (by omega) (by omega) h1 h2 1 0 (by omega) (by omega)
    exact this
  · have e : mx (n : Int) 1 = (n : Int) := by unfold mx; rw [if_neg (by omega)]
    rw [e]
    have := loop x m n n (by omega) (by omega) h1 h2 n 0 (by omega) (by omega)
    rw [List.take_of_length_le (by rw [vals_len]; omega)] at this
    exact this
theorem row_bad_n (x m n : Int) (h : n < 0 ∨ n > 4096) : Ev (fun k => mix_Row.f k x m n) ([], some ([rowW], 1)) := by
  unfold mix_Row.f
  by_cases h1 : n < 0
  · exact EvT h1 (Ev.step (fun k => mix_Row.j0.eq_2 x m n _ k) (EvT rfl (EvC rfl (EvK rfl))))
  · exact EvF h1 (Ev.step (fun k => mix_Row.j0.eq_2 x m n _ k) (EvT (decide_eq_true (by omega)) (EvC rfl (EvK rfl))))
theorem row_bad_m (x m n : Int) (h0 : 0 ≤ n) (h9 : n ≤ 4096) (h : m < 1 ∨ m > 1048576) : Ev (fun k => mix_Row.f k x m n) ([], some ([rowW, belowW], 1)) := by
  unfold mix_Row.f
  refine EvF (by omega) (Ev.step (fun k => mix_Row.j0.eq_2 x m n _ k) (EvF (by rw [decide_eq_true_iff]; omega) ?_))
  refine Ev.step (fun k => mix_Row.l0.eq_2 x m n _ _ _ k) (EvT (by unfold mx; split <;> omega) ?_)
  exact Ev.bind (below_bad x _ m h) (EvF (by decide) (EvC rfl (EvK rfl)))
theorem check_loop (x : Nat) (m : Int) (n : Nat) (hx : x < 4294967296) (hn : n ≤ 4096) (h1 : 1 ≤ m) (h2 : m ≤ 1048576) (d : Nat) : ∀ i : Nat, i ≤ n → n - i = d →
    Ev (fun k => geyserlaw06_MixRows.l0 k (x : Int) m (n : Int) (vals x m n) (i : Int)) true := by
  induction d with
  | zero =>
    intro i hi hd
    exact Ev.step (fun k => geyserlaw06_MixRows.l0.eq_2 (x : Int) m (n : Int) (vals x m n) (i : Int) k) (EvF (by omega) (Ev.bind awake_ev (Ev.now true)))
  | succ d ih =>
    intro i hi hd
    refine Ev.step (fun k => geyserlaw06_MixRows.l0.eq_2 (x : Int) m (n : Int) (vals x m n) (i : Int) k) (EvT (by omega) (EvT (by omega) (EvT (by rw [vals_len]; omega) ?_)))
    rw [show (i : Int) % 4294967296 = (i : Int) from by omega, w64 (n := (i : Int) + 1) (by omega)]
    exact EvC (ref_below x i m hx (by omega) h1 h2) (EvT (vals_rd x m n i (by omega)) (ih (i + 1) (by omega) (by omega)))
theorem j2_bad (x m n : Int) (e : Option Er) (h : tells.f e 1 rowW = some true) : Ev (fun k => geyserlaw06_MixRows.j2 k x m n [] e 1) true :=
  Ev.step (fun k => geyserlaw06_MixRows.j2.eq_2 x m n [] e 1 k) (EvC h (EvT rfl (EvF (by decide) (EvT rfl (Ev.bind awake_ev (Ev.now true))))))
theorem MixRows : geyserlaw06_MixRows.Pure := by
  intro a0 m n w0 _ _
  obtain ⟨x, rfl, hx⟩ := nat_of_u32 w0
  refine Ev.rounds ?_
  unfold geyserlaw06_MixRows.f
  have big : n > 200 → n ≤ 4096 → Ev (fun k => geyserlaw06_MixRows.j0 k (x : Int) m n true) true := fun _ _ =>
    Ev.step (fun k => geyserlaw06_MixRows.j0.eq_2 (x : Int) m n true k) (EvT rfl (Ev.bind awake_ev (Ev.now true)))
  have rest : ¬ (n > 200 ∧ n ≤ 4096) → Ev (fun k => geyserlaw06_MixRows.j0 k (x : Int) m n false) true := by
    intro hs
    refine Ev.step (fun k => geyserlaw06_MixRows.j0.eq_2 (x : Int) m n false k) (EvF (by decide) ?_)
    have j1t : ∀ (l : List Int) (e : Option Er) (c : Int), Ev (fun k => geyserlaw06_MixRows.j2 k (x : Int) m n l e 1) true → Ev (fun k => geyserlaw06_MixRows.j1 k (x : Int) m n l e c true) true := fun l e c h =>
      Ev.step (fun k => geyserlaw06_MixRows.j1.eq_2 (x : Int) m n l e c true k) (EvT rfl h)
    have j1f : ∀ (l : List Int) (e : Option Er) (c : Int), Ev (fun k => geyserlaw06_MixRows.j2 k (x : Int) m n l e c) true → Ev (fun k => geyserlaw06_MixRows.j1 k (x : Int) m n l e c false) true := fun l e c h =>
      Ev.step (fun k => geyserlaw06_MixRows.j1.eq_2 (x : Int) m n l e c false k) (EvF (by decide) h)
    obtain ⟨c, hc⟩ : ∃ c, geyserref06_Check.f m = some c := by
      by_cases h : m < 1 ∨ m > 1048576
      · exact ⟨_, check_bad h⟩
      · exact ⟨_, check_ok (by omega) (by omega)⟩
    by_cases hn : n < 0 ∨ n > 4096
    · refine Ev.bind (row_bad_n (x : Int) m n hn) (EvC hc ?_)
      by_cases h0 : n < 0
      · exact EvT h0 (j1t _ _ _ (j2_bad _ _ _ _ tells_one))
      · refine EvF h0 ?_
        rw [show decide (n > 4096) = true from decide_eq_true (by omega)]
        exact j1t _ _ _ (j2_bad _ _ _ _ tells_one)
    · by_cases h : m < 1 ∨ m > 1048576
      · obtain rfl := Option.some.inj (hc.symm.trans (check_bad h))
        refine Ev.bind (row_bad_m (x : Int) m n (by omega) (by omega) h) (EvC hc (EvF (by omega) ?_))
        rw [show decide (n > 4096) = false from decide_eq_false (by omega)]
        exact j1f _ _ _ (j2_bad _ _ _ _ tells_two)
      · obtain rfl := Option.some.inj (hc.symm.trans (check_ok (by omega) (by omega)))
        obtain ⟨n, rfl⟩ : ∃ k : Nat, n = (k : Int) := ⟨n.toNat, by omega⟩
        refine Ev.bind (row_ok x m n (by omega) (by omega) (by omega)) (EvC hc (EvF (by omega) ?_))
        rw [show decide ((n : Int) > 4096) = false from decide_eq_false (by omega)]
        refine j1f _ _ _ (Ev.step (fun k => geyserlaw06_MixRows.j2.eq_2 (x : Int) m n _ none 0 k) (EvC (tells_ok _) (EvT rfl (EvT rfl (EvT ?_ ?_)))))
        · show ((vals x m n).length : Int) = n
          rw [vals_len]
        · exact check_loop x m n hx (by omega) (by omega) (by omega) n 0 (by omega) (by omega)
  by_cases h1 : n > 200
  · refine EvT h1 ?_
    by_cases h2 : n ≤ 4096
    · rw [show decide (n ≤ 4096) = true from decide_eq_true h2]; exact big h1 h2
    · rw [show decide (n ≤ 4096) = false from decide_eq_false h2]; exact rest (fun h => h2 h.2)
  · exact EvF h1 (rest (fun h => h1 h.1))
end Go.Proofs.YtakhbcmhfgjocaaDoor.Pure
