/- ParamsChooses (P8.1): of any two numbers, params.Choose answers as the reference does, or ErrRange just where the first is not from 0 to 60; the 1891 ways within are computed. Conditions: none. -/
import Derived.Test.YtnlkeeaoknbmbaaDoorParParamsChooses
import Derived.Test.YtnlkeeaoknbmbaaDoorTells08
namespace Go.Proofs.YtnlkeeaoknbmbaaDoor.Pure
open Go.RowKit Go.Proofs.YtnlkeeaoknbmbaaDoor.QParamsChooses Go.Proofs.YtnlkeeaoknbmbaaDoorW.PrintWords Go.Proofs.YtnlkeeaoknbmbaaDoorW.PrintLast Go.Proofs.YtnlkeeaoknbmbaaDoorW.PrintMore Go.Proofs.YtnlkeeaoknbmbaaDoor.Kit Go.Proofs.YtnlkeeaoknbmbaaDoor.Er Go.Proofs.YtnlkeeaoknbmbaaDoor.ParParamsChooses Go.Proofs.YtnlkeeaoknbmbaaDoor.Tells

theorem tells_one (w : ByteArray) : tells.f (some ([w], 1)) 1 w = some true := by
  unfold tells.f
  rw [if_neg (by decide)]
  simp
/-- The reference's answers against the triangle's rows, row after row. -/
def rows : Nat → Nat → List Int → Bool
  | 0, _, _ => true
  | f + 1, n, row => (List.range (n + 1)).all (fun k => geyserref08_Choose.f 40 (n : Int) (k : Int) == some (row.getD k 0)) && rows f (n + 1) (Choose.next row)
theorem rows_spec : ∀ (f n : Nat), rows f n (Choose.row n) = true → ∀ m, n ≤ m → m < n + f → ∀ k, k ≤ m → geyserref08_Choose.f 40 (m : Int) (k : Int) = some (Choose.R m k)
  | 0, n, _, m, h1, h2, _, _ => by omega
  | f + 1, n, h, m, h1, h2, k, hk => by
    unfold rows at h
    rw [Bool.and_eq_true] at h
    by_cases hm : m = n
    · subst hm
      exact beq_iff_eq.1 (List.all_eq_true.1 h.1 k (List.mem_range.2 (by omega)))
    · exact rows_spec f (n + 1) h.2 m (by omega) (by omega) k hk
set_option maxRecDepth 100000 in
theorem rows_all : rows 61 0 (Choose.row 0) = true := by decide +kernel
def chooseW : ByteArray := ⟨#[112, 97, 114, 97, 109, 115, 46, 67, 104, 111, 111, 115, 101]⟩
theorem choose_bad {n k : Int} (h : n < 0 ∨ n > 60) : Choose.f n k = some (0, some ([chooseW], 1)) := by
  unfold Choose.f
  by_cases h1 : n < 0
  · rw [if_pos h1]; rfl
  · rw [if_neg h1, if_pos (by omega)]; rfl
theorem ref_out {n k : Int} (h : k < 0 ∨ k > n) : Ev (fun r => geyserref08_Choose.f r n k) 0 := by
  have hj : Ev (fun r => geyserref08_Choose.j0 r n k true) 0 := Ev.step (fun r => geyserref08_Choose.j0.eq_2 n k true r) (EvT rfl (EvK rfl))
  unfold geyserref08_Choose.f
  by_cases h1 : k < 0
  · exact EvT h1 hj
  · refine EvF h1 ?_
    rw [decide_eq_true (by omega)]
    exact hj
theorem ParamsChooses : geyserlaw08_ParamsChooses.Pure := by
  intro n k _ _
  refine Ev.rounds ?_
  unfold geyserlaw08_ParamsChooses.f
  by_cases h : n < 0 ∨ n > 60
  · have hj : Ev (fun r => geyserlaw08_ParamsChooses.j0 r n k 0 (some ([chooseW], 1)) true) true :=
      Ev.step (fun r => geyserlaw08_ParamsChooses.j0.eq_2 n k 0 _ true r) (EvT rfl (EvC (tells_one _) (EvT rfl (EvT rfl (Ev.bind awake_ev (Ev.now true))))))
    refine EvC (choose_bad h) ?_
    by_cases h1 : n < 0
    · exact EvT h1 hj
    · refine EvF h1 ?_
      rw [decide_eq_true (by omega)]
      exact hj
  · obtain ⟨m, rfl⟩ : ∃ m : Nat, n = m := ⟨n.toNat, by omega⟩
    have hv : ∃ v, Choose.f (m : Int) k = some (v, none) ∧ Ev (fun r => geyserref08_Choose.f r (m : Int) k) v := by
      by_cases h2 : k < 0 ∨ k > m
      · exact ⟨0, choose_out m k (by omega) (by omega) h2, ref_out h2⟩
      · obtain ⟨j, rfl⟩ : ∃ j : Nat, k = j := ⟨k.toNat, by omega⟩
        exact ⟨_, choose_ok m j (by omega) (by omega), Ev.of (geyserref08_Choose.mono _ _) (rows_spec 61 0 rows_all m (by omega) (by omega) j (by omega))⟩
    obtain ⟨v, e1, e2⟩ := hv
    refine EvC e1 (EvF (by omega) ?_)
    rw [decide_eq_false (by omega)]
    exact Ev.step (fun r => geyserlaw08_ParamsChooses.j0.eq_2 m k v none false r) (EvF (by decide) (EvT rfl (Ev.bind e2 (EvT rfl (Ev.bind awake_ev (Ev.now true))))))
end Go.Proofs.YtnlkeeaoknbmbaaDoor.Pure
