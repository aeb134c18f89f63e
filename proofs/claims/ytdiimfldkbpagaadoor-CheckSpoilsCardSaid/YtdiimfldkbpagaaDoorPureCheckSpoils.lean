/- CheckSpoils (P15.2): any bytes, any bits of them turned, or why not, as the reference says; what came in stays. Conditions: none. -/
import Derived.Test.YtdiimfldkbpagaaDoorSpoCheckSpoils
import Derived.Test.YtdiimfldkbpagaaDoorPowCheckSpoils
import Derived.Test.YtdiimfldkbpagaaDoorTells15
namespace Go.Proofs.YtdiimfldkbpagaaDoor.Pure
open Go.RowKit Go.Proofs.YtdiimfldkbpagaaDoor.QCheckSpoils Go.Proofs.YtdiimfldkbpagaaDoorW.PrintWords Go.Proofs.YtdiimfldkbpagaaDoorW.PrintLast Go.Proofs.YtdiimfldkbpagaaDoorW.PrintMore Go.Proofs.YtdiimfldkbpagaaDoor.Kit Go.Proofs.YtdiimfldkbpagaaDoor.Er Go.Proofs.YtdiimfldkbpagaaDoor.Tells Go.Proofs.YtdiimfldkbpagaaDoor.CrcM Go.Proofs.YtdiimfldkbpagaaDoor.CheCheckSpoils Go.Proofs.YtdiimfldkbpagaaDoor.SpoCheckSpoils Go.Proofs.YtdiimfldkbpagaaDoor.PowCheckSpoils

theorem tells_two : tells.f (some ([spoilW], 2)) 2 spoilW = some true := by decide +kernel
theorem tells_ok : tells.f none 0 spoilW = some true := by decide +kernel
def rout (r : Option (List Nat)) : List Int × Int := match r with | none => ([], 2) | some Y => (li Y, 0)
theorem m256 {x : Nat} (h : x < 256) : (x : Int) % 256 = (x : Int) := by omega
theorem bit_ref {m i : Nat} (hm : m < 4294967296) : ((Int.tdiv (m : Int) ((2 ^ i : Nat) : Int)) % 4294967296) % 2 = ((m / 2 ^ i % 2 : Nat) : Int) := by
  have h2 : m / 2 ^ i ≤ m := Nat.div_le_self _ _
  rw [tdiv_pos (by omega), show ((m : Int) / ((2 ^ i : Nat) : Int)) = ((m / 2 ^ i : Nat) : Int) from (Int.natCast_ediv m (2 ^ i)).symm]
  omega
theorem r_loop (N : List Nat) (a m : Nat) (hm : m < 4294967296) (hl : N.length < 140737488355328) (ha : a < 8 * N.length) : ∀ (d i : Nat) (X : List Nat), i + d = 32 → X.length = N.length → (∀ x ∈ X, x < 256) →
    Ev (fun k => geyserref15_Spoil.l0 k (li N) (a : Int) (m : Int) (li X) (i : Int)) (rout (spo a m N.length d i X))
  | 0, i, X, hi, _, _ => Ev.step (fun k => geyserref15_Spoil.l0.eq_2 (li N) (a : Int) (m : Int) (li X) (i : Int) k) (EvF (by omega) (EvK rfl))
  | d + 1, i, X, hi, hX, hlt => by
    have hpw : (((2 ^ i : Nat)) : Int) ≠ 0 := by have := Nat.two_pow_pos i; omega
    refine Ev.step (fun k => geyserref15_Spoil.l0.eq_2 (li N) (a : Int) (m : Int) (li X) (i : Int) k) (EvT (by omega) (Ev.bind (pow_ev i (by omega)) (EvF hpw ?_)))
    rw [bit_ref hm, w64 (n := (i : Int) + 1) (by omega), li_len, w64 (n := 8 * (N.length : Int)) (by omega),
      show ((a : Int) + (i : Int)) = ((a + i : Nat) : Int) by omega, at_8 (by omega), tm_8 (by omega), w64 (n := ((a + i : Nat) : Int)) (by omega)]
    unfold spo
    by_cases c : m / 2 ^ i % 2 = 0
    · rw [if_pos c]
      exact EvF (by omega) (r_loop N a m hm hl ha d (i + 1) X (by omega) hX hlt)
    · rw [if_neg c]
      refine EvT (by omega) ?_
      by_cases c2 : a + i ≥ 8 * N.length
      · rw [if_pos c2]
        exact EvT (by omega) (EvK rfl)
      · rw [if_neg c2]
        have hk : (a + i) / 8 < X.length := by omega
        have hb : X.getD ((a + i) / 8) 0 < 256 := by
          rw [List.getD_eq_getElem?_getD, List.getElem?_eq_getElem hk]
          exact hlt _ (List.getElem_mem _)
        have h8 := p8 (t := (a + i) % 8) (by omega)
        refine EvF (by omega) (EvT (by omega) (EvT (by rw [li_len]; omega) (Ev.bind (pow_ev ((a + i) % 8) (by omega)) ?_)))
        rw [li_rd X _ hk, m256 h8, u8_xor_nat _ _ hb h8, show ((((a + i) / 8 : Nat) : Int)).toNat = (a + i) / 8 by omega, li_set]
        exact r_loop N a m hm hl ha d (i + 1) (turn X (a + i)) (by omega) (by rw [turn_len]; exact hX) (turn_lt hlt _)
theorem ref_spoil (N : List Nat) (hN : ∀ x ∈ N, x < 256) (hl : N.length < 140737488355328) (a m : Int) (hm : 0 ≤ m ∧ m < 4294967296) :
    Ev (fun k => geyserref15_Spoil.f k (li N) a m) (rout (spoil N a m)) := by
  have hj : Ev (fun k => geyserref15_Spoil.j0 k (li N) a m true) (rout none) := Ev.step (fun k => geyserref15_Spoil.j0.eq_2 (li N) a m true k) (EvT rfl (EvK rfl))
  unfold geyserref15_Spoil.f spoil
  rw [li_len, w64 (n := 8 * (N.length : Int)) (by omega)]
  by_cases c1 : a < 0
  · rw [if_pos (.inl c1)]
    exact EvT c1 hj
  refine EvF c1 ?_
  by_cases c2 : a ≥ 8 * (N.length : Int)
  · rw [if_pos (.inr (.inl c2))]
    exact EvT c2 hj
  refine EvF c2 ?_
  by_cases c3 : m = 0
  · rw [if_pos (.inr (.inr c3)), show (m == 0) = true from beq_iff_eq.2 c3]
    exact hj
  rw [if_neg (by omega), show (m == 0) = false from beq_eq_false_iff_ne.2 c3]
  refine Ev.step (fun k => geyserref15_Spoil.j0.eq_2 (li N) a m false k) (EvF (by decide) (EvC rfl (EvT (by rw [li_len]; simp; omega) ?_)))
  have := r_loop N a.toNat m.toNat (by omega) hl (by omega) 32 0 N rfl rfl hN
  rw [show ((a.toNat : Nat) : Int) = a by omega, show ((m.toNat : Nat) : Int) = m by omega] at this
  exact this
theorem CheckSpoils : geyserlaw15_CheckSpoils.Pure := by
  intro l a m _ h1 h2 _ h4
  obtain ⟨N, rfl, hN⟩ := li_of h2
  rw [li_len] at h1
  have hm := bounds_u32 h4
  refine Ev.rounds ?_
  unfold geyserlaw15_CheckSpoils.f
  refine EvC rfl (EvT (by rw [li_len]; simp; omega) (EvC rfl ?_))
  refine Ev.bind (spoil_ev N hN (by omega) a m (by omega)) (Ev.bind (ref_spoil N hN (by omega) a m (by omega)) ?_)
  cases hs : spoil N a m with
  | none => exact EvC tells_two (EvT rfl (EvT rfl (EvT rfl (Ev.bind awake_ev (Ev.now true)))))
  | some Y => exact EvC tells_ok (EvT rfl (EvT rfl (EvT rfl (Ev.bind awake_ev (Ev.now true)))))
end Go.Proofs.YtdiimfldkbpagaaDoor.Pure
