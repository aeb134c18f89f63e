/- What the reference's Sum answers, for CheckAdds. No memory in sight. -/
import Derived.Test.YtdiimfldkbpagaaCheCheckAdds
namespace Go.Proofs.Ytdiimfldkbpagaa.RefCheckAdds
open Go.RowKit Go.Proofs.Ytdiimfldkbpagaa.QCheckAdds Go.Proofs.YtdiimfldkbpagaaW.PrintWords Go.Proofs.YtdiimfldkbpagaaW.PrintLast Go.Proofs.YtdiimfldkbpagaaW.PrintMore Go.Proofs.Ytdiimfldkbpagaa.Kit Go.Proofs.Ytdiimfldkbpagaa.Er Go.Proofs.Ytdiimfldkbpagaa.CrcM Go.Proofs.Ytdiimfldkbpagaa.CheCheckAdds

theorem pow_all : (List.range 32).all (fun t => geyserref15_power.f 40 (t : Int) == some ((2 : Int) ^ t)) = true := by decide +kernel
theorem pow_ev (t : Nat) (h : t < 32) : Ev (fun k => geyserref15_power.f k (t : Int)) (((2 ^ t : Nat)) : Int) := by
  have := List.all_eq_true.1 pow_all t (List.mem_range.2 h)
  rw [beq_iff_eq] at this
  refine Ev.of (geyserref15_power.mono (t : Int)) (this.trans ?_)
  congr 1
theorem rt_low {n : Nat} : Int.tmod (n : Int) 2 = ((n % 2 : Nat) : Int) := by rw [tmod_pos (by omega)]; omega
theorem rt_half {n : Nat} (h : n < 4294967296) : (Int.tdiv (n : Int) 2) % 4294967296 = ((n / 2 : Nat) : Int) := by rw [tdiv_pos (by omega)]; omega
theorem rt_in {b j : Nat} (hb : b < 4294967296) : ((Int.tdiv ((b : Int) % 4294967296) ((2 ^ j : Nat) : Int)) % 4294967296) % 2 = ((b / 2 ^ j % 2 : Nat) : Int) := by
  have h1 : ((b : Int) % 4294967296) = (b : Int) := by omega
  have h2 : b / 2 ^ j ≤ b := Nat.div_le_self _ _
  rw [h1, tdiv_pos (by omega), show ((b : Int) / ((2 ^ j : Nat) : Int)) = ((b / 2 ^ j : Nat) : Int) from (Int.natCast_ediv b (2 ^ j)).symm]
  omega
theorem r_bits (N : List Nat) (p : Nat) (hp : p < N.length) (hb : N.getD p 0 < 256) (hl : N.length ≤ 9223372036854775000) (r : Int) : ∀ (d j n : Nat), j + d = 8 → n < 4294967296 →
    Ev (fun k => geyserref15_Sum.l0 k (li N) ((refB d n (N.getD p 0 / 2 ^ j) : Nat) : Int) (wrap64 ((p : Int) + 1))) r → Ev (fun k => geyserref15_Sum.l1 k (li N) (n : Int) (p : Int) (j : Int)) r
  | 0, j, n, hj, _, h => Ev.step (fun k => geyserref15_Sum.l1.eq_2 (li N) (n : Int) (p : Int) (j : Int) k) (EvF (by omega) h)
  | d + 1, j, n, hj, hn, h => by
    have hpw : (((2 ^ j : Nat)) : Int) ≠ 0 := by have := Nat.two_pow_pos j; omega
    refine Ev.step (fun k => geyserref15_Sum.l1.eq_2 (li N) (n : Int) (p : Int) (j : Int) k) (EvT (by omega) (EvT (by omega) (EvT (by rw [li_len]; omega) (Ev.bind (pow_ev j (by omega)) (EvF hpw ?_)))))
    rw [li_rd N p hp, rt_in (j := j) (show N.getD p 0 < 4294967296 by omega), rt_low, rt_half hn, w64 (n := (j : Int) + 1) (by omega)]
    have e2 : N.getD p 0 / 2 ^ (j + 1) = N.getD p 0 / 2 ^ j / 2 := by rw [Nat.pow_succ, Nat.div_div_eq_div_mul]
    unfold refB at h
    rw [← e2] at h
    by_cases c : N.getD p 0 / 2 ^ j % 2 = n % 2
    · rw [if_neg (by omega)] at h
      exact EvT (by omega) (r_bits N p hp hb hl r d (j + 1) (n / 2) (by omega) (by omega) h)
    · rw [if_pos c] at h
      refine EvF (by omega) ?_
      have := u32_xor_nat (n / 2) P (by omega) (by decide)
      rw [show ((P : Nat) : Int) = 2197175160 from rfl] at this
      rw [this]
      exact r_bits N p hp hb hl r d (j + 1) _ (by omega) (Nat.xor_lt_two_pow (n := 32) (by omega) (by decide)) h
theorem r_rows (N : List Nat) (hN : ∀ x ∈ N, x < 256) (hl : N.length ≤ 9223372036854775000) : ∀ (d p n : Nat), p + d = N.length → n < 4294967296 →
    Ev (fun k => geyserref15_Sum.l0 k (li N) (n : Int) (p : Int)) ((M ^^^ crc n (N.drop p) : Nat) : Int)
  | 0, p, n, hp, hn => by
    rw [List.drop_eq_nil_of_le (by omega)]
    refine Ev.step (fun k => geyserref15_Sum.l0.eq_2 (li N) (n : Int) (p : Int) k) (EvF (by rw [li_len]; omega) ?_)
    rw [show crc n [] = n from rfl, compl hn, show ((4294967295 - (n : Int)) % 4294967296) = ((M - n : Nat) : Int) by unfold M; omega]
    exact EvK rfl
  | d + 1, p, n, hp, hn => by
    have hb : N.getD p 0 < 256 := by
      rw [List.getD_eq_getElem?_getD, List.getElem?_eq_getElem (by omega)]
      exact hN _ (List.getElem_mem _)
    have hd : N.drop p = N.getD p 0 :: N.drop (p + 1) := by
      rw [List.drop_eq_getElem_cons (by omega), List.getD_eq_getElem?_getD, List.getElem?_eq_getElem (by omega)]
      rfl
    refine Ev.step (fun k => geyserref15_Sum.l0.eq_2 (li N) (n : Int) (p : Int) k) (EvT (by rw [li_len]; omega) ?_)
    refine r_bits N p (by omega) hb hl _ 8 0 n rfl hn ?_
    rw [w64 (n := (p : Int) + 1) (by omega), Nat.pow_zero, Nat.div_one, ref8 hb, hd]
    exact r_rows N hN hl d (p + 1) _ (by omega) (crcB_lt hn hb)
theorem ref_sum (N : List Nat) (hN : ∀ x ∈ N, x < 256) (hl : N.length ≤ 9223372036854775000) : Ev (fun k => geyserref15_Sum.f k (li N)) ((sum N : Nat) : Int) := by
  unfold geyserref15_Sum.f
  have := r_rows N hN hl N.length 0 M (by omega) (by decide)
  exact this
end Go.Proofs.Ytdiimfldkbpagaa.RefCheckAdds
