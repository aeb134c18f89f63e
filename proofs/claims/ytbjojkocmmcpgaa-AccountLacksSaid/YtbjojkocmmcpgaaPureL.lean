/- ACCOUNTS IN PLAIN LEAN: a tick of which one of the data lacks, behind one of which all came. No memory in sight. Conditions: none. -/
import Derived.Test.YtbjojkocmmcpgaaPureA
namespace Go.Proofs.Ytbjojkocmmcpgaa.Acc
set_option linter.unusedSimpArgs false
set_option linter.unusedVariables false
open Go.Proofs.Ytbjojkocmmcpgaa.Mod
def hrd (m : Nat → Nat) (F : List Dat) (l : Nat) : Bool := (lay (fun _ => false) m F l).heard
/-- Behind all data of a tick, some of the next one's. -/
def nextAt (m : Nat → Nat) (lv T : Int) (F G : List Dat) : Nat → Acc
  | 0 => st (fun _ => false) m lv T F
  | j + 1 => st (hrd m F) m lv (T + 1) (G.take (j + 1))
theorem nextAt_step (m : Nat → Nat) (lv T : Int) (F G : List Dat) (hG : ∀ d ∈ G, Of m (T + 1) d) (hN : (G.map kk).Nodup) (j : Nat) (d : Dat) (hj : G[j]? = some d) :
    (nextAt m lv T F G j).data d = nextAt m lv T F G (j + 1) ∧ ((nextAt m lv T F G j).has = true → (nextAt m lv T F G j).tick ≤ d.tick) := by
  have hd := hG d (List.mem_of_getElem? hj)
  cases j with
  | zero =>
    have hc := come_next (fun _ => false) m lv T F d hd.tick
    obtain ⟨h1, _⟩ := bg_first (hrd m F) m lv (T + 1) false (-1) (st (fun _ => false) m lv T F) _ d hd hc
    refine ⟨?_, fun _ => ?_⟩
    · show (st (fun _ => false) m lv T F).data d = st (hrd m F) m lv (T + 1) (G.take 1)
      rw [h1, List.take_one, List.head?_eq_getElem?, hj]; rfl
    · rw [hd.tick]; show T ≤ T + 1; omega
  | succ j =>
    obtain ⟨_, h2, _⟩ := st_new (hrd m F) m lv (T + 1) (G.take (j + 1)) d hd (new_of_nodup hN hj)
    refine ⟨?_, fun _ => Int.le_of_eq hd.tick.symm⟩
    show (st (hrd m F) m lv (T + 1) (G.take (j + 1))).data d = st (hrd m F) m lv (T + 1) (G.take (j + 1 + 1))
    have e : G.take (j + 1 + 1) = G.take (j + 1) ++ [d] := by
      rw [List.take_add_one (i := j + 1), hj]; rfl
    rw [h2, e]
theorem good_next (m : Nat → Nat) (lv T : Int) (F G : List Dat) (n : Nat) (hl : 0 ≤ lv ∧ lv ≤ 7) (hT : 0 ≤ T ∧ T + 1 ≤ 1099511627776) (hF : F.length ≤ n) (hG : G.length ≤ n) (j : Nat) : Good n (nextAt m lv T F G j) := by
  cases j with
  | zero => exact good_st _ m lv T F n hl ⟨hT.1, by omega⟩ hF
  | succ j => exact good_st _ m lv (T + 1) _ n hl ⟨by omega, hT.2⟩ (by rw [List.length_take]; omega)
theorem level_next (m : Nat → Nat) (lv T : Int) (F G : List Dat) (j : Nat) : (nextAt m lv T F G j).level = lv := by cases j <;> rfl
theorem filter_erase (p : Dat → Bool) : ∀ (F : List Dat) (k : Nat) (d : Dat), F[k]? = some d → p d = true → (F.filter p).length = ((F.eraseIdx k).filter p).length + 1
  | [], k, d, h, _ => by simp at h
  | x :: F, 0, d, h, hp => by
    obtain rfl : x = d := by simpa using h
    rw [List.eraseIdx_cons_zero, List.filter_cons, if_pos hp, List.length_cons]
  | x :: F, k + 1, d, h, hp => by
    have ih := filter_erase p F k d (by simpa using h) hp
    rw [List.eraseIdx_cons_succ, List.filter_cons, List.filter_cons]
    split
    · rw [List.length_cons, List.length_cons, ih]
    · exact ih
/-- What data two ticks behind tells. -/
theorem lacks_last (m : Nat → Nat) (hm : ∀ l, 1 ≤ m l) (lv T : Int) (h0 : 0 ≤ lv) (k : Nat) (d0 : Dat) (hk : (allUp m (T + 1) (lv + 1).toNat)[k]? = some d0) (d : Dat) (hd : d.tick = T + 2) :
    ∃ ms z, ((nextAt m lv T (allUp m T (lv + 1).toNat) ((allUp m (T + 1) (lv + 1).toNat).eraseIdx k) ((allUp m (T + 1) (lv + 1).toNat).eraseIdx k).length).come d).2 = ms ∧ ms.length ≤ 2 ∧ 0 < ms.length ∧ ms[ms.length - 1]? = some z ∧ z.lost = true ∧
      ((nextAt m lv T (allUp m T (lv + 1).toNat) ((allUp m (T + 1) (lv + 1).toNat).eraseIdx k) ((allUp m (T + 1) (lv + 1).toNat).eraseIdx k).length).tick ≤ d.tick) := by
  obtain ⟨F, hF⟩ : ∃ F, F = allUp m T (lv + 1).toNat := ⟨_, rfl⟩
  obtain ⟨G, hG⟩ : ∃ G, G = (allUp m (T + 1) (lv + 1).toNat).eraseIdx k := ⟨_, rfl⟩
  rw [← hF, ← hG]
  obtain ⟨l, p, h1, h2, e⟩ := mem_allUp.1 (List.mem_of_getElem? hk)
  have hcnt : (G.filter fun d => d.layer == l).length < m l := by
    have hc := count_allUp m (T + 1) l (lv + 1).toNat
    rw [if_pos h1] at hc
    have := filter_erase (fun d => d.layer == l) _ k d0 hk (by rw [e]; simp [mkD])
    rw [← hG] at this
    omega
  cases hn : G.length with
  | zero =>
    obtain ⟨a, ha⟩ : ∃ a, a = st (fun _ => false) m lv T F := ⟨_, rfl⟩
    show ∃ ms z, ((st (fun _ => false) m lv T F).come d).2 = ms ∧ ms.length ≤ 2 ∧ 0 < ms.length ∧ ms[ms.length - 1]? = some z ∧ z.lost = true ∧ (st (fun _ => false) m lv T F).tick ≤ d.tick
    rw [← ha]
    have e1 : a.come d = a.close d.tick := come_close (.inr (by rw [ha, hd]; show T < T + 2; omega))
    have e2 : a.from (T + 2) = bg (hrd m F) lv (T + 1) false (-1) := by
      unfold Acc.from
      rw [show a.tick = T by rw [ha]; rfl, Int.max_eq_left (by omega), ha]; rfl
    have e3 : a.close (T + 2) = (((bg (hrd m F) lv (T + 1) false (-1)).goes 1).1, a.mark :: ((bg (hrd m F) lv (T + 1) false (-1)).goes 1).2) := by
      have : a.close (T + 2) = (((a.from (T + 2)).goes (T + 2 - (a.from (T + 2)).tick).toNat).1, a.mark :: ((a.from (T + 2)).goes (T + 2 - (a.from (T + 2)).tick).toNat).2) := if_pos (by rw [ha]; rfl)
      rw [this, e2, show (T + 2 - (bg (hrd m F) lv (T + 1) false (-1)).tick).toNat = 1 by show (T + 2 - (T + 1)).toNat = 1; omega]
    refine ⟨[a.mark, (bg (hrd m F) lv (T + 1) false (-1)).mark], (bg (hrd m F) lv (T + 1) false (-1)).mark, ?_, Nat.le_refl _, by simp, rfl, bg_mark _ _ _ _ _, by rw [ha, hd]; show T ≤ T + 2; omega⟩
    rw [e1, hd, e3]; rfl
  | succ n =>
    obtain ⟨a, ha⟩ : ∃ a, a = st (hrd m F) m lv (T + 1) G := ⟨_, rfl⟩
    have ea : nextAt m lv T F G (n + 1) = a := by
      rw [ha]
      show st (hrd m F) m lv (T + 1) (G.take (n + 1)) = _
      rw [List.take_of_length_le (by omega)]
    rw [ea]
    have hc := come_next (hrd m F) m lv (T + 1) G d (by rw [hd]; omega)
    rw [← ha] at hc
    refine ⟨[a.mark], a.mark, by rw [hc], by simp, by simp, rfl, ?_, by rw [ha, hd]; show T + 1 ≤ T + 2; omega⟩
    rw [ha]
    refine lacks_mark (hrd m F) m hm lv (T + 1) G l (by omega) ?_ hcnt
    show (false || F.any (fun d => d.layer == l)) = true
    rw [Bool.false_or]
    exact any_of_count (by rw [hF, count_allUp, if_pos h1]; exact hm l)
end Go.Proofs.Ytbjojkocmmcpgaa.Acc
