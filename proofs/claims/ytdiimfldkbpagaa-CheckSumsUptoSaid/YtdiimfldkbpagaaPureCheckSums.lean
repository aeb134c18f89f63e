/- CheckSums (P15.1): the sum of lists of bytes is the reference's sum of all of them, one after another. Conditions: the lists hold at most 2^20 bytes in all (the row's own bound). -/
import Derived.Test.YtdiimfldkbpagaaRefCheckSums
namespace Go.Proofs.Ytdiimfldkbpagaa.Pure
open Go.RowKit Go.Proofs.Ytdiimfldkbpagaa.QCheckSums Go.Proofs.YtdiimfldkbpagaaW.PrintWords Go.Proofs.YtdiimfldkbpagaaW.PrintLast Go.Proofs.YtdiimfldkbpagaaW.PrintMore Go.Proofs.Ytdiimfldkbpagaa.Kit Go.Proofs.Ytdiimfldkbpagaa.Er Go.Proofs.Ytdiimfldkbpagaa.CrcM Go.Proofs.Ytdiimfldkbpagaa.CheCheckSums Go.Proofs.Ytdiimfldkbpagaa.RefCheckSums

theorem flat_len (L : List (List Nat)) (q : Nat) : (L.take q).flatten.length + (L.drop q).flatten.length = L.flatten.length := by
  rw [← List.length_append, ← List.flatten_append, List.take_append_drop]
theorem loop (L : List (List Nat)) (hL : ∀ N ∈ L, (∀ x ∈ N, x < 256) ∧ N.length ≤ 9223372036854775000) (hl : L.length ≤ 1048576) (hf : L.flatten.length ≤ 1048576) : ∀ (d q : Nat), q + d = L.length →
    Ev (fun k => geyserlaw15_CheckSums.l0 k (L.map li) (li (L.take q).flatten) (q : Int)) true
  | 0, q, hq => by
    have hall : L.take q = L := List.take_of_length_le (by omega)
    have hx : ∀ x ∈ L.flatten, x < 256 := by
      intro x hx
      obtain ⟨N, hN, hxN⟩ := List.mem_flatten.1 hx
      exact (hL N hN).1 x hxN
    rw [hall]
    refine Ev.step (fun k => geyserlaw15_CheckSums.l0.eq_2 (L.map li) (li L.flatten) (q : Int) k) (EvF (by rw [List.length_map]; omega) ?_)
    exact Ev.bind (sum_rows L hL (by omega)) (Ev.bind (ref_sum L.flatten hx (by omega)) (EvT rfl (Ev.bind awake_ev (Ev.now true))))
  | d + 1, q, hq => by
    have hr : rd_L1 (L.map li) (q : Int) = li (L.getD q []) := by
      have e : ((q : Int)).toNat = q := by omega
      unfold rd_L1
      rw [e, List.getD_eq_getElem?_getD, List.getD_eq_getElem?_getD, List.getElem?_map, List.getElem?_eq_getElem (by omega)]
      rfl
    have hg : L.getD q [] = L[q]'(by omega) := by rw [List.getD_eq_getElem?_getD, List.getElem?_eq_getElem (by omega)]; rfl
    have ht : (L.take (q + 1)).flatten = (L.take q).flatten ++ L.getD q [] := by
      rw [List.take_add_one, List.flatten_append, List.getElem?_eq_getElem (by omega), hg]
      simp
    have h1 := flat_len L (q + 1)
    rw [ht, List.length_append] at h1
    refine Ev.step (fun k => geyserlaw15_CheckSums.l0.eq_2 (L.map li) (li (L.take q).flatten) (q : Int) k) (EvT (by rw [List.length_map]; omega) (EvT (by omega) ?_))
    rw [hr]
    refine EvT (by rw [li_len, li_len]; omega) ?_
    rw [← li_app, ← ht, w64 (n := (q : Int) + 1) (by omega)]
    exact loop L hL hl hf d (q + 1) (by omega)
theorem lists_of : ∀ {l : List (List Int)}, (∀ x ∈ l, ∀ y ∈ x, (Lit.int .u8 y).wf = true) → ∃ L : List (List Nat), l = L.map li ∧ ∀ N ∈ L, ∀ x ∈ N, x < 256
  | [], _ => ⟨[], rfl, by simp⟩
  | a :: l, h => by
    obtain ⟨N, rfl, hN⟩ := li_of (h a (by simp))
    obtain ⟨L, rfl, hL⟩ := lists_of (l := l) (fun x hx => h x (by simp [hx]))
    refine ⟨N :: L, rfl, ?_⟩
    intro M hM
    rcases List.mem_cons.1 hM with rfl | hM
    · exact hN
    · exact hL M hM
theorem flat_li (L : List (List Nat)) : (L.map li).flatten.length = L.flatten.length := by
  induction L with
  | nil => rfl
  | cons a L ih => simp only [List.map_cons, List.flatten_cons, List.length_append, li_len, ih]
theorem CheckSums (l : List (List Int)) (h : ∀ x ∈ l, ∀ y ∈ x, (Lit.int .u8 y).wf = true) (h1 : l.length ≤ 1048576) (h2 : l.flatten.length ≤ 1048576) : ∃ k, geyserlaw15_CheckSums.f k l = some true := by
  obtain ⟨L, rfl, hL⟩ := lists_of h
  rw [flat_li] at h2
  rw [List.length_map] at h1
  have hb : ∀ N ∈ L, N.length ≤ L.flatten.length := by
    intro N hN
    obtain ⟨a, b, rfl⟩ := List.append_of_mem hN
    simp only [List.flatten_append, List.flatten_cons, List.length_append]
    omega
  refine Ev.rounds ?_
  unfold geyserlaw15_CheckSums.f
  have := loop L (fun N hN => ⟨hL N hN, by have := hb N hN; omega⟩) h1 h2 L.length 0 (by omega)
  exact this
end Go.Proofs.Ytdiimfldkbpagaa.Pure
