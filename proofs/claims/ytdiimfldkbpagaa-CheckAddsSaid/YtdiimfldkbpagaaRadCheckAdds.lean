/- What the reference's Add answers, for CheckAdds; a row that is turned over after the call. No memory in sight. -/
import Derived.Test.YtdiimfldkbpagaaRefCheckAdds
namespace Go.Proofs.Ytdiimfldkbpagaa.RadCheckAdds
open Go.RowKit Go.Proofs.Ytdiimfldkbpagaa.QCheckAdds Go.Proofs.YtdiimfldkbpagaaW.PrintWords Go.Proofs.YtdiimfldkbpagaaW.PrintLast Go.Proofs.YtdiimfldkbpagaaW.PrintMore Go.Proofs.Ytdiimfldkbpagaa.Kit Go.Proofs.Ytdiimfldkbpagaa.Er Go.Proofs.Ytdiimfldkbpagaa.CrcM Go.Proofs.Ytdiimfldkbpagaa.CheCheckAdds Go.Proofs.Ytdiimfldkbpagaa.RefCheckAdds

theorem four (s : Nat) (h : s < 4294967296) : ([(Int.tmod (s : Int) 256) % 256, ((Int.tdiv (s : Int) 256) % 4294967296) % 256, ((Int.tdiv (s : Int) 65536) % 4294967296) % 256, ((Int.tdiv (s : Int) 16777216) % 4294967296) % 256] : List Int) = li (nbytes 4 s) := by
  have e : nbytes 4 s = [s % 256, s / 256 % 256, s / 256 / 256 % 256, s / 256 / 256 / 256 % 256] := rfl
  rw [e, tmod_pos (by omega), tdiv_pos (by omega), tdiv_pos (by omega), tdiv_pos (by omega)]
  unfold li
  simp only [List.map_cons, List.map_nil, List.cons.injEq, and_true]
  exact ⟨by omega, by omega, by omega, by omega⟩
theorem ref_add (N : List Nat) (hN : ∀ x ∈ N, x < 256) (hl : N.length + 4 < 140737488355328) : Ev (fun k => geyserref15_Add.f k (li N)) (li (add N)) := by
  unfold geyserref15_Add.f
  refine Ev.bind (ref_sum N hN (by omega)) (EvC rfl (EvT (by rw [li_len]; simp; omega) (EvC rfl ?_)))
  rw [four _ (sum_lt hN)]
  refine EvC rfl (EvT ?_ (EvK ?_))
  · rw [li_len, nbytes_len]; simp only [List.nil_append]; rw [li_len]; omega
  · show some (li N ++ li (nbytes 4 (sum N))) = _
    rw [← li_app]
    rfl
end Go.Proofs.Ytdiimfldkbpagaa.RadCheckAdds
