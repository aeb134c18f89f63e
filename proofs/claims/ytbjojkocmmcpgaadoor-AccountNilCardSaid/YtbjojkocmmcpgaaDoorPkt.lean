/- A packet as a whole: stored, loaded; geyserlaw20.data by its contract. Conditions: none. -/
import Derived.Test.YtbjojkocmmcpgaaDoorDataA
import Derived.Test.YtbjojkocmmcpgaaDoorWWords
import Derived.Laws.Rows
namespace Go.Proofs.YtbjojkocmmcpgaaDoor.Acc
set_option linter.unusedSimpArgs false
set_option linter.unusedVariables false
open Go.RowKit Go.Maps Go.Proofs.YtbjojkocmmcpgaaDoor.Er Go.Proofs.YtbjojkocmmcpgaaDoor.Mod Go.Proofs.YtbjojkocmmcpgaaDoorW.PrintWords
def pkCells (d : Dat) : List Value := [.int .i64 1, .int .i64 0, .int .i64 d.layer, .int .i64 d.tick, .bool d.burst, .int .i64 d.sync, .int .i64 d.many, .int .i64 d.place, .int .i64 0, .int .i64 0, .slice none 0 0, .int .i64 0, .int .i64 0, .int .i64 0, .int .i64 0, .int .i64 0, .int .i64 0, .int .i64 0, .int .i64 0, .int .i64 0]
theorem pkCells_one (d : Dat) : ∀ q ∈ pkCells d, q.oneCell' = true := by
  intro q hq
  simp only [pkCells, List.mem_cons, List.not_mem_nil, or_false] at hq
  rcases hq with rfl | rfl | rfl | rfl | rfl | rfl | rfl | rfl | rfl | rfl | rfl | rfl | rfl | rfl | rfl | rfl | rfl | rfl | rfl | rfl <;> rfl
theorem pk_size : (Tryd.prog.info? 26).map (·.size) = some 20 := by kernel_rfl
theorem store_pk {ops : Array Oper} {rest : List Oper} {o : Oper} {a : Act} {Q : Exit → Act → World → Prop} {W : World} {b : Nat} {cs0 : Array Value} (d : Dat) (hgd : o.guard = none) {p : Tmp} {y : Operand} (ho : o.op = .store 26 (.tmp p) y) (hN : o.dst = none)
    (hx : a.eval (.tmp p) = .pointer (some ⟨b, 0, none⟩)) (hg : W.heap[b]? = some (.cells cs0 26 (0, 0))) (h0 : cs0.size = 20) (hy : a.eval y = pkV d)
    (h : ∀ w' : World, Bx w' b d → Fr W w' (fun k => k = b) → w'.heap.size = W.heap.size → wpList Tryd.prog ops Q rest a w') : wpList Tryd.prog ops Q (o :: rest) a W := by
  have hrun : (execOp a.eval o).run Tryd.prog W = .ok .skip (W.setCells b 0 (pkCells d)) := by
    have := run_store_run (P := Tryd.prog) 26 (pkV d) (pkCells d) hg rfl pk_size (by rw [h0]; exact Nat.le_refl _) (pkCells_one d) (o := 0)
    unfold execOp
    simp only [ho, hx, hy, Sem.run_bind, this, Result.andThen_ok, Sem.run_pure]
  refine store_event hgd ho hN hrun ?_
  rintro w' rfl
  obtain ⟨s1, s2, s3, s4⟩ := setCells_same b (pkCells d) 0 W
  refine h _ ?_ ⟨s1, s2, s3, Nat.le_of_eq s4.symm, fun k _ hk => setCells_far _ _ k hk⟩ s4
  obtain ⟨cur, c1, c2, c3⟩ := setCells_row (pkCells d) 0 W cs0 hg (by rw [h0]; exact Nat.le_refl _)
  have hd : cs0.toList.drop (0 + (pkCells d).length) = [] := List.drop_eq_nil_of_le (by rw [Array.length_toList, h0]; exact Nat.le_refl _)
  rw [hd, List.take_zero, List.nil_append, List.append_nil] at c3
  unfold Bx
  rw [c1, show cur = (pkCells d).toArray from Array.toList_inj.1 c3]
  rfl
/-- A whole packet, read. -/
theorem load_pk {w : World} {b o : Nat} {d : Dat} (h : ∀ j v, (pkCells d)[j]? = some v → w.cell? ⟨b, o + j, none⟩ = some v) : (loadVar 26 ⟨b, o, none⟩).run Tryd.prog w = .ok (pkV d) w := by
  have hl : (loadCells ⟨b, o, none⟩ 20).run Tryd.prog w = .ok (pkCells d).toArray w :=
    run_loadCells_list (P := Tryd.prog) w ⟨b, o, none⟩ (pkCells d) (fun j v hv => by
      have hadd : (⟨b, o, none⟩ : Addr).add j = ⟨b, o + j, none⟩ := by unfold Addr.add; split <;> simp_all
      rw [hadd]
      exact h j v hv)
  obtain ⟨i, hi, hs⟩ := Option.map_eq_some_iff.1 pk_size
  have hagg : (isAgg 26).run Tryd.prog w = .ok true w := by
    unfold isAgg
    rw [Sem.run_bind, run_underlying Tryd.underlying26 w]
    rfl
  simp [loadVar, Sem.run_bind, hagg, sizeOf, typeInfo, hi, hs, hl, pkV, pkCells]
def mkD (l : Nat) (t p m : Int) : Dat := ⟨l, t, false, -1, m, p⟩
set_option maxHeartbeats 4000000 in
set_option maxRecDepth 100000 in
theorem dataOf_calls (l : Nat) (t p m : Int) (w : World) : Calls Tryd.prog 15 #[.int .i64 (l : Int), .int .i64 t, .int .i64 p, .int .i64 m] w fun e w' => e = .returned (pkV (mkD l t p m)) ∧ Below w.heap.size w w' := by
  go_enter Tryd.func15, Tryd.ntmps15
  go_wp2_with (first | ((with_reducible refine gate_store (t := 26) (p := 8) rfl ?_); refine store_pk (mkD l t p m) rfl rfl rfl rfl (heap_new _ _) rfl rfl ?_; intro w2 hb hf hs; have HB := Lib.hid hb; have HF : Hid (Below w.heap.size w w2) := Lib.hid (hf.below ((Below.refl _ _).alloc (Nat.le_refl _) _) (by simp) (fun k hk => by omega)); clear hb hf hs))
  exact bodyPost_ret (v := pkV (mkD l t p m)) (results_cell_row Tryd.results15 _ _ _ _ _ _ _ rfl HB.out Tryd.underlying26 rfl pk_size) rfl ⟨rfl, HF.out⟩
end Go.Proofs.YtbjojkocmmcpgaaDoor.Acc
