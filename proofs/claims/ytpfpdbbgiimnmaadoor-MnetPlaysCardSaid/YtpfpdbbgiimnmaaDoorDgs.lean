/- BYTES AND DATAGRAMS AS ARGUMENTS: what a value of such a type is. Conditions: what the rows' premises say of sizes. -/
import Derived.Test.YtpfpdbbgiimnmaaDoorLn
import Derived.ProofKit
import Derived.OpenShut
import Derived.Lib.SmallJoins
import Derived.Deep.Slices
import Derived.SizedLaws
namespace Go.Proofs.YtpfpdbbgiimnmaaDoor.Net
set_option linter.unusedSimpArgs false
set_option linter.unusedVariables false
open Go.ChangeShapes Go.WideShapes Go.RowKit Go.Deep Go.Proofs.YtpfpdbbgiimnmaaDoor.Mod
theorem weightsAll_mem {H : Type} {P : Program} {e : TypeId} : ∀ {l : List (DataW H)} {d : DataW H}, d ∈ l → ∀ n ∈ d.weights P e, n ∈ DataW.weightsAll P e l
  | x :: l, d, hd, n, hn => by
    show n ∈ x.weights P e ++ DataW.weightsAll P e l
    rcases List.mem_cons.1 hd with rfl | hd
    · exact List.mem_append.2 (.inl hn)
    · exact List.mem_append.2 (.inr (weightsAll_mem hd n hn))
theorem bytesU8 : Tryd.prog.bytesOf 5 = 1 := by kernel_rfl
theorem bytesDg : Tryd.prog.bytesOf 60 = 32 := by kernel_rfl
theorem celU8 : Tryd.prog.cellsOf 5 = 1 := by kernel_rfl
theorem celDg : Tryd.prog.cellsOf 60 = 2 := by kernel_rfl
theorem celI : Tryd.prog.cellsOf 3 = 1 := by kernel_rfl
theorem celBs : Tryd.prog.cellsOf 22 = 1 := by kernel_rfl
set_option linter.constructorNameAsVariable false in
set_option maxRecDepth 100000 in
theorem bs_arg {H : Type} {enc : TypeId × Value → H} {W : World} {fuel : Nat} {A : Option Addr} {L C : Nat} {d : DataW H} {ps : List MemPlace} (hf : DataW.trod enc Tryd.prog W 0 (fun _ => true) true fuel 22 [.slice A L C] = some (d, ps))
    (hw : ∀ n ∈ d.weights Tryd.prog 22, n ≤ reachBytes) : ∃ l : List Int, L = l.length ∧ RdB (fun k => k < W.heap.size) W (.slice A L C) l := by
  rcases open_ints Tryd.underlying22 Tryd.underlying5 celU8 hf with ⟨hcs, hx⟩ | ⟨a, len, cap, zs, hcs, hb, hl, hm, hz, hx, hcell, hwf⟩
  · simp only [List.cons.injEq, Value.slice.injEq, and_true] at hcs
    obtain ⟨rfl, rfl, rfl⟩ := hcs
    exact ⟨[], rfl, none, 0, rfl, Nat.le_refl _, by simp, by simp, fun e => absurd rfl e⟩
  · simp only [List.cons.injEq, Value.slice.injEq, and_true] at hcs
    obtain ⟨rfl, rfl, rfl⟩ := hcs
    simp only [if_true] at hz
    have hlen : (zs.take L).length = L := by rw [List.length_take]; omega
    have hd := (Prod.mk.inj hx).1
    have hW : L ≤ 140737488355328 := by
      have h1 := hw ((L + (C - L)) * Tryd.prog.bytesOf 5) (by
        rw [hd]
        simp only [DataW.weights, Tryd.underlying22]
        refine List.mem_cons.2 (.inl ?_)
        simp only [lits, List.length_map, List.length_take, List.length_drop, hz, Nat.min_eq_left hl])
      rw [bytesU8] at h1
      have := reachBytes_lt
      omega
    refine ⟨zs.take L, hlen.symm, some a, C, by rw [hlen], by rw [hlen]; exact hl, by rw [hlen]; exact hW, fun x hx => ?_, fun hne => ⟨a, rfl, ?_, fun j x hj => ?_⟩⟩
    · have := bounds_u8 (hwf x (List.mem_of_mem_take hx))
      omega
    · have hpos : 0 < zs.length := by
        rcases Nat.eq_zero_or_pos zs.length with e | e
        · exfalso; apply hne; rw [List.length_eq_zero_iff.1 e]; exact List.take_nil
        · exact e
      have := World.block_lt_of_cell? W _ (hcell 0 hpos)
      rw [add_block] at this
      exact this
    · have hj1 : j < L := by rw [← hlen]; exact (List.getElem?_eq_some_iff.1 hj).1
      rw [hcell j (by omega)]
      rw [List.getElem?_take, if_pos hj1] at hj
      rw [List.getD_eq_getElem?_getD, hj]
      rfl
theorem one_of {cs : List Value} {o : Nat} {v : Value} (h : (cs.drop o).take 1 = [v]) : cs[o]? = some v := by
  have e := congrArg (fun l => l[0]?) h
  simpa [List.getElem?_take, List.getElem?_drop] using e
set_option linter.constructorNameAsVariable false in
set_option maxRecDepth 100000 in
theorem dg_at {H : Type} {enc : TypeId × Value → H} {W : World} {n : Nat} {cs : List Value} {x : DataW H × List MemPlace} (hf : DataW.trod enc Tryd.prog W 0 (fun _ => true) true n 60 cs = some x)
    (hw : ∀ n ∈ x.1.weights Tryd.prog 60, n ≤ reachBytes) : ∃ (d : Dg) (bv : Value), cs[0]? = some (.int .i64 d.layer) ∧ cs[1]? = some bv ∧ RdB (fun k => k < W.heap.size) W bv d.b ∧ (-9223372036854775808 ≤ d.layer ∧ d.layer ≤ 9223372036854775807) := by
  obtain ⟨y0, y1, n', rfl, hlen, t0, t1⟩ := trod_struct2 Tryd.underlying60 hf
  dsimp only at t0 t1
  rw [celI] at t0
  rw [celBs] at t1
  obtain ⟨i, e0, e1, hwf⟩ := DataW.trod_int Tryd.underlying3 t0
  obtain ⟨A, L, C, e2⟩ := Joins.slice_form Tryd.underlying22 t1
  rw [e2] at t1
  obtain ⟨l, hl, hr⟩ := bs_arg (d := y1.1) (ps := y1.2) t1 (fun n hn => hw n (by
    simp only [DataW.weights, Tryd.underlying60, List.map_cons, List.map_nil, DataW.weightsEach, List.append_nil]
    exact List.mem_append.2 (.inr hn)))
  exact ⟨⟨i, l⟩, .slice A L C, one_of e0, one_of e2, hr, bounds_i64 hwf⟩
set_option linter.constructorNameAsVariable false in
set_option maxRecDepth 100000 in
theorem dgs_arg {H : Type} {enc : TypeId × Value → H} {W : World} {fuel : Nat} {A : Option Addr} {L C : Nat} {d : DataW H} {ps : List MemPlace} (hf : DataW.trod enc Tryd.prog W 0 (fun _ => true) true fuel 47 [.slice A L C] = some (d, ps))
    (hw : ∀ n ∈ d.weights Tryd.prog 47, n ≤ reachBytes) : ∃ l : List Dg, L = l.length ∧ DgIs (fun k => k < W.heap.size) W (.slice A L C) l ∧ ∀ d ∈ l, -9223372036854775808 ≤ d.layer ∧ d.layer ≤ 9223372036854775807 := by
  rcases open_slice Tryd.underlying47 hf with ⟨hcs, _⟩ | ⟨x, len, cap, m, n, D, Pl, hcs, hb, hl, hm, hmm, hx, hrow⟩
  · simp only [List.cons.injEq, Value.slice.injEq, and_true] at hcs
    obtain ⟨rfl, rfl, rfl⟩ := hcs
    exact ⟨[], rfl, ⟨none, 0, rfl, Nat.le_refl _, by simp, fun e => absurd rfl e⟩, by simp⟩
  · simp only [List.cons.injEq, Value.slice.injEq, and_true] at hcs
    obtain ⟨rfl, rfl, rfl⟩ := hcs
    simp only [if_true] at hmm
    have hmm' := hmm.symm
    subst hmm'
    have hd := (Prod.mk.inj hx).1
    have hW : L ≤ 4398046511104 := by
      have h1 := hw ((L + (C - L)) * Tryd.prog.bytesOf 60) (by
        rw [hd]
        simp only [DataW.weights, Tryd.underlying47]
        refine List.mem_cons.2 (.inl ?_)
        simp only [List.length_map, List.length_range])
      rw [bytesDg] at h1
      have := reachBytes_lt
      omega
    have each : ∀ i, i < L → ∃ y : Dg × Value, W.cell? (x.add (i * 2)) = some (.int .i64 y.1.layer) ∧ W.cell? (x.add (i * 2 + 1)) = some y.2 ∧ RdB (fun k => k < W.heap.size) W y.2 y.1.b ∧ (-9223372036854775808 ≤ y.1.layer ∧ y.1.layer ≤ 9223372036854775807) := by
      intro i hi
      obtain ⟨cs', h1, h2⟩ := hrow i (by omega)
      rw [celDg] at h1
      obtain ⟨_, hl', hc⟩ := World.cells?_some h1
      obtain ⟨y, bv, k0, k1, k2, k3⟩ := dg_at h2 (fun n hn => hw n (by
        rw [hd]
        simp only [DataW.weights, Tryd.underlying47]
        exact List.mem_cons.2 (.inr (List.mem_append.2 (.inl (weightsAll_mem (List.mem_map.2 ⟨i, List.mem_range.2 hi, rfl⟩) n hn))))))
      refine ⟨(y, bv), ?_, ?_, k2, k3⟩
      · have := hc 0 (by omega)
        rw [add_add] at this
        exact this.trans k0
      · have := hc 1 (by omega)
        rw [add_add] at this
        exact this.trans k1
    haveI : Inhabited (Dg × Value) := ⟨(⟨0, []⟩, .nilIface)⟩
    obtain ⟨z, hz⟩ := choose_lt each
    refine ⟨(List.range L).map fun i => (z i).1, by simp, ⟨some x, C, by simp, by simpa using hl, by simpa using hW, fun hne => ?_⟩, fun d hd => ?_⟩
    · have hpos : 0 < L := by
        rcases Nat.eq_zero_or_pos L with e | e
        · exfalso; apply hne; rw [e]; rfl
        · exact e
      obtain ⟨b, o, sp⟩ := x
      have c0 := (hz 0 hpos).1
      obtain rfl : sp = none := by
        have e : (⟨b, o, sp⟩ : Addr).add (0 * 2) = ⟨b, o, sp⟩ := rfl
        rw [e] at c0
        unfold World.cell? at c0
        cases sp
        · rfl
        · simp at c0; split at c0 <;> simp_all
      have hadd : ∀ k, (⟨b, o, none⟩ : Addr).add k = ⟨b, o + k, none⟩ := fun k => by unfold Addr.add; split <;> simp_all
      refine ⟨b, o, rfl, ?_, fun j d hj => ?_⟩
      · have := World.block_lt_of_cell? W _ c0
        rw [add_block] at this
        exact this
      · have hj1 : j < L := by
          have := (List.getElem?_eq_some_iff.1 hj).1
          simpa using this
        obtain rfl : (z j).1 = d := by simpa [hj1] using hj
        obtain ⟨k0, k1, k2, _⟩ := hz j hj1
        rw [hadd] at k0 k1
        exact ⟨(z j).2, k0, by rw [Nat.add_assoc]; exact k1, k2⟩
    · obtain ⟨i, hi, rfl⟩ := List.mem_map.1 hd
      exact (hz i (List.mem_range.1 hi)).2.2.2
set_option linter.constructorNameAsVariable false in
set_option maxRecDepth 100000 in
/-- A list of datagrams that comes in. -/
theorem dgs_open {H : Type} {enc : TypeId × Value → H} {W : World} {base : Nat} {v : Value} {d : DataW H} {ps : List MemPlace} {ts : List TypeId} {ds : List (DataW H)} {j : Nat} (hsz : (DataW.weightsEach Tryd.prog ts ds).all (· ≤ reachBytes) = true) (ht : ts[j]? = some 47) (hd : ds[j]? = some d)
    (hv : Value.okWide Tryd.prog W .any base 47 v) (h : DataW.Trod enc Tryd.prog W 0 (fun _ => true) true 47 v d ps) : ∃ (A : Option Addr) (L C : Nat) (l : List Dg), v = .slice A L C ∧ DgIs (fun k => k < W.heap.size) W (.slice A L C) l ∧ L = l.length ∧ ∀ d ∈ l, -9223372036854775808 ≤ d.layer ∧ d.layer ≤ 9223372036854775807 := by
  obtain ⟨A, L, C, rfl⟩ := okWide_slice Tryd.underlying47 hv
  obtain ⟨fuel, hf⟩ := h
  obtain ⟨l, h1, h2, h3⟩ := dgs_arg (by simpa [Value.cells] using hf) (fun n hn => by
    have := List.all_eq_true.1 hsz _ (DataW.weights_mem_each ht hd n hn)
    simpa using this)
  exact ⟨A, L, C, l, rfl, h2, h1, h3⟩
set_option linter.constructorNameAsVariable false in
set_option maxRecDepth 100000 in
/-- Bytes that come in. -/
theorem bs_open {H : Type} {enc : TypeId × Value → H} {W : World} {base : Nat} {v : Value} {d : DataW H} {ps : List MemPlace} {ts : List TypeId} {ds : List (DataW H)} {j : Nat} (hsz : (DataW.weightsEach Tryd.prog ts ds).all (· ≤ reachBytes) = true) (ht : ts[j]? = some 22) (hd : ds[j]? = some d)
    (hv : Value.okWide Tryd.prog W .any base 22 v) (h : DataW.Trod enc Tryd.prog W 0 (fun _ => true) true 22 v d ps) : ∃ (A : Option Addr) (L C : Nat) (l : List Int), v = .slice A L C ∧ RdB (fun k => k < W.heap.size) W (.slice A L C) l := by
  obtain ⟨A, L, C, rfl⟩ := okWide_slice Tryd.underlying22 hv
  obtain ⟨fuel, hf⟩ := h
  obtain ⟨l, h1, h2⟩ := bs_arg (by simpa [Value.cells] using hf) (fun n hn => by
    have := List.all_eq_true.1 hsz _ (DataW.weights_mem_each ht hd n hn)
    simpa using this)
  exact ⟨A, L, C, l, rfl, h2⟩
end Go.Proofs.YtpfpdbbgiimnmaaDoor.Net
