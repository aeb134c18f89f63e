/- A PACKET AS AN ARGUMENT: what a value of its type is. Conditions: none. Printed by mkopen.py. -/
import Derived.Test.YtfcofokbhhnfkaaDoorPkm
namespace Go.Proofs.YtfcofokbhhnfkaaDoor.Byt
set_option linter.unusedSimpArgs false
set_option linter.unusedVariables false
open Go.ChangeShapes Go.WideShapes Go.RowKit Go.Deep Go.Proofs.YtfcofokbhhnfkaaDoor.Er Go.Proofs.YtfcofokbhhnfkaaDoorW.PrintWords Go.Proofs.YtfcofokbhhnfkaaDoorW.PrintLast
def I64 (n : Int) : Prop := -9223372036854775808 ≤ n ∧ n ≤ 9223372036854775807
/-- A packet's numbers are as large as memory holds them. -/
structure PkB (p : Pk) : Prop where
  kind : I64 p.kind
  sess : I64 p.sess
  layer : I64 p.layer
  tick : I64 p.tick
  sync : I64 p.sync
  many : I64 p.many
  place : I64 p.place
  block : I64 p.block
  esi : I64 p.esi
  size : I64 p.size
  sym : I64 p.sym
  blocks : I64 p.blocks
  long : I64 p.long
  short : I64 p.short
  layers : I64 p.layers
  esis : I64 p.esis
  base : I64 p.base
  len : I64 p.len
theorem cPk : Tryd.prog.cellsOf 26 = 20 := by kernel_rfl
theorem cPl : Tryd.prog.cellsOf 24 = 5 := by kernel_rfl
theorem cBool : Tryd.prog.cellsOf 4 = 1 := by kernel_rfl
theorem one5 {cs : List Value} {o k : Nat} {v : Value} (hk : k < 5) (h : (((cs.drop o).take 5).drop k).take 1 = [v]) : cs[o + k]? = some v := by
  have e := one_of h
  rw [List.getElem?_take, if_pos hk, List.getElem?_drop] at e
  exact e
set_option linter.constructorNameAsVariable false in
set_option maxRecDepth 100000 in
theorem pk_open {H : Type} {enc : TypeId × Value → H} {W : World} {base : Nat} {v : Value} {d : DataW H} {ps : List MemPlace} {ts : List TypeId} {ds : List (DataW H)} {j : Nat} (hsz : (DataW.weightsEach Tryd.prog ts ds).all (· ≤ reachBytes) = true) (ht : ts[j]? = some 26) (hd : ds[j]? = some d)
    (hv : Value.okWide Tryd.prog W .any base 26 v) (h : DataW.Trod enc Tryd.prog W 0 (fun _ => true) true 26 v d ps) : ∃ (p : Pk) (A : Option Addr) (L C : Nat), v = pkV p (.slice A L C) ∧ RdB (fun k => k < W.heap.size) W (.slice A L C) p.data ∧ PkB p := by
  obtain ⟨cs, rfl, hsz0⟩ := okWide_struct Tryd.underlying26 hv
  obtain ⟨fuel, hf⟩ := h
  obtain ⟨xs, n', _, hx, _, hxs, hel⟩ := DataW.trod_struct Tryd.underlying26 hf
  dsimp only [Value.cells] at hel
  have hxl : xs.length = 16 := hxs
  have get : ∀ i, i < 16 → ∃ y, xs[i]? = some y := fun i hi => ⟨xs[i]'(by omega), List.getElem?_eq_getElem _⟩
  obtain ⟨y0, g0⟩ := get 0 (by omega)
  have h0 : DataW.trod enc Tryd.prog W 0 (fun _ => true) true n' 3 ((cs.toList.drop 0).take (Tryd.prog.cellsOf 3)) = some y0 := (hel 0 _ rfl).trans g0
  rw [celI] at h0
  obtain ⟨kind, e0, _, b0⟩ := DataW.trod_int Tryd.underlying3 h0
  have E0 := one_of e0
  obtain ⟨y1, g1⟩ := get 1 (by omega)
  have h1 : DataW.trod enc Tryd.prog W 0 (fun _ => true) true n' 3 ((cs.toList.drop 1).take (Tryd.prog.cellsOf 3)) = some y1 := (hel 1 _ rfl).trans g1
  rw [celI] at h1
  obtain ⟨sess, e1, _, b1⟩ := DataW.trod_int Tryd.underlying3 h1
  have E1 := one_of e1
  obtain ⟨y2, g2⟩ := get 2 (by omega)
  have h2 : DataW.trod enc Tryd.prog W 0 (fun _ => true) true n' 3 ((cs.toList.drop 2).take (Tryd.prog.cellsOf 3)) = some y2 := (hel 2 _ rfl).trans g2
  rw [celI] at h2
  obtain ⟨layer, e2, _, b2⟩ := DataW.trod_int Tryd.underlying3 h2
  have E2 := one_of e2
  obtain ⟨y3, g3⟩ := get 3 (by omega)
  have h3 : DataW.trod enc Tryd.prog W 0 (fun _ => true) true n' 3 ((cs.toList.drop 3).take (Tryd.prog.cellsOf 3)) = some y3 := (hel 3 _ rfl).trans g3
  rw [celI] at h3
  obtain ⟨tick, e3, _, b3⟩ := DataW.trod_int Tryd.underlying3 h3
  have E3 := one_of e3
  obtain ⟨y4, g4⟩ := get 4 (by omega)
  have h4 : DataW.trod enc Tryd.prog W 0 (fun _ => true) true n' 4 ((cs.toList.drop 4).take (Tryd.prog.cellsOf 4)) = some y4 := (hel 4 _ rfl).trans g4
  rw [cBool] at h4
  obtain ⟨burst, e4, _⟩ := DataW.trod_bool Tryd.underlying4 h4
  have E4 := one_of e4
  obtain ⟨y5, g5⟩ := get 5 (by omega)
  have h5 : DataW.trod enc Tryd.prog W 0 (fun _ => true) true n' 3 ((cs.toList.drop 5).take (Tryd.prog.cellsOf 3)) = some y5 := (hel 5 _ rfl).trans g5
  rw [celI] at h5
  obtain ⟨sync, e5, _, b5⟩ := DataW.trod_int Tryd.underlying3 h5
  have E5 := one_of e5
  obtain ⟨y6, g6⟩ := get 6 (by omega)
  have h6 : DataW.trod enc Tryd.prog W 0 (fun _ => true) true n' 3 ((cs.toList.drop 6).take (Tryd.prog.cellsOf 3)) = some y6 := (hel 6 _ rfl).trans g6
  rw [celI] at h6
  obtain ⟨many, e6, _, b6⟩ := DataW.trod_int Tryd.underlying3 h6
  have E6 := one_of e6
  obtain ⟨y7, g7⟩ := get 7 (by omega)
  have h7 : DataW.trod enc Tryd.prog W 0 (fun _ => true) true n' 3 ((cs.toList.drop 7).take (Tryd.prog.cellsOf 3)) = some y7 := (hel 7 _ rfl).trans g7
  rw [celI] at h7
  obtain ⟨place, e7, _, b7⟩ := DataW.trod_int Tryd.underlying3 h7
  have E7 := one_of e7
  obtain ⟨y8, g8⟩ := get 8 (by omega)
  have h8 : DataW.trod enc Tryd.prog W 0 (fun _ => true) true n' 3 ((cs.toList.drop 8).take (Tryd.prog.cellsOf 3)) = some y8 := (hel 8 _ rfl).trans g8
  rw [celI] at h8
  obtain ⟨block, e8, _, b8⟩ := DataW.trod_int Tryd.underlying3 h8
  have E8 := one_of e8
  obtain ⟨y9, g9⟩ := get 9 (by omega)
  have h9 : DataW.trod enc Tryd.prog W 0 (fun _ => true) true n' 3 ((cs.toList.drop 9).take (Tryd.prog.cellsOf 3)) = some y9 := (hel 9 _ rfl).trans g9
  rw [celI] at h9
  obtain ⟨esi, e9, _, b9⟩ := DataW.trod_int Tryd.underlying3 h9
  have E9 := one_of e9
  obtain ⟨y10, g10⟩ := get 10 (by omega)
  have h10 : DataW.trod enc Tryd.prog W 0 (fun _ => true) true n' 22 ((cs.toList.drop 10).take (Tryd.prog.cellsOf 22)) = some y10 := (hel 10 _ rfl).trans g10
  rw [celBs] at h10
  obtain ⟨A, L, C, e10⟩ := Joins.slice_form Tryd.underlying22 h10
  have E10 := one_of e10
  rw [e10] at h10
  obtain ⟨data, hdl, hdr⟩ := bs_arg (d := y10.1) (ps := y10.2) h10 (fun n hn => by
    have hm : n ∈ d.weights Tryd.prog 26 := by
      rw [(Prod.mk.inj hx).1]
      simp only [DataW.weights, Tryd.underlying26]
      exact DataW.weights_mem_each (j := 10) rfl (by rw [List.getElem?_map, g10]; rfl) n hn
    have := List.all_eq_true.1 hsz _ (DataW.weights_mem_each ht hd n hm)
    simpa using this)
  obtain ⟨y11, g11⟩ := get 11 (by omega)
  have h11 : DataW.trod enc Tryd.prog W 0 (fun _ => true) true n' 24 ((cs.toList.drop 11).take (Tryd.prog.cellsOf 24)) = some y11 := (hel 11 _ rfl).trans g11
  rw [cPl] at h11
  obtain ⟨zs, m', _, _, _, hzs, hel2⟩ := DataW.trod_struct Tryd.underlying24 h11
  have hzl : zs.length = 5 := hzs
  have getz : ∀ i, i < 5 → ∃ y, zs[i]? = some y := fun i hi => ⟨zs[i]'(by omega), List.getElem?_eq_getElem _⟩
  obtain ⟨z0, gz0⟩ := getz 0 (by omega)
  have hz0 : DataW.trod enc Tryd.prog W 0 (fun _ => true) true m' 3 ((((cs.toList.drop 11).take 5).drop 0).take (Tryd.prog.cellsOf 3)) = some z0 := (hel2 0 _ rfl).trans gz0
  rw [celI] at hz0
  obtain ⟨size, e11, _, b11⟩ := DataW.trod_int Tryd.underlying3 hz0
  have E11 : cs.toList[11]? = _ := one5 (o := 11) (k := 0) (by decide) e11
  obtain ⟨z1, gz1⟩ := getz 1 (by omega)
  have hz1 : DataW.trod enc Tryd.prog W 0 (fun _ => true) true m' 3 ((((cs.toList.drop 11).take 5).drop 1).take (Tryd.prog.cellsOf 3)) = some z1 := (hel2 1 _ rfl).trans gz1
  rw [celI] at hz1
  obtain ⟨sym, e12, _, b12⟩ := DataW.trod_int Tryd.underlying3 hz1
  have E12 : cs.toList[12]? = _ := one5 (o := 11) (k := 1) (by decide) e12
  obtain ⟨z2, gz2⟩ := getz 2 (by omega)
  have hz2 : DataW.trod enc Tryd.prog W 0 (fun _ => true) true m' 3 ((((cs.toList.drop 11).take 5).drop 2).take (Tryd.prog.cellsOf 3)) = some z2 := (hel2 2 _ rfl).trans gz2
  rw [celI] at hz2
  obtain ⟨blocks, e13, _, b13⟩ := DataW.trod_int Tryd.underlying3 hz2
  have E13 : cs.toList[13]? = _ := one5 (o := 11) (k := 2) (by decide) e13
  obtain ⟨z3, gz3⟩ := getz 3 (by omega)
  have hz3 : DataW.trod enc Tryd.prog W 0 (fun _ => true) true m' 3 ((((cs.toList.drop 11).take 5).drop 3).take (Tryd.prog.cellsOf 3)) = some z3 := (hel2 3 _ rfl).trans gz3
  rw [celI] at hz3
  obtain ⟨long, e14, _, b14⟩ := DataW.trod_int Tryd.underlying3 hz3
  have E14 : cs.toList[14]? = _ := one5 (o := 11) (k := 3) (by decide) e14
  obtain ⟨z4, gz4⟩ := getz 4 (by omega)
  have hz4 : DataW.trod enc Tryd.prog W 0 (fun _ => true) true m' 3 ((((cs.toList.drop 11).take 5).drop 4).take (Tryd.prog.cellsOf 3)) = some z4 := (hel2 4 _ rfl).trans gz4
  rw [celI] at hz4
  obtain ⟨short, e15, _, b15⟩ := DataW.trod_int Tryd.underlying3 hz4
  have E15 : cs.toList[15]? = _ := one5 (o := 11) (k := 4) (by decide) e15
  obtain ⟨y12, g12⟩ := get 12 (by omega)
  have h12 : DataW.trod enc Tryd.prog W 0 (fun _ => true) true n' 3 ((cs.toList.drop 16).take (Tryd.prog.cellsOf 3)) = some y12 := (hel 12 _ rfl).trans g12
  rw [celI] at h12
  obtain ⟨layers, e16, _, b16⟩ := DataW.trod_int Tryd.underlying3 h12
  have E16 := one_of e16
  obtain ⟨y13, g13⟩ := get 13 (by omega)
  have h13 : DataW.trod enc Tryd.prog W 0 (fun _ => true) true n' 3 ((cs.toList.drop 17).take (Tryd.prog.cellsOf 3)) = some y13 := (hel 13 _ rfl).trans g13
  rw [celI] at h13
  obtain ⟨esis, e17, _, b17⟩ := DataW.trod_int Tryd.underlying3 h13
  have E17 := one_of e17
  obtain ⟨y14, g14⟩ := get 14 (by omega)
  have h14 : DataW.trod enc Tryd.prog W 0 (fun _ => true) true n' 3 ((cs.toList.drop 18).take (Tryd.prog.cellsOf 3)) = some y14 := (hel 14 _ rfl).trans g14
  rw [celI] at h14
  obtain ⟨base, e18, _, b18⟩ := DataW.trod_int Tryd.underlying3 h14
  have E18 := one_of e18
  obtain ⟨y15, g15⟩ := get 15 (by omega)
  have h15 : DataW.trod enc Tryd.prog W 0 (fun _ => true) true n' 3 ((cs.toList.drop 19).take (Tryd.prog.cellsOf 3)) = some y15 := (hel 15 _ rfl).trans g15
  rw [celI] at h15
  obtain ⟨len, e19, _, b19⟩ := DataW.trod_int Tryd.underlying3 h15
  have E19 := one_of e19
  refine ⟨⟨kind, sess, layer, tick, burst, sync, many, place, block, esi, data, size, sym, blocks, long, short, layers, esis, base, len⟩, A, L, C, ?_, hdr, ⟨bounds_i64 b0, bounds_i64 b1, bounds_i64 b2, bounds_i64 b3, bounds_i64 b5, bounds_i64 b6, bounds_i64 b7, bounds_i64 b8, bounds_i64 b9, bounds_i64 b11, bounds_i64 b12, bounds_i64 b13, bounds_i64 b14, bounds_i64 b15, bounds_i64 b16, bounds_i64 b17, bounds_i64 b18, bounds_i64 b19⟩⟩
  unfold pkV
  congr 1
  apply Array.toList_inj.1
  apply List.ext_getElem?
  intro i
  rw [cPk] at hsz0
  match i with
  | 0 => exact E0
  | 1 => exact E1
  | 2 => exact E2
  | 3 => exact E3
  | 4 => exact E4
  | 5 => exact E5
  | 6 => exact E6
  | 7 => exact E7
  | 8 => exact E8
  | 9 => exact E9
  | 10 => exact E10
  | 11 => exact E11
  | 12 => exact E12
  | 13 => exact E13
  | 14 => exact E14
  | 15 => exact E15
  | 16 => exact E16
  | 17 => exact E17
  | 18 => exact E18
  | 19 => exact E19
  | i + 20 => rw [List.getElem?_eq_none (by rw [Array.length_toList, hsz0]; omega), List.getElem?_eq_none (by simp)]
end Go.Proofs.YtfcofokbhhnfkaaDoor.Byt
