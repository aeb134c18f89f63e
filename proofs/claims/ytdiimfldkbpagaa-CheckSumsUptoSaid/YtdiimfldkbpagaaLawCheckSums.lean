/- CheckSums: the sum of any lists of bytes that hold at most 2^20 things in all is the reference's, and the program answers. Conditions: the row's own bound on what is read (bulk at most 1048576). -/
import Derived.Test.YtdiimfldkbpagaaRows
import Derived.Test.YtdiimfldkbpagaaQCheckSumsx
import Derived.Test.YtdiimfldkbpagaaPureCheckSums
import Derived.WalkKit
import Derived.ProofKit
import Derived.OpenShut
import Derived.ShutString
import Derived.ChangeOld
import Derived.Below
import Derived.SizedLaws
import Derived.JoinedCond
import Derived.Deep.Matrix
import Derived.Test.YtdiimfldkbpagaaWSized
namespace Go.Proofs.Ytdiimfldkbpagaa.checkSums
open Go.ChangeShapes Go.WideShapes Go.ChangeAt Go.RowKit
open Go.ChangeMaps (open_string shut_string)
open Go.Deep (intRow intRowPlaces open_int_rows)
open Go.Proofs.YtdiimfldkbpagaaW.PrintWords
set_option linter.unusedVariables false
theorem own : ownKnob Try.prog.godebug = none := by kernel_rfl
theorem laidOut : laidOutB Try.prog = true := by kernel_rfl
theorem bulk_lits {H : Type} (k : IntKind) (zs : List Int) : Rows.uptoBulkAll (lits (H := H) k zs) = zs.length := by
  induction zs with
  | nil => rfl
  | cons z zs ih =>
    show Rows.uptoBulk _ + Rows.uptoBulkAll (lits (H := H) k zs) = _
    rw [ih, List.length_cons]
    show 1 + zs.length = _
    omega
theorem bulk_row {H : Type} (k : IntKind) (A : Option Addr) (L : Nat) (zs : List Int) (h : A = none → L = 0) (hl : L ≤ zs.length) : L + 1 ≤ Rows.uptoBulk (intRow (H := H) k A L zs) := by
  cases A with
  | none => rw [h rfl]; exact Nat.le_refl 1
  | some a =>
    show L + 1 ≤ Rows.uptoBulkAll (lits (H := H) k (zs.take L)) + Rows.uptoBulkAll (lits (H := H) k (zs.drop L)) + 1
    rw [bulk_lits, bulk_lits, List.length_take]
    omega
theorem bulk_all {H : Type} (D : Nat → DataW H) (f : Nat → Nat) : ∀ (l : List Nat), (∀ r ∈ l, f r + 1 ≤ Rows.uptoBulk (D r)) → (l.map f).sum + l.length ≤ Rows.uptoBulkAll (l.map D)
  | [], _ => Nat.le_refl 0
  | r :: l, h => by
    have h1 := h r (by simp)
    have h2 := bulk_all D f l (fun x hx => h x (by simp [hx]))
    show f r + (l.map f).sum + (l.length + 1) ≤ Rows.uptoBulk (D r) + Rows.uptoBulkAll (l.map D)
    omega
set_option maxRecDepth 100000 in
theorem lifted (os : Os) (started : os.Started) (H : Type) (enc : TypeId × Value → H) (F0 : Stop.Interp) :
    ReturnsInHanded {} Try.checked os 3 .any ((Rows.OpenSpec.upto Rows.checkSumsSpec).pre6 enc Try.prog Try.f3 Rows.checkSumsUptoRow.domain false) (((Rows.OpenSpec.upto Rows.checkSumsSpec).at F0).post enc Try.prog Try.f3 false true false false) := by
  refine returnsInHanded_of_cond (C := Try.checked) (s := Rows.OpenSpec.upto Rows.checkSumsSpec) (k := Rows.uptoSmall) rfl own started (by kernel_rfl) Try.func3
    (OpenSpec.witness (enc := enc) (C := Try.checked) (s := Rows.OpenSpec.upto Rows.checkSumsSpec) (k := Rows.uptoSmall) rfl false ⟨#[], #[.slice none 0 0], []⟩ 8 (by kernel_rfl) (by kernel_rfl) (by kernel_rfl) (x := ([.nil], [], [])) (by kernel_rfl) (by kernel_rfl) (by kernel_rfl)) ?_
  intro W base args ds gs before hval0 hW hcnd hk _
  have hval : ∀ (j : Nat) t v, Try.f3.params[j]? = some t → args[j]? = some v → Value.okWide Try.prog W .any base t v := hval0
  have hW' := hW
  obtain ⟨p, q, hA0, hV, rfl, hfz, hnd⟩ := hW
  have hA : DataW.TrodAll enc Try.prog W 0 (fun _ => true) true Try.f3.params.toList args.toList ds p := hA0
  rw [Try.params3] at hA hval
  obtain ⟨v0, vs0, d0, ds0, p0, q0, hargs, rfl, rfl, h0, r0⟩ := trodAll_cons hA
  obtain ⟨rfl, rfl, rfl⟩ := trodAll_nil r0
  obtain rfl : args = #[v0] := by cases args; simp_all
  obtain ⟨rfl, rfl⟩ := trodVars_none hV
  obtain ⟨a0, len0, cap0, rfl⟩ := okWide_slice Try.underlying22 (hval 0 22 v0 rfl rfl)
  have k0 := h0
  have lt0 : ∀ x ∈ p0, x.block < W.heap.size := by obtain ⟨m, hm⟩ := k0; exact DataW.trod_lt m _ _ _ hm
  obtain ⟨l, hlen, hC, hle, hwf, hsum⟩ : ∃ l : List (List Int), len0 = l.length ∧ (Kd.slice 5 (Kd.int .u8)).C W a0 l.length l ∧ l.length ≤ cap0 ∧ (∀ x ∈ l, ∀ y ∈ x, (Lit.int .u8 y).wf = true) ∧ l.flatten.length + l.length ≤ 1048576 := by
    obtain ⟨fuel, hf⟩ := h0
    rcases open_int_rows Try.underlying22 Try.underlying23 Try.underlying5 (by kernel_rfl) (by kernel_rfl) hf with ⟨hcs, _⟩ | ⟨a, len, cap, A, L, C, Z, hcs, _, hl, hm, hx, hrow⟩
    · simp [Value.cells] at hcs
      obtain ⟨rfl, rfl, rfl⟩ := hcs
      exact ⟨[], rfl, Kd.C_nil _ _, Nat.le_refl _, by simp, by simp⟩
    · simp [Value.cells] at hcs
      obtain ⟨rfl, rfl, rfl⟩ := hcs
      obtain ⟨hx, _⟩ := Prod.mk.inj hx
      subst hx
      have hz : ∀ r, r < len0 → ((Z r).take (L r)).length = L r := fun r hr => by
        obtain ⟨_, h1, _, h3, _⟩ := hrow r (by omega)
        rw [List.length_take]; omega
      have hbulk : Rows.uptoBulkAll ([DataW.slice ((List.range len0).map fun r => intRow (H := H) .u8 (A r) (L r) (Z r)) ((List.range (cap0 - len0)).map fun j => intRow .u8 (A (len0 + j)) (L (len0 + j)) (Z (len0 + j)))] ++ []) ≤ 1048576 := of_decide_eq_true hk
      have hrows := bulk_all (fun r => intRow (H := H) .u8 (A r) (L r) (Z r)) L (List.range len0) (fun r hr => by
        have hr' := List.mem_range.1 hr
        obtain ⟨_, h1, _, h3, _, h5, _⟩ := hrow r (by omega)
        exact bulk_row .u8 (A r) (L r) (Z r) (fun e => by have := h5 e; omega) (by omega))
      have hb2 : ((List.range len0).map L).sum + len0 ≤ 1048576 := by
        rw [List.length_range] at hrows
        have e : Rows.uptoBulkAll ([DataW.slice ((List.range len0).map fun r => intRow (H := H) .u8 (A r) (L r) (Z r)) ((List.range (cap0 - len0)).map fun j => intRow .u8 (A (len0 + j)) (L (len0 + j)) (Z (len0 + j)))] ++ []) =
          (Rows.uptoBulkAll ((List.range len0).map fun r => intRow (H := H) .u8 (A r) (L r) (Z r)) + Rows.uptoBulkAll ((List.range (cap0 - len0)).map fun j => intRow (H := H) .u8 (A (len0 + j)) (L (len0 + j)) (Z (len0 + j))) + 1) + 0 := rfl
        rw [e] at hbulk
        omega
      refine ⟨(List.range len0).map fun r => (Z r).take (L r), by simp, ?_, by simpa using hl, ?_, ?_⟩
      · refine ⟨rfl, by simp; have : maxLen ≤ 9223372036854775807 := by decide
                        omega, fun _ => ⟨a, rfl, fun j p hj => ?_⟩⟩
        have hj1 : j < len0 := by
          have := (List.getElem?_eq_some_iff.1 hj).1
          simpa using this
        obtain rfl : (Z j).take (L j) = p := by simpa [hj1] using hj
        obtain ⟨hc, h1, h2, h3, h4, h5, h6⟩ := hrow j (by omega)
        refine ⟨[.slice (A j) ((Z j).take (L j)).length (C j)], rfl, ⟨A j, C j, rfl, by rw [hz j hj1]; exact h1, ?_⟩, fun i u hu => ?_⟩
        · refine ⟨rfl, by rw [hz j hj1]; have : maxLen ≤ 9223372036854775807 := by decide
                          omega, fun hpos => ?_⟩
          rw [hz j hj1] at hpos
          cases hA' : A j with
          | none => have := h5 hA'; omega
          | some a' =>
            refine ⟨a', rfl, fun i p hi => ⟨[.int .u8 p], rfl, rfl, fun i2 u hu => ?_⟩⟩
            have hi1 : i < ((Z j).take (L j)).length := (List.getElem?_eq_some_iff.1 hi).1
            rw [hz j hj1] at hi1
            have := (h6 a' hA').2 i (by omega)
            match i2, hu with
            | 0, hu =>
              obtain rfl : Value.int .u8 p = u := by simpa using hu
              have hp : (Z j).getD i 0 = p := by
                rw [List.getElem?_take_of_lt hi1] at hi
                rw [List.getD_eq_getElem?_getD, hi]
                rfl
              rw [hp] at this
              rw [show i * (Kd.int .u8).sz + 0 = i by show i * 1 + 0 = i; omega]
              exact this
        · match i, hu with
          | 0, hu =>
            obtain rfl : Value.slice (A j) ((Z j).take (L j)).length (C j) = u := by simpa using hu
            rw [show j * (Kd.slice 5 (Kd.int .u8)).sz + 0 = j by show j * 1 + 0 = j; omega, hz j hj1]
            exact hc
      · intro x hx y hy
        obtain ⟨r, hr, rfl⟩ := List.mem_map.1 hx
        have hr' := List.mem_range.1 hr
        exact (hrow r (by omega)).2.2.2.2.1 y (List.mem_of_mem_take hy)
      · rw [List.length_flatten, List.map_map, List.length_map, List.length_range]
        have : (List.range len0).map (List.length ∘ fun r => (Z r).take (L r)) = (List.range len0).map L := List.map_congr_left (fun r hr => hz r (List.mem_range.1 hr))
        rw [this]
        exact hb2
  clear hA0 hval0
  subst hlen
  obtain ⟨kk, hkk⟩ := Pure.CheckSums l hwf (by omega) (by omega)
  refine (QCheckSums.geyserlaw15_CheckSums.calls kk a0 cap0 l true W hC hle hkk).mono fun e W' ⟨he, bel⟩ => ?_
  subst he
  exact ⟨_, rfl, _, _, _, [], _, [], hW', trodAll_mk1 (shut_bool Try.underlying4 _), (trodAll_cons_mk (Below.trod laidOut (by kernel_rfl) (of_decide_eq_true (by kernel_rfl)) k0 bel lt0) trodAll_mk0), rfl, bel.frame _, fun h => by cases h⟩
theorem over : Rows.checkSumsUptoRow.holds Try.pinned (Rows.OpenSpec.upto Rows.checkSumsSpec) :=
  OpenClaim.holds_of_cond 3 Try.f3 rfl rfl rfl rfl rfl rfl rfl ⟨rfl, rfl, rfl, rfl, rfl⟩ rfl rfl rfl rfl rfl (by kernel_rfl) Try.func3 (by kernel_rfl)
    (of_decide_eq_true (by kernel_rfl)) (by unfold Func.isWrapper; first | (rw [if_pos (by decide +kernel)]; kernel_rfl) | (rw [if_neg (by decide +kernel)]; exact ⟨rfl, rfl⟩))
    (fun os started H enc _ F0 => lifted os started H enc F0)
theorem proved : Rows.CheckSumsUptoSaid := over
#print axioms proved
end Go.Proofs.Ytdiimfldkbpagaa.checkSums
namespace Go.Proofs.Ytdiimfldkbpagaa
/-- The row, under a short name, for the claim. -/
theorem checkSums_holds : Rows.CheckSumsUptoSaid := checkSums.proved
end Go.Proofs.Ytdiimfldkbpagaa
