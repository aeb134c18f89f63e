/- Any marks of any controller: by how much the level changes, and what is known behind it, as the reference says; or why there is no such controller; and the program answers. -/
import Derived.Test.YtgbghjbihddpjaaDoorRows
import Derived.Test.YtgbghjbihddpjaaDoorQControlPlaysx
import Derived.Test.YtgbghjbihddpjaaDoorPureControlPlays
import Derived.Test.YtgbghjbihddpjaaDoorBadControlPlays
import Derived.WalkKit
import Derived.ProofKit
import Derived.OpenShut
import Derived.ShutString
import Derived.ChangeOld
import Derived.Below
import Derived.SizedLaws
import Derived.Test.YtgbghjbihddpjaaDoorLaid
import Derived.Test.YtgbghjbihddpjaaDoorCards
import Derived.Test.YtgbghjbihddpjaaDoorTie
import Derived.SevenTiedAt
import Derived.Deep.Slices
import Derived.Lib.SmallJoins
namespace Go.Proofs.YtgbghjbihddpjaaDoor.controlPlays
open Go.ChangeShapes Go.WideShapes Go.ChangeAt Go.RowKit
open Go.ChangeMaps (open_string shut_string)
open Go.Deep (open_slice choose_lt)
open Go.Proofs.YtgbghjbihddpjaaDoorW.PrintWords Go.Proofs.YtgbghjbihddpjaaDoor.QControlPlays
set_option linter.unusedVariables false
theorem laidOut : laidOutB Tryd.prog = true := by kernel_rfl
theorem cM : Tryd.prog.cellsOf 36 = 4 := by kernel_rfl
theorem cB : Tryd.prog.cellsOf 4 = 1 := by kernel_rfl
theorem cI : Tryd.prog.cellsOf 3 = 1 := by kernel_rfl
theorem one_at {cs : List Value} {o : Nat} {v : Value} (h : (cs.drop o).take 1 = [v]) : cs[o]? = some v := by
  have e := congrArg (fun l => l[0]?) h
  simpa [List.getElem?_take, List.getElem?_drop] using e
theorem add_add (x : Addr) (a b : Nat) : (x.add a).add b = x.add (a + b) := by
  by_cases ha : a = 0
  · subst ha; simp [Addr.add]
  · by_cases hb : b = 0
    · subst hb; simp [Addr.add]
    · simp [Addr.add, ha, hb, Nat.add_assoc]
theorem marks_open {H : Type} {enc : TypeId × Value → H} {W : World} {a : Option Addr} {len cap : Nat} {d : DataW H} {ps : List MemPlace}
    (h0 : DataW.Trod enc Tryd.prog W 0 (fun _ => true) true 22 (.slice a len cap) d ps) : ∃ l : List S36, len = l.length ∧ Kd.C k36 W a l.length l ∧ l.length ≤ cap := by
  obtain ⟨fuel, hf⟩ := h0
  rcases open_slice Tryd.underlying22 hf with ⟨hcs, _⟩ | ⟨x, l, c, m, n, D, Pl, hcs, hb, hl, hm, hmm, hx, hrow⟩
  · simp [Value.cells] at hcs
    obtain ⟨rfl, rfl, rfl⟩ := hcs
    exact ⟨[], rfl, Kd.C_nil _ _, Nat.le_refl _⟩
  · simp [Value.cells] at hcs
    obtain ⟨rfl, rfl, rfl⟩ := hcs
    simp only [if_true] at hmm
    have hmm' := hmm.symm
    subst hmm'
    have each : ∀ i, i < cap → ∃ z : S36, W.cell? (x.add (i * 4)) = some (.bool z.f0) ∧ W.cell? (x.add (i * 4 + 1)) = some (.bool z.f1) ∧ W.cell? (x.add (i * 4 + 2)) = some (.bool z.f2) ∧ W.cell? (x.add (i * 4 + 3)) = some (.int .i64 z.f3) := by
      intro i hi
      obtain ⟨cs', h1, h2⟩ := hrow i hi
      rw [cM] at h1
      obtain ⟨y0, y1, y2, y3, n', _, _, t0, t1, t2, t3⟩ := Joins.trod_struct4 Tryd.underlying36 h2
      obtain ⟨_, _, hc⟩ := World.cells?_some h1
      dsimp only at t0 t1 t2 t3
      rw [cB] at t0 t1 t2
      rw [cI] at t3
      obtain ⟨b0, e0, _⟩ := DataW.trod_bool Tryd.underlying4 t0
      obtain ⟨b1, e1, _⟩ := DataW.trod_bool Tryd.underlying4 t1
      obtain ⟨b2, e2, _⟩ := DataW.trod_bool Tryd.underlying4 t2
      obtain ⟨i3, e3, _⟩ := DataW.trod_int Tryd.underlying3 t3
      refine ⟨⟨b0, b1, b2, i3⟩, ?_, ?_, ?_, ?_⟩
      · have := hc 0 (by omega); rw [add_add] at this; exact this.trans (one_at e0)
      · have := hc 1 (by omega); rw [add_add] at this; exact this.trans (one_at e1)
      · have := hc 2 (by omega); rw [add_add] at this; exact this.trans (one_at e2)
      · have := hc 3 (by omega); rw [add_add] at this; exact this.trans (one_at e3)
    haveI : Inhabited S36 := ⟨z36⟩
    obtain ⟨z, hz⟩ := choose_lt each
    refine ⟨(List.range len).map z, by simp, ?_, by simpa using hl⟩
    refine ⟨rfl, by simp; have : maxLen ≤ 9223372036854775807 := by decide
                    omega, fun _ => ⟨x, rfl, fun j p hj => ?_⟩⟩
    have hj1 : j < len := by
      have := (List.getElem?_eq_some_iff.1 hj).1
      simpa using this
    obtain rfl : z j = p := by simpa [hj1] using hj
    obtain ⟨z0, z1, z2, z3⟩ := hz j (by omega)
    refine ⟨[.bool (z j).f0, .bool (z j).f1, .bool (z j).f2, .int .i64 (z j).f3], rfl, k36_mk W (z j), fun i u hu => ?_⟩
    rw [show j * (k36).sz + i = j * 4 + i from rfl]
    match i, hu with
    | 0, hu => obtain rfl : Value.bool (z j).f0 = u := by simpa using hu
               exact z0
    | 1, hu => obtain rfl : Value.bool (z j).f1 = u := by simpa using hu
               exact z1
    | 2, hu => obtain rfl : Value.bool (z j).f2 = u := by simpa using hu
               exact z2
    | 3, hu => obtain rfl : Value.int .i64 (z j).f3 = u := by simpa using hu
               exact z3
set_option maxRecDepth 100000 in
theorem lifted (os : Os) (started : os.Started) (H : Type) (enc : TypeId × Value → H) :
    ReturnsInHanded {} Tryd.checked os 3 .any (fun w args => (Rows.controlPlaysSpec.pre enc Tryd.prog Tryd.f3 [] false w args ∧ laidMetH Tryd.prog Laid.laid w) ∧ sizedMet enc Tryd.prog Tryd.f3 (OpenSpec.ofChange Rows.controlPlaysSpec) false w args) (Rows.controlPlaysSpec.post enc Tryd.prog Tryd.f3 false true false false) := by
  refine returnsInHanded_of_change_and (C := Tryd.checked) (X := fun w _ => laidMetH Tryd.prog Laid.laid w) (fun _ _ _ hh h => h.of_heap hh) Laid.own started (by kernel_rfl) Tryd.func3
    (ChangeSpec.witness_at (enc := enc) (C := Tryd.checked) (os := os) (X := fun w _ => laidMetH Tryd.prog Laid.laid w) false (Laid.laidWorld os) #[.int .i64 0, .int .i64 0, .slice none 0 0] 8 rfl (by kernel_rfl) (by kernel_rfl) (by kernel_rfl) (by kernel_rfl) (by kernel_rfl) (Laid.laidWorld_met os _)) ?_
  intro W base args ds gs before hval0 hW hcnd hsz0 hL _
  have hsz : (DataW.weightsEach Tryd.prog (Tryd.f3.params.toList ++ Rows.controlPlaysSpec.plain.varTypes Tryd.prog) (ds ++ gs)).all (· ≤ reachBytes) = true := hsz0
  have hval : ∀ (j : Nat) t v, Tryd.f3.params[j]? = some t → args[j]? = some v → Value.okWide Tryd.prog W .any base t v := hval0
  have hW' := hW
  obtain ⟨p, q, hA0, hV, rfl, hfz, hnd⟩ := hW
  have hA : DataW.TrodAll enc Tryd.prog W 0 (fun _ => true) true Tryd.f3.params.toList args.toList ds p := hA0
  rw [Tryd.params3] at hA hval hsz
  obtain ⟨v0, vs0, d0, ds0, p0, q0, hargs, rfl, rfl, h0, r0⟩ := trodAll_cons hA
  obtain ⟨v1, vs1, d1, ds1, p1, q1, rfl, rfl, rfl, h1, r1⟩ := trodAll_cons r0
  obtain ⟨v2, vs2, d2, ds2, p2, q2, rfl, rfl, rfl, h2, r2⟩ := trodAll_cons r1
  obtain ⟨rfl, rfl, rfl⟩ := trodAll_nil r2
  obtain rfl : args = #[v0, v1, v2] := by cases args; simp_all
  obtain ⟨rfl, rfl⟩ := trodVars_none hV
  obtain ⟨a0, rfl, rfl, rfl, w0⟩ := open_int Tryd.underlying3 (hval 0 3 v0 rfl rfl) h0
  obtain ⟨a1, rfl, rfl, rfl, w1⟩ := open_int Tryd.underlying3 (hval 1 3 v1 rfl rfl) h1
  obtain ⟨a2, len2, cap2, rfl⟩ := okWide_slice Tryd.underlying22 (hval 2 22 v2 rfl rfl)
  have k2 := h2
  have lt2 : ∀ x ∈ p2, x.block < W.heap.size := by obtain ⟨m, hm⟩ := k2; exact DataW.trod_lt m _ _ _ hm
  obtain ⟨l, hlen, hC, hle⟩ := marks_open h2
  clear hA0 hval0 hsz0 hsz
  subst hlen
  refine (Bad.plays.walk Pure.ControlPlays a0 a1 l a2 cap2 W hC hle (Laid.handle_of_laid hL)).mono fun e W' ⟨he, bel⟩ => ?_
  subst he
  exact ⟨_, rfl, _, _, _, [], _, [], hW', trodAll_mk1 (shut_bool Tryd.underlying4 _), (trodAll_cons_mk (shut_int Tryd.underlying3 w0) (trodAll_cons_mk (shut_int Tryd.underlying3 w1) (trodAll_cons_mk (Below.trod laidOut (by kernel_rfl) (of_decide_eq_true (by kernel_rfl)) k2 bel lt2) trodAll_mk0))), rfl, bel.frame _, fun h => by cases h⟩
theorem over : Rows.controlPlaysRow.holds Tryd.pinned (OpenSpec.ofChange Rows.controlPlaysSpec) :=
  OpenClaim.holds_of_wide 3 Tryd.f3 rfl rfl rfl rfl rfl rfl rfl ⟨rfl, rfl, rfl, rfl, rfl⟩ rfl rfl rfl rfl rfl (by kernel_rfl) Tryd.func3 (by kernel_rfl)
    (of_decide_eq_true (by kernel_rfl)) (by unfold Func.isWrapper; first | (rw [if_pos (by decide +kernel)]; kernel_rfl) | (rw [if_neg (by decide +kernel)]; exact ⟨rfl, rfl⟩))
    (fun os started H enc _ => lifted os started H enc)
theorem proved : Rows.ControlPlaysSaid := over
theorem card : Rows.ControlPlaysCardSaid :=
  Claim7.holds_tied_plain_at .later [] [.handle] true (true, "2de63790d398abcf125b0559ee082b29503949e11b9a8cd30745f522050bee3d") true
    proved (fun _ h => by cases h) (by kernel_rfl) (fun _ h => by cases h) controlPlays_row_tie rfl ⟨rfl, rfl⟩ (by kernel_rfl) rfl
    (fun f fn hf hfn => by
      obtain rfl : f = 3 := Option.some.inj ((show Tryd.prog.funcNamed "geyser/geyserlaw21.ControlPlays" = some 3 by kernel_rfl).symm.trans hf) |>.symm
      obtain rfl : fn = Tryd.f3 := (Option.some.inj (Tryd.func3.symm.trans hfn)).symm
      exact ⟨by kernel_rfl, fun j t ht => by
        rw [Tryd.params3] at ht
        rcases j with _ | _ | _ | j
        · obtain rfl : 3 = t := by simpa using ht
          exact (show Tryd.prog.wantsStandIn 3 = false by kernel_rfl)
        · obtain rfl : 3 = t := by simpa using ht
          exact (show Tryd.prog.wantsStandIn 3 = false by kernel_rfl)
        · obtain rfl : 22 = t := by simpa using ht
          exact (show Tryd.prog.wantsStandIn 22 = false by kernel_rfl)
        · simp at ht⟩)
    (by kernel_rfl)
#print axioms card
end Go.Proofs.YtgbghjbihddpjaaDoor.controlPlays
namespace Go.Proofs.YtgbghjbihddpjaaDoor
/-- The card, under a short name, for the claim. -/
theorem controlPlays_card : Rows.ControlPlaysCardSaid := controlPlays.card
end Go.Proofs.YtgbghjbihddpjaaDoor
