/- geyserlaw16.copied and geyserlaw16.awake by their contracts. Conditions: bytes as they may be read. -/
import Derived.Test.YtfcofokbhhnfkaaDoorWirM
import Derived.Test.YtfcofokbhhnfkaaDoorSamR
namespace Go.Proofs.YtfcofokbhhnfkaaDoor.Byt
set_option linter.unusedSimpArgs false
set_option linter.unusedVariables false
open Go.RowKit Go.Deep Go.Proofs.YtfcofokbhhnfkaaDoor.Er Go.Proofs.YtfcofokbhhnfkaaDoorW.PrintWords Go.Proofs.YtfcofokbhhnfkaaDoorW.PrintLast Go.Proofs.YtfcofokbhhnfkaaDoorW.PrintMore
theorem results_c1 {P : Program} {fn : Func} {p : Tmp} {ty : TypeId} (h : fn.results = #[.cell p ty]) (tmps : Array Value) (w : World) (g : Nat) (t : TypeId) (cs : Array Value) (fr : Nat × Nat) (d : TypeDesc)
    (hp : tmps.getD p undef = .pointer (some ⟨g, 0, none⟩)) (hg : w.heap[g]? = some (.cells cs t fr))
    (hu : P.underlying ty = some d) (hd : (match d with | .struct _ | .array _ _ => true | _ => false) = true) (hi : (P.info? ty).map (·.size) = some cs.size) :
    (results fn tmps).run P w = .ok (.agg cs) w := by
  have hp' : tmps[p]?.getD undef = .pointer (some ⟨g, 0, none⟩) := by simpa using hp
  simp [results, h, hp', asAddr, run_loadVar_row w g t ty cs fr d hg hu hd hi]
theorem run_ldpk {o : Oper} {a : Act} {W : World} {p : Pk} {v : Value} {g : Nat} (x : Operand) (ho : o.op = .load 26 x) (hx : a.eval x = .pointer (some ⟨g, 0, none⟩)) (h : PkAt W g p v) : (execOp a.eval o).run Tryd.prog W = .ok (.value (pkV p v)) W := by
  unfold execOp
  simp only [ho, hx, Instr.loadAt, Instr.sureAddr, Sem.run_bind, Sem.run_pure, Result.andThen_ok, h.load]
theorem PkAt.drew {w : World} {g : Nat} {p : Pk} {v : Value} (h : PkAt w g p v) : PkAt w.drew g p v := h
theorem OB.alloc {B : Nat} {w : World} {v : Value} {l : List Int} (h : OB B w v l) (o : Obj) : OB B (w.alloc o) v l := h.below ((Below.refl _ _).alloc (Nat.le_refl _) o)
theorem PkAt.only {w w' : World} {g k : Nat} {p : Pk} {v : Value} (h : PkAt w g p v) (hO : Only w w' k) (hk : g ≠ k) : PkAt w' g p v := (hO.block g hk).trans h
set_option maxHeartbeats 4000000 in
set_option maxRecDepth 100000 in
theorem copied_calls {D : Nat → Prop} (p : Pk) (u : Value) (w : World) (hp : RdB D w u p.data) (hD : ∀ k, D k → k < w.heap.size) :
    Calls Tryd.prog 9 #[pkV p u] w fun e w' => ∃ v', e = .returned (pkV p v') ∧ OB w.heap.size w' v' p.data ∧ Below w.heap.size w w' := by
  have HR := Lib.hid hp
  have HD := Lib.hid hD
  obtain ⟨A, c, rfl, hc1, hc2, _, _⟩ := hp
  have HU : Hid (Value.cells (.slice A p.data.length c) = #[.slice A p.data.length c]) := Lib.hid rfl
  obtain ⟨m, hm⟩ : ∃ m, m = p.data.length := ⟨_, rfl⟩
  have HM := Lib.hid hm
  rw [← hm] at HR HU ⊢
  clear hm hD hc1 hc2
  go_enter Tryd.func9, Tryd.ntmps9
  go_upto_region 1 with (first
    | ((with_reducible refine gate_dst (N := 1) rfl ?_); refine wp_box rfl (.tmp 0) rfl rfl rfl ?_; intro w1 hP hB hs; have HP := Lib.hid (And.intro hP (And.intro hB hs)); clear hP hB hs)
    | ((with_reducible refine gate_dst (N := 2) rfl ?_); refine wp_allocPk rfl rfl ?_; intro w2 hP hB hs; have HP2 := Lib.hid (And.intro (HP.out.1.below hB) (And.intro hP (HP.out.2.1.trans (hB.mono HP.out.2.1.size)))); clear hP hB hs))
  have HP3 : Hid (PkAt (w2.alloc (.cells #[] 5)) w.heap.size p (.slice A m c)) := Lib.hid (HP2.out.1.below ((Below.refl _ _).alloc (Nat.le_refl _) _))
  have s10 : (w2.alloc (.cells #[] 5)).cell? ⟨w.heap.size, 10, none⟩ = some (.slice A m c) := (blk_cell HP3.out 10).trans rfl
  have HC1 : Hid (RdB D (w2.alloc (.cells #[] 5)) (.slice A m c) p.data) := Lib.hid (HR.out.keep (fun k hk => ((HP2.out.2.2.alloc HP2.out.2.2.size _).block k (HD.out k hk))))
  have HC2 : Hid (w.heap.size ≤ w2.heap.size) := Lib.hid HP2.out.2.2.size
  have HC3 : Hid (w.heap.size ≤ (w2.alloc (.cells #[] 5)).heap.size) := Lib.hid (by have := HC2.out; simp; omega)
  go_upto_region 2 with (first
    | (at_builtin
       refine wp_copyO w.heap.size rfl (.tmp 3) (.tmp 5) rfl rfl rfl HC1.out (heap_new _ _) HC2.out HC3.out ?_
       intro A10 c10 w10 hO hF
       have hb := hF.below ((Below.refl _ _).alloc (Nat.le_refl _) _) (by simp) (fun k e => by omega)
       have HPd := Lib.hid (And.intro (HP2.out.1.below hb) (And.intro (HP2.out.2.1.below hb) (HP2.out.2.2.trans (hb.mono HP2.out.2.2.size))))
       have HOd := Lib.hid hO
       clear hO hF hb s10 HC1 HC2 HC3 HP2 HP3
       have s10 : w10.cell? ⟨w.heap.size, 10, none⟩ = some (.slice A m c) := (blk_cell HPd.out.1 10).trans rfl
       have f10 := blk_frozen HPd.out.1 10))
  have hlt : w.heap.size < w1.heap.size := by have := HP.out.2.2; omega
  have HPE : Hid (PkAt (w10.setCell ⟨w.heap.size, 10, none⟩ (.slice A10 p.data.length c10)) w.heap.size p (.slice A10 p.data.length c10)) := Lib.hid (by
    have := blk_set HPd.out.1 10 (.slice A10 p.data.length c10)
    rw [List.setIfInBounds_toArray] at this
    exact this)
  have HPR : Hid (PkAt (w10.setCell ⟨w.heap.size, 10, none⟩ (.slice A10 p.data.length c10)) w1.heap.size pk0 (.slice none 0 0)) := Lib.hid (HPd.out.2.1.only (Only.set _ _ _ _) (by omega))
  have HOE := Lib.hid (HOd.out.only (Only.set w10 w.heap.size 10 (.slice A10 p.data.length c10)) HPd.out.1)
  have HBE : Hid (Below w.heap.size w (w10.setCell ⟨w.heap.size, 10, none⟩ (.slice A10 p.data.length c10))) := Lib.hid ((Only.set w10 w.heap.size 10 _).below HPd.out.2.2 (Nat.le_refl _))
  clear s10 f10 HOd HPd
  generalize (w10.setCell ⟨w.heap.size, 10, none⟩ (.slice A10 p.data.length c10)) = wE at HPE HPR HOE HBE ⊢
  go_wp2_with (first
    | ((with_reducible refine gate_dst (N := 8) rfl ?_); refine wp_ldpk rfl (.tmp 1) rfl rfl HPE.out ?_)
    | ((with_reducible refine gate_store (t := 26) (p := 2) rfl ?_)
       refine wp_stpk (p := p) (A := A10) (L := p.data.length) (c := c10) rfl rfl rfl rfl HPR.out rfl ?_
       intro w4 hP hO
       have HE4 := Lib.hid (And.intro hP hO)
       clear hP hO))
  (try simp only [Exit.inBlock, Exit.then])
  refine bodyPost_ret (results_c1 rfl _ _ w1.heap.size _ _ _ _ rfl HE4.out.1 Tryd.underlying26 rfl (show (Tryd.prog.info? 26).map (·.size) = some 20 by kernel_rfl)) rfl ?_
  exact ⟨.slice A10 p.data.length c10, rfl, HOE.out.only HE4.out.2 HPR.out, HE4.out.2.below HBE.out (by omega)⟩
theorem freeze_cell' (W : World) (a x : Addr) (n : Nat) : (W.freeze a n).cell? x = W.cell? x := by
  unfold World.freeze
  split
  · rfl
  · unfold World.cell?
    simp only [Array.getElem?_modify]
    by_cases h : a.block = x.block
    · rw [if_pos h]
      cases W.heap[x.block]? with
      | none => rfl
      | some o => cases o <;> rfl
    · rw [if_neg h]
theorem wp_conv1 {ops : Array Oper} {rest : List Oper} {o : Oper} {a : Act} {Q : Exit → Act → World → Prop} {W : World} {g : Nat} {x0 : Int} (hgd : o.guard = none) (x : Operand) (ho : o.op = .convert 22 22 x) (hx : a.eval x = .slice (some ⟨g, 0, none⟩) 1 1) (hg : W.heap[g]? = some (.cells #[.int .u8 x0] 5 (0, 0))) (hx0 : 0 ≤ x0 ∧ x0 < 256)
    (k : ∀ w', RdB (fun k => k = g) w' (.slice (some ⟨g, 0, none⟩) 1 1) [x0] → Only W w' g → wpList Tryd.prog ops Q rest (a.put o.dst (.slice (some ⟨g, 0, none⟩) 1 1)) w') : wpList Tryd.prog ops Q (o :: rest) a W := by
  have hrun : (execOp a.eval o).run Tryd.prog W = .ok (.value (.slice (some ⟨g, 0, none⟩) 1 1)) (W.freeze ⟨g, 1, none⟩ 1) := by
    unfold execOp
    simp [ho, hx, convert, run_underlying Tryd.underlying22, run_underlying Tryd.underlying5, markStringish, World.shape?, hg, Result.andThen]
  refine Kd.event_run hgd hrun (k _ ?_ ?_)
  · refine ⟨_, 1, rfl, Nat.le_refl _, by simp, by simpa using hx0, fun _ => ⟨_, rfl, rfl, fun j x hj => ?_⟩⟩
    have hj0 : j = 0 ∧ x = x0 := by
      match j, hj with
      | 0, hj => exact ⟨rfl, by simpa using hj.symm⟩
    obtain ⟨rfl, rfl⟩ := hj0
    rw [freeze_cell']
    exact (blk_cell hg 0).trans rfl
  · refine ⟨rfl, rfl, rfl, by simp [World.freeze], fun k hk => ?_⟩
    have hne : g ≠ k := fun e => hk e.symm
    simp [World.freeze, Array.getElem?_modify, hne]
def pA : Pk := ⟨1, 1, 2, 3, false, -1, 1, 0, 0, 5, [97], 0, 0, 0, 0, 0, 0, 0, 0, 0⟩
theorem pA_ok : whyP pA = 0 := by decide
theorem pA_len : (putL pA).length = 22 := by
  rw [show putL pA = addI (bodyI pA) from if_pos pA_ok, addI_len]
  have : (bodyI pA).length = 18 := by decide
  omega
theorem RdB.only {D : Nat → Prop} {w w' : World} {g : Nat} {p : Pk} {u v : Value} {l : List Int} (h : RdB D w v l) (hO : Only w w' g) (hD : ∀ k, D k → k ≠ g) : RdB D w' v l := h.keep (fun k hk => hO.block k (hD k hk))
theorem RdB.belowD {D : Nat → Prop} {w w' : World} {v : Value} {l : List Int} (h : RdB D w v l) (hb : Below w.heap.size w w') (hD : ∀ k, D k → k < w.heap.size) : RdB D w' v l := h.keep (fun k hk => hb.block k (hD k hk))
set_option maxHeartbeats 4000000 in
set_option maxRecDepth 100000 in
theorem awake_calls (w : World) : Calls Tryd.prog 11 #[] w fun e w' => e = .returned (.bool true) ∧ Below w.heap.size w w' := by
  go_enter Tryd.func11, Tryd.ntmps11
  go_upto_region 2 with (first
    | ((with_reducible refine gate_dst (N := 7) rfl ?_); refine wp_conv1 (g := w.heap.size) (x0 := 97) rfl (.tmp 6) rfl rfl (heap_new _ _) (by decide) ?_; intro w1 hR hO; have H1 := Lib.hid (And.intro hR (hO.below ((Below.refl _ _).alloc (Nat.le_refl _) _) (Nat.le_refl _))); have H1s : Hid (w1.heap.size = w.heap.size + 1) := Lib.hid (by rw [hO.size]; simp); clear hR hO)
    | ((with_reducible refine gate_dst (N := 1) rfl ?_); refine wp_allocPk rfl rfl ?_; intro w2 hP hB hs; have HP2 := Lib.hid (And.intro hP (And.intro hB hs)); clear hP hB hs)
    | ((with_reducible refine gate_store (t := 26) (p := 1) rfl ?_)
       refine wp_stpk (p := pA) (A := some ⟨w.heap.size, 0, none⟩) (L := 1) (c := 1) rfl rfl rfl rfl HP2.out.1 rfl ?_
       intro w3 hP hO
       have H3 := Lib.hid (And.intro hP (And.intro (hO.below (H1.out.2.trans (HP2.out.2.1.mono H1.out.2.size)) (H1.out.2.size)) ((H1.out.1.keep (fun k e => (hO.block k (by have := H1s.out; omega)).trans (HP2.out.2.1.block k (by have := H1s.out; omega)))))))
       have H3s : Hid (w3.heap.size = w1.heap.size + 1) := Lib.hid (hO.size.trans HP2.out.2.2)
       clear hP hO HP2))
  have HP4 : Hid (whyP pA = 0 ∧ putR pA = none) := Lib.hid ⟨pA_ok, putR_none.2 pA_ok⟩
  go_upto_region 3 with (first
    | ((with_reducible refine gate_dst (N := 10) rfl ?_); refine wp_ldpk rfl (.tmp 1) rfl rfl H3.out.1 ?_)
    | (go_at_call 12
       refine (Put_calls pA _ _ H3.out.2.2 (fun k e => by have h1 := H1s.out; have h3 := H3s.out; omega)).mono ?_
       rw [HP4.out.2]
       rintro e w4 ⟨v', ev, rfl, h1, h2, h3⟩
       obtain rfl := ErR_nil h1
       have H4 := Lib.hid (And.intro (H3.out.1.below h3) (And.intro (H3.out.2.1.trans (h3.mono H3.out.2.1.size)) (H3.out.2.2.belowD h3 (fun k e => by have h1 := H1s.out; have h3 := H3s.out; omega))))
       have H4b := Lib.hid h2
       have H4s : Hid (w3.heap.size ≤ w4.heap.size) := Lib.hid h3.size
       clear h1 h2 h3 H3))
  obtain ⟨Ab, cb, rfl, hcb⟩ := H4b.out.val
  have HLn := Lib.hid pA_len
  obtain ⟨B, hB⟩ : ∃ q, q = putL pA := ⟨_, rfl⟩
  have HG : Hid (getP B = pA ∧ getR B = none) := Lib.hid (by rw [hB]; exact get_put pA_ok)
  rw [← hB] at H4b HLn ⊢
  rw [HLn.out] at H4b ⊢
  clear hB hcb
  go_upto_region 4 with (first
    | (go_at_call 14
       refine (Get_calls _ _ B H4b.out.rb.rdlt (fun k e => e)).mono ?_
       rw [HG.out.1, HG.out.2]
       rintro e w5 ⟨v5, ev, rfl, h1, h2, h3⟩
       obtain rfl := ErR_nil h1
       have H5 := Lib.hid (And.intro (H4.out.1.below h3) (And.intro (H4.out.2.1.trans (h3.mono H4.out.2.1.size)) (H4.out.2.2.belowD h3 (fun k e => by have h1 := H1s.out; have h3 := H3s.out; have h4 := H4s.out; omega))))
       obtain ⟨A5, c5, rfl, _⟩ := h2.val
       have H5b := Lib.hid h2
       have H5s : Hid (w4.heap.size ≤ w5.heap.size) := Lib.hid h3.size
       clear h1 h2 h3 H4 H4b)
    | ((with_reducible refine gate_dst (N := 4) rfl ?_); refine wp_allocPk rfl rfl ?_; intro w6 hP hB hs; have HP6 := Lib.hid (And.intro hP (And.intro hB hs)); clear hP hB hs)
    | ((with_reducible refine gate_store (t := 26) (p := 4) rfl ?_)
       refine wp_stpk (p := pA) (A := A5) (L := 1) (c := c5) rfl rfl rfl rfl HP6.out.1 rfl ?_
       intro w7 hP hO
       have H7 := Lib.hid (And.intro hP (hO.below (HP6.out.2.1) (Nat.le_refl _)))
       clear hP hO HP6))
  have H8 : Hid (PkAt w7 w1.heap.size pA (.slice (some ⟨w.heap.size, 0, none⟩) 1 1) ∧ Below w.heap.size w w7 ∧ RdB (fun k => k = w.heap.size) w7 (.slice (some ⟨w.heap.size, 0, none⟩) 1 1) [97] ∧ RdB (fun k => k < w7.heap.size) w7 (.slice A5 1 c5) [97]) := Lib.hid ⟨H5.out.1.below H7.out.2, H5.out.2.1.trans (H7.out.2.mono H5.out.2.1.size), H5.out.2.2.belowD H7.out.2 (fun k e => by have h1 := H1s.out; have h3 := H3s.out; have h4 := H4s.out; have h5 := H5s.out; omega), (H5b.out.below H7.out.2).rb.rdlt⟩
  go_wp2_with (first
    | ((with_reducible refine gate_dst (N := 31) rfl ?_); refine wp_ldpk_want (by rfl) (.tmp 1) rfl rfl H8.out.1 ?_)
    | ((with_reducible refine gate_dst (N := 32) rfl ?_); refine wp_ldpk_want (by rfl) (.tmp 4) rfl rfl H7.out.1 ?_)
    | (go_at_call 16
       refine (SamR_calls pA pA _ _ _ H8.out.2.2.1 H8.out.2.2.2 (fun k e => by have h1 := H8.out.2.1.size; have h2 := lt_of H8.out.1; have h3 := H1s.out; omega) (fun k e => e)).mono ?_
       rw [show decide (pA = pA) = true from decide_eq_true rfl]
       rintro e w9 ⟨rfl, h1⟩
       have H9 := Lib.hid (H8.out.2.1.trans (h1.mono H8.out.2.1.size))
       clear h1))
  go_ret
  exact ⟨rfl, H9.out⟩
end Go.Proofs.YtfcofokbhhnfkaaDoor.Byt
