/- geyserref16's Body and Put, of right packets, by their contracts. Conditions: bytes as they may be read. Printed by mkbody.py. -/
import Derived.Test.YtfcofokbhhnfkaaDoorRall
namespace Go.Proofs.YtfcofokbhhnfkaaDoor.Byt
set_option linter.unusedSimpArgs false
set_option linter.unusedVariables false
open Go.RowKit Go.Deep Go.Proofs.YtfcofokbhhnfkaaDoor.Er Go.Proofs.YtfcofokbhhnfkaaDoorW.PrintWords Go.Proofs.YtfcofokbhhnfkaaDoorW.PrintLast Go.Proofs.YtfcofokbhhnfkaaDoorW.PrintMore
theorem LS.app2 {B : Nat} {D : Nat → Prop} {w : World} {g : Nat} {p : Pk} {v : Value} {wk : World} {vk u : Value} {X Y : List Int} {m : Nat} (h : LS B w g p v wk vk X m) (hY : RdB D wk u Y) (hl : 1 ≤ Y.length ∧ Y.length ≤ 64) (hm : m ≤ 1000) (ty : TypeId) :
    ∃ v' w', (Builtin.append_ #[22, 22] ty #[vk, u]).run Tryd.prog wk = .ok v' w' ∧ LS B w g p v w' v' (X ++ Y) (m + 64) := by
  have hB := Nat.le_trans h.hB h.be.size
  obtain ⟨A', c', w', h1, h2, h3⟩ := h.ob.append hB hY (fun e => by rw [e] at hl; simp at hl) (by have := h.le; omega) ty
  have hf := (Fr.refl wk (U8 B wk)).u8 h.ob h3
  exact ⟨_, w', h1, h2, h.pk.fr hf, hf.u8below h.be hB, h.hB, by rw [List.length_append]; have := h.le; omega⟩
theorem wp_appLS {ops : Array Oper} {rest : List Oper} {o : Oper} {a : Act} {Q : Exit → Act → World → Prop} {B : Nat} {D : Nat → Prop} {w : World} {g : Nat} {p : Pk} {v : Value} {wk : World} {vk u : Value} {X Y : List Int} {m : Nat} (h : LS B w g p v wk vk X m) (hgd : o.guard = none) (s x : Operand) (ho : o.op = .call { callee := .builtin .append, args := #[s, x], argTypes := #[22, 22] }) (hs : a.eval s = vk) (hx : a.eval x = u) (hY : RdB D wk u Y) (hl : 1 ≤ Y.length ∧ Y.length ≤ 64) (hm : m ≤ 1000)
    (k : ∀ v' w', Hid (LS B w g p v w' v' (X ++ Y) (m + 64)) → wpList Tryd.prog ops Q rest (a.put o.dst v') w') : wpList Tryd.prog ops Q (o :: rest) a wk := by
  obtain ⟨v', w', hr, hS⟩ := h.app2 hY hl hm o.type
  exact Kd.event_run hgd (run_app ho hs hx hr) (k v' w' (Lib.hid hS))
theorem OB.setAt {B b : Nat} {w : World} {m c : Nat} {l : List Int} (h : OB B w (.slice (some ⟨b, 0, none⟩) m c) l) (j : Nat) (hj : j < l.length) (x : Int) (hx : 0 ≤ x ∧ x < 256) : OB B (w.setCell ⟨b, j, none⟩ (.int .u8 x)) (.slice (some ⟨b, 0, none⟩) m c) (l.set j x) := by
  obtain ⟨⟨h1, h2⟩, h3, h4⟩ := h
  rcases h2 with ⟨e, _⟩ | ⟨g, cap, cur, e, hb, hc, k1, k2, k3, k4⟩
  · cases e
  · cases e
    have hset := blk_set hc j (.int .u8 x)
    refine ⟨⟨by simp, .inr ⟨b, c, _, by rw [List.length_set], hb, hset, by rw [List.length_set]; exact k1, k2, by simpa using k3, ?_⟩⟩, fun y hy => ?_, by rw [List.length_set]; exact h4⟩
    · rw [List.map_set, ← k4, List.length_set, Nat.mul_one]
      rw [show (cur.setIfInBounds j (.int .u8 x)).toList = cur.toList.set j (.int .u8 x) by simp]
      rw [Nat.mul_one] at k4
      exact List.take_set ..
    · rcases List.mem_or_eq_of_mem_set hy with hy | rfl
      · exact h3 y hy
      · exact hx
theorem OB.ptr {B : Nat} {w : World} {v : Value} {l : List Int} (h : OB B w v l) (hne : l ≠ []) : ∃ b c, v = .slice (some ⟨b, 0, none⟩) l.length c ∧ B ≤ b ∧ ∃ cur, w.heap[b]? = some (.cells cur 5 (0, 0)) ∧ ∀ (j : Nat) (x : Int), l[j]? = some x → w.cell? ⟨b, j, none⟩ = some (.int .u8 x) := by
  rcases h.1.2 with ⟨e, e2⟩ | ⟨g, cap, cur, e, hb, hc, k1, k2, k3, k4⟩
  · exact absurd (List.length_eq_zero_iff.1 e2) hne
  · refine ⟨g, cap, e, hb, cur, hc, fun j x hj => ?_⟩
    have hjl : j < l.length := (List.getElem?_eq_some_iff.1 hj).1
    have e3 : (cur.toList.take (l.length * 1))[j]? = some (.int .u8 x) := by rw [k4, List.getElem?_map, hj]; rfl
    rw [Nat.mul_one, List.getElem?_take, if_pos hjl] at e3
    rw [blk_cell hc j]
    simpa using e3
theorem LS.below5 {B : Nat} {w : World} {g : Nat} {p : Pk} {v : Value} {w5 w6 : World} {vk : Value} {X : List Int} {m b : Nat} (h : LS B w g p v w5 vk X m) (hb : Below w5.heap.size w5 w6) (hge : w5.heap.size ≤ b) (x : Value) : LS B w g p v (w6.setCell ⟨b, 0, none⟩ x) vk X m := h.below (hb.setCell hge x)
def b1P (p : Pk) : List Int := beI 2 p.many ++ (beI 2 p.place ++ (beI 1 p.block ++ beI 2 p.esi))
theorem head_B (p : Pk) : nmsB (headN p) = beI 1 p.kind ++ (beI 2 p.sess ++ (beI 1 p.layer ++ beI 5 p.tick)) := by
  show beI 1 p.kind ++ (beI 2 p.sess ++ (beI 1 p.layer ++ (beI 5 p.tick ++ []))) = _
  rw [List.append_nil]
theorem data_B {p : Pk} (h : -1 ≤ p.sync ∧ p.sync ≤ 7) : nmsB (dataN p) = (p.sync + 1) :: b1P p := by
  show beI 1 (wrap64 (p.sync + 1)) ++ (beI 2 p.many ++ (beI 2 p.place ++ (beI 1 p.block ++ (beI 2 p.esi ++ [])))) = _
  rw [List.append_nil, w64 ⟨by omega, by omega⟩]
  show ((p.sync + 1) / 256 ^ 0 % 256) :: b1P p = _
  congr 1
  rw [Int.pow_zero, Int.ediv_one]
  omega
theorem body_d {p : Pk} (hk : p.kind = 1) (h : -1 ≤ p.sync ∧ p.sync ≤ 7) : bodyI p = (nmsB (headN p) ++ (flg p :: b1P p)) ++ p.data := by
  unfold bodyI
  rw [if_pos hk, head_B]
  have e : beI 1 (flg p) = [flg p] := by
    show [flg p / 256 ^ 0 % 256] = _
    rw [Int.pow_zero, Int.ediv_one]
    congr 1
    unfold flg
    split <;> omega
  rw [e]
  unfold b1P
  simp only [List.append_assoc, List.cons_append, List.nil_append, List.singleton_append]
theorem one_be {n : Int} (h : 0 ≤ n ∧ n < 256) : beI 1 n = [n] := by
  show [n / 256 ^ 0 % 256] = _
  rw [Int.pow_zero, Int.ediv_one]
  congr 1
  omega
theorem body_a {p : Pk} (hk : ¬ p.kind = 1) (h1 : 0 ≤ p.sym ∧ p.sym < 256) (h2 : 0 ≤ p.blocks ∧ p.blocks < 256) (h3 : 0 ≤ p.long ∧ p.long < 256) (h4 : 0 ≤ p.short ∧ p.short < 256) (h5 : 0 ≤ p.layers ∧ p.layers < 256) :
    bodyI p = ((((nmsB (headN p) ++ beI 4 p.size) ++ [p.sym, p.blocks, p.long, p.short, p.layers]) ++ beI 2 (p.esis - 1)) ++ beI 2 p.base) ++ beI 2 p.len := by
  unfold bodyI
  rw [if_neg hk, head_B, one_be h1, one_be h2, one_be h3, one_be h4, one_be h5]
  simp only [List.append_assoc, List.cons_append, List.nil_append, List.singleton_append]
theorem ok_head {p : Pk} (h : RangeOk p) : ∀ x ∈ headN p, NmOk x := by
  obtain ⟨r1, r2, r3, r4⟩ := h
  have hk : 1 ≤ p.kind ∧ p.kind ≤ 2 := by rcases r4 with q | q <;> omega
  intro x hx
  simp only [headN, List.mem_cons, List.not_mem_nil, or_false] at hx
  rcases hx with rfl | rfl | rfl | rfl <;> refine ⟨⟨?_, ?_⟩, ?_⟩ <;> dsimp only <;> omega
theorem ok_data {p : Pk} (h : DataR p) : ∀ x ∈ dataN p, NmOk x := by
  obtain ⟨d1, d2, d3, d4, d5⟩ := h
  have e := w64 (n := p.sync + 1) ⟨by omega, by omega⟩
  intro x hx
  simp only [dataN, List.mem_cons, List.not_mem_nil, or_false] at hx
  rcases hx with rfl | rfl | rfl | rfl | rfl <;> refine ⟨⟨?_, ?_⟩, ?_⟩ <;> dsimp only <;> omega
theorem RdB.at2 {w w' : World} {v : Value} {l : List Int} (h : RdB (fun k => k < w.heap.size) w v l) (hb : Below w.heap.size w w') : RdB (fun k => k < w'.heap.size) w' v l := by
  obtain ⟨A, c, h1, h2, h3, h4, h5⟩ := h.at0 hb
  refine ⟨A, c, h1, h2, h3, h4, fun hne => ?_⟩
  obtain ⟨a, e, hd, hx⟩ := h5 hne
  exact ⟨a, e, Nat.lt_of_lt_of_le hd hb.size, hx⟩
set_option maxHeartbeats 8000000 in
set_option maxRecDepth 100000 in
theorem rbody_calls (p : Pk) (u : Value) (w : World) (hp : RdB (fun k => k < w.heap.size) w u p.data) (hw : whyP p = 0) :
    Calls Tryd.prog 29 #[pkV p u] w fun e w' => ∃ v', e = .returned v' ∧ OB w.heap.size w' v' (bodyI p) ∧ Below w.heap.size w w' := by
  have HP := Lib.hid hp
  have HU := Lib.hid (cells_of hp)
  obtain ⟨hr, hf⟩ := whyP_zero hw
  have HOH := Lib.hid (ok_head hr)
  obtain ⟨X0, hX0⟩ : ∃ X, X = nmsB (headN p) := ⟨_, rfl⟩
  have HX0 : Hid (nmsB (headN p) = X0 ∧ X0.length ≤ 20) := Lib.hid ⟨hX0.symm, by rw [hX0]; exact nmsB_len _ HOH.out⟩
  rcases hf with ⟨hk, hf⟩ | ⟨hk, hf⟩
  · skip
    have hdr : DataR p := (hr.2.2.2.resolve_right (fun q => by omega)).2
    have HK := Lib.hid hk
    have HDL := Lib.hid hf.1
    have HOD := Lib.hid (ok_data hdr)
    have HSY := Lib.hid hdr.1
    have hsy := hdr.1
    obtain ⟨y, hy⟩ : ∃ y, y = p.sync + 1 := ⟨_, rfl⟩
    have HDB : Hid (nmsB (dataN p) = y :: b1P p) := Lib.hid (by rw [hy]; exact data_B hsy)
    have HBL : Hid ((b1P p).length = 7) := Lib.hid (by unfold b1P; simp [beI_len])
    have HBI : Hid (bodyI p = (X0 ++ (flg p :: b1P p)) ++ p.data) := Lib.hid (by rw [hX0]; exact body_d hk hsy)
    have hyb : 0 ≤ y ∧ y ≤ 8 := by omega
    have HY := Lib.hid (And.intro hy hyb)
    clear hp hw hr hf hk hdr hsy hX0 hy
    go_enter Tryd.func29, Tryd.ntmps29
    go_upto_region 2 with (first
      | ((with_reducible refine gate_dst (N := 1) rfl ?_); refine wp_box rfl (.tmp 0) rfl rfl HU.out ?_; intro w2 hP hB hs; have H2 := Lib.hid (SB.mk hP hB); clear hP hB hs)
      | ((with_reducible refine gate_dst (N := 5) rfl ?_); refine wp_ldpk rfl (.tmp 1) rfl rfl H2.out.P ?_)
      | (go_at_call 41; refine (head_calls p u _ HU.out).mono ?_; rintro e w3 ⟨g3, c3, rfl, hN, hb⟩; have H3 := Lib.hid (And.intro (H2.out.below hb) hN); clear hN hb H2)
      | (go_at_call 47; refine (rall_calls _ g3 c3 (headN p) H3.out.2 (show 4 ≤ 1000 by decide) HOH.out).mono ?_; rw [HX0.out.1]; rintro e w4 ⟨v4, rfl, ho, hb⟩; have HS4 : Hid (LS w.heap.size w w.heap.size p u w4 v4 X0 20) := Lib.hid ⟨ho.base H3.out.1.B.size, H3.out.1.P.below hb, H3.out.1.B.trans (hb.mono H3.out.1.B.size), Nat.le_refl _, HX0.out.2⟩; clear ho hb H3))
    have s0 : w4.cell? ⟨w.heap.size, 0, none⟩ = some (.int .i64 1) := (blk_cell HS4.out.pk 0).trans (congrArg (fun z => some (Value.int .i64 z)) HK.out)
    go_upto_region 4 with (first
      | ((with_reducible refine gate_dst (N := 11) rfl ?_); refine wp_ldpk rfl (.tmp 1) rfl rfl HS4.out.pk ?_)
      | (go_at_call 42; refine (dataN_calls p u _ HU.out).mono ?_; rintro e w5 ⟨g5, c5, rfl, hN, hb⟩; have HS5 := Lib.hid (And.intro (HS4.out.below hb) hN); clear hN hb HS4 s0)
      | (go_at_call 47; refine (rall_calls _ g5 c5 (dataN p) HS5.out.2 (show 5 ≤ 1000 by decide) HOD.out).mono ?_; rw [HDB.out]; rintro e w6 ⟨v6, rfl, ho, hb⟩; have HM6 := Lib.hid ho; have HS6 := Lib.hid (And.intro (HS5.out.1.below hb) hb); have HS5o := Lib.hid HS5.out.1; clear ho hb HS5))
    obtain ⟨b6, c6, rfl, hb6, cur6, hc6, hcl6⟩ := HM6.out.ptr (by simp)
    rw [show (y :: b1P p).length = 8 by rw [List.length_cons, HBL.out]] at HM6 ⊢
    have q0 : w6.cell? ⟨b6, 0, none⟩ = some (.int .u8 y) := hcl6 0 y rfl
    have q1 := blk_frozen hc6 0
    have HB6 := Lib.hid hb6
    clear hcl6 hc6 hb6
    have s4 : w6.cell? ⟨w.heap.size, 4, none⟩ = some (.bool p.burst) := (blk_cell HS6.out.1.pk 4).trans rfl
    have e1 : IntKind.u8.wrap (y + 128) = y + 128 := by rw [IntKind.wrap_u8']; omega
    have e2 : (y + 128) % 256 = y + 128 := by omega
    cases hbu : p.burst
    · rw [hbu] at s4
      have HF : Hid (flg p = y) := Lib.hid (by unfold flg; rw [hbu, HY.out.1]; rfl)
      clear hbu
      go_upto_region 6 with (fail)
      have HSF := HS6.out.1
      have HMF : Hid (OB w5.heap.size w6 (.slice (some ⟨b6, 0, none⟩) 8 c6) (flg p :: b1P p)) := Lib.hid (by rw [HF.out]; exact HM6.out)
      have HSS := Lib.hid HSF
      clear HSF HS6 HM6 q0 q1 s4 e1 e2
      have s10 : w6.cell? ⟨w.heap.size, 10, none⟩ = some u := (blk_cell HSS.out.pk 10).trans rfl
      clear s10
      go_upto_region 7 with (first
        | (at_builtin
           refine wp_appLS HSS.out rfl (.tmp 22) (.tmp 23) rfl rfl rfl HMF.out.rb.rdlt (by rw [List.length_cons, HBL.out]; decide) (by decide) ?_
           intro v7 w7 HS7
           have s10 : w7.cell? ⟨w.heap.size, 10, none⟩ = some u := (blk_cell HS7.out.pk 10).trans rfl))
      go_wp2_with (first
        | (at_builtin
           refine wp_appLS HS7.out rfl (.tmp 25) (.tmp 27) rfl rfl rfl (HP.out.at0 HS7.out.be) HDL.out (by decide) ?_
           intro v8 w8 HS8))
      go_ret
      exact ⟨_, rfl, by rw [HBI.out]; exact HS8.out.ob, HS8.out.be⟩
    · rw [hbu] at s4
      have HF : Hid (flg p = y + 128) := Lib.hid (by unfold flg; rw [hbu, HY.out.1]; simp only [if_true]; omega)
      clear hbu
      go_upto_region 6 with (fail)
      have HMF : Hid (OB w5.heap.size (w6.setCell ⟨b6, 0, none⟩ (.int .u8 (y + 128))) (.slice (some ⟨b6, 0, none⟩) 8 c6) (flg p :: b1P p)) := Lib.hid (by
        have h := HM6.out.setAt 0 (by simp) (y + 128) (by have := HY.out.2; omega)
        rw [HF.out]
        exact h)
      have HSS : Hid (LS w.heap.size w w.heap.size p u (w6.setCell ⟨b6, 0, none⟩ (.int .u8 (y + 128))) v4 X0 20) := Lib.hid (LS.below5 HS5o.out HS6.out.2 HB6.out (.int .u8 (y + 128)))
      clear HS6 HM6 q0 q1 s4 e1 e2
      generalize (w6.setCell ⟨b6, 0, none⟩ (.int .u8 (y + 128))) = w6 at HMF HSS ⊢
      have s10 : w6.cell? ⟨w.heap.size, 10, none⟩ = some u := (blk_cell HSS.out.pk 10).trans rfl
      clear s10
      go_upto_region 7 with (first
        | (at_builtin
           refine wp_appLS HSS.out rfl (.tmp 22) (.tmp 23) rfl rfl rfl HMF.out.rb.rdlt (by rw [List.length_cons, HBL.out]; decide) (by decide) ?_
           intro v7 w7 HS7
           have s10 : w7.cell? ⟨w.heap.size, 10, none⟩ = some u := (blk_cell HS7.out.pk 10).trans rfl))
      go_wp2_with (first
        | (at_builtin
           refine wp_appLS HS7.out rfl (.tmp 25) (.tmp 27) rfl rfl rfl (HP.out.at0 HS7.out.be) HDL.out (by decide) ?_
           intro v8 w8 HS8))
      go_ret
      exact ⟨_, rfl, by rw [HBI.out]; exact HS8.out.ob, HS8.out.be⟩
  · skip
    have har : AnnR p := (hr.2.2.2.resolve_left (fun q => by omega)).2
    have hk1 : ¬ p.kind = 1 := by omega
    have hsz0 : 0 ≤ p.size := hf.2.2.2.2.2.2.2.1
    obtain ⟨_, hsym, hblk, hlong, hshort, hs2, _⟩ := hf.2.2.2.2.2.2.2
    have hshort2 : p.short ≤ 128 := by split at hs2 <;> omega
    obtain ⟨hlay, hsz, hlys, hess, hbas, hlen⟩ := har
    have HK := Lib.hid hk
    have fk : (p.kind == 1) = false := beq_eq_false_iff_ne.2 hk1
    have HBI : Hid (bodyI p = ((((X0 ++ beI 4 p.size) ++ [p.sym, p.blocks, p.long, p.short, p.layers]) ++ beI 2 (p.esis - 1)) ++ beI 2 p.base) ++ beI 2 p.len) := Lib.hid (by rw [hX0]; exact body_a hk1 (by omega) (by omega) (by omega) (by omega) (by omega))
    have HR1 : Hid (0 ≤ p.size ∧ p.size ≤ 9223372036854775807) := Lib.hid (by omega)
    have HR2 : Hid (0 ≤ p.esis - 1 ∧ p.esis - 1 ≤ 9223372036854775807) := Lib.hid (by omega)
    have HR3 : Hid (0 ≤ p.base ∧ p.base ≤ 9223372036854775807) := Lib.hid (by omega)
    have HR4 : Hid (0 ≤ p.len ∧ p.len ≤ 9223372036854775807) := Lib.hid (by omega)
    have e17 : wrap64 (p.esis - 1) = p.esis - 1 := w64 ⟨by omega, by omega⟩
    have ew_sym : IntKind.u8.wrap p.sym = p.sym := by rw [IntKind.wrap_u8']; omega
    have em_sym : p.sym % 256 = p.sym := by omega
    have ew_blocks : IntKind.u8.wrap p.blocks = p.blocks := by rw [IntKind.wrap_u8']; omega
    have em_blocks : p.blocks % 256 = p.blocks := by omega
    have ew_long : IntKind.u8.wrap p.long = p.long := by rw [IntKind.wrap_u8']; omega
    have em_long : p.long % 256 = p.long := by omega
    have ew_short : IntKind.u8.wrap p.short = p.short := by rw [IntKind.wrap_u8']; omega
    have em_short : p.short % 256 = p.short := by omega
    have ew_layers : IntKind.u8.wrap p.layers = p.layers := by rw [IntKind.wrap_u8']; omega
    have em_layers : p.layers % 256 = p.layers := by omega
    have HL5 : Hid (∀ x ∈ [p.sym, p.blocks, p.long, p.short, p.layers], 0 ≤ x ∧ x < 256) := Lib.hid (by
      intro x hx
      simp only [List.mem_cons, List.not_mem_nil, or_false] at hx
      rcases hx with rfl | rfl | rfl | rfl | rfl <;> omega)
    clear hp hw hr hf hk hk1 hsz0 hsym hblk hlong hshort hs2 hshort2 hlay hsz hlys hess hbas hlen hX0
    go_enter Tryd.func29, Tryd.ntmps29
    go_upto_region 2 with (first
      | ((with_reducible refine gate_dst (N := 1) rfl ?_); refine wp_box rfl (.tmp 0) rfl rfl HU.out ?_; intro w2 hP hB hs; have H2 := Lib.hid (SB.mk hP hB); clear hP hB hs)
      | ((with_reducible refine gate_dst (N := 5) rfl ?_); refine wp_ldpk rfl (.tmp 1) rfl rfl H2.out.P ?_)
      | (go_at_call 41; refine (head_calls p u _ HU.out).mono ?_; rintro e w3 ⟨g3, c3, rfl, hN, hb⟩; have H3 := Lib.hid (And.intro (H2.out.below hb) hN); clear hN hb H2)
      | (go_at_call 47; refine (rall_calls _ g3 c3 (headN p) H3.out.2 (show 4 ≤ 1000 by decide) HOH.out).mono ?_; rw [HX0.out.1]; rintro e w4 ⟨v4, rfl, ho, hb⟩; have HS4 : Hid (LS w.heap.size w w.heap.size p u w4 v4 X0 20) := Lib.hid ⟨ho.base H3.out.1.B.size, H3.out.1.P.below hb, H3.out.1.B.trans (hb.mono H3.out.1.B.size), Nat.le_refl _, HX0.out.2⟩; clear ho hb H3))
    have s0 : w4.cell? ⟨w.heap.size, 0, none⟩ = some (.int .i64 p.kind) := (blk_cell HS4.out.pk 0).trans rfl
    go_upto_region 8 with (fail)
    clear s0
    have s11 : w4.cell? ⟨w.heap.size, 11, none⟩ = some (.int .i64 p.size) := (blk_cell HS4.out.pk 11).trans rfl
    go_upto_region 9 with (first
      | (go_at_call 48; refine (rlay_calls 4 p.size _ HR1.out (by decide)).mono ?_; rintro e w5 ⟨v5, rfl, ho, hb⟩; have HS5 := Lib.hid (HS4.out.below hb); have HL := Lib.hid ho; clear ho hb s11)
      | (at_builtin
         refine wp_appLS (Y := beI 4 p.size) HS5.out rfl (.tmp 29) (.tmp 33) rfl rfl rfl HL.out.rb.rdlt ⟨by rw [beI_len]; decide, by rw [beI_len]; decide⟩ (by decide) ?_
         intro v6 w6 HS6))
    clear HL HS5
    have s12 : w6.cell? ⟨w.heap.size, 12, none⟩ = some (.int .i64 p.sym) := (blk_cell HS6.out.pk 12).trans rfl
    have s13 : w6.cell? ⟨w.heap.size, 13, none⟩ = some (.int .i64 p.blocks) := (blk_cell HS6.out.pk 13).trans rfl
    have s14 : w6.cell? ⟨w.heap.size, 14, none⟩ = some (.int .i64 p.long) := (blk_cell HS6.out.pk 14).trans rfl
    have s15 : w6.cell? ⟨w.heap.size, 15, none⟩ = some (.int .i64 p.short) := (blk_cell HS6.out.pk 15).trans rfl
    have s16 : w6.cell? ⟨w.heap.size, 16, none⟩ = some (.int .i64 p.layers) := (blk_cell HS6.out.pk 16).trans rfl
    have HS7 : Hid (LS w.heap.size w w.heap.size p u (w6.alloc (.cells #[.int .u8 p.sym, .int .u8 p.blocks, .int .u8 p.long, .int .u8 p.short, .int .u8 p.layers] 5)) v6 (X0 ++ beI 4 p.size) (20 + 64)) := Lib.hid (HS6.out.below ((Below.refl _ _).alloc (Nat.le_refl _) _))
    have HL : Hid (RdB (fun _ => True) (w6.alloc (.cells #[.int .u8 p.sym, .int .u8 p.blocks, .int .u8 p.long, .int .u8 p.short, .int .u8 p.layers] 5)) (.slice (some ⟨w6.heap.size, 0, none⟩) 5 5) [p.sym, p.blocks, p.long, p.short, p.layers]) := Lib.hid (rd_lit (l := [p.sym, p.blocks, p.long, p.short, p.layers]) (heap_new _ _) trivial (show 5 ≤ 140737488355328 by decide) HL5.out)
    go_upto_region 10 with (first
      | (at_builtin
         refine wp_appLS HS7.out rfl (.tmp 35) (.tmp 55) rfl rfl rfl HL.out (show 1 ≤ 5 ∧ 5 ≤ 64 by decide) (by decide) ?_
         intro v8 w8 HS8))
    clear HL HS7 HS6 s12 s13 s14 s15 s16 ew_sym em_sym ew_blocks em_blocks ew_long em_long ew_short em_short ew_layers em_layers
    have s17 : w8.cell? ⟨w.heap.size, 17, none⟩ = some (.int .i64 p.esis) := (blk_cell HS8.out.pk 17).trans rfl
    go_upto_region 11 with (first
      | (go_at_call 48; refine (rlay_calls 2 (p.esis - 1) _ HR2.out (by decide)).mono ?_; rintro e w9 ⟨v9, rfl, ho, hb⟩; have HS9 := Lib.hid (HS8.out.below hb); have HL := Lib.hid ho; clear ho hb s17)
      | (at_builtin
         refine wp_appLS (Y := beI 2 (p.esis - 1)) HS9.out rfl (.tmp 57) (.tmp 61) rfl rfl rfl HL.out.rb.rdlt ⟨by rw [beI_len]; decide, by rw [beI_len]; decide⟩ (by decide) ?_
         intro v10 w10 HS10))
    clear HL HS9 HS8
    have s18 : w10.cell? ⟨w.heap.size, 18, none⟩ = some (.int .i64 p.base) := (blk_cell HS10.out.pk 18).trans rfl
    go_upto_region 12 with (first
      | (go_at_call 48; refine (rlay_calls 2 p.base _ HR3.out (by decide)).mono ?_; rintro e w11 ⟨v11, rfl, ho, hb⟩; have HS11 := Lib.hid (HS10.out.below hb); have HL := Lib.hid ho; clear ho hb s18)
      | (at_builtin
         refine wp_appLS (Y := beI 2 p.base) HS11.out rfl (.tmp 63) (.tmp 66) rfl rfl rfl HL.out.rb.rdlt ⟨by rw [beI_len]; decide, by rw [beI_len]; decide⟩ (by decide) ?_
         intro v12 w12 HS12))
    clear HL HS11 HS10
    have s19 : w12.cell? ⟨w.heap.size, 19, none⟩ = some (.int .i64 p.len) := (blk_cell HS12.out.pk 19).trans rfl
    go_wp2_with (first
      | (go_at_call 48; refine (rlay_calls 2 p.len _ HR4.out (by decide)).mono ?_; rintro e w13 ⟨v13, rfl, ho, hb⟩; have HS13 := Lib.hid (HS12.out.below hb); have HL := Lib.hid ho; clear ho hb s19)
      | (at_builtin
         refine wp_appLS (Y := beI 2 p.len) HS13.out rfl (.tmp 68) (.tmp 71) rfl rfl rfl HL.out.rb.rdlt ⟨by rw [beI_len]; decide, by rw [beI_len]; decide⟩ (by decide) ?_
         intro v14 w14 HS14))
    go_ret
    exact ⟨_, rfl, by rw [HBI.out]; exact HS14.out.ob, HS14.out.be⟩
set_option maxHeartbeats 8000000 in
theorem rput_calls (p : Pk) (u : Value) (w : World) (hp : RdB (fun k => k < w.heap.size) w u p.data) (hw : whyP p = 0) :
    Calls Tryd.prog 13 #[pkV p u] w fun e w' => ∃ v', e = .returned v' ∧ OB w.heap.size w' v' (putL p) ∧ Below w.heap.size w w' := by
  have HP := Lib.hid hp
  have HU := Lib.hid (cells_of hp)
  have HW := Lib.hid hw
  have HL : Hid (putL p = addI (bodyI p) ∧ (bodyI p).length + 4 ≤ 140737488355328) := Lib.hid ⟨if_pos hw, by have := bodyI_len hw; omega⟩
  clear hp hw
  rw [HL.out.1]
  go_enter Tryd.func13, Tryd.ntmps13
  go_wp2_with (first
    | ((with_reducible refine gate_dst (N := 1) rfl ?_); refine wp_box rfl (.tmp 0) rfl rfl HU.out ?_; intro w2 hP hB hs; have H2 := Lib.hid (SB.mk hP hB); clear hP hB hs)
    | ((with_reducible refine gate_dst (N := 3) rfl ?_); refine wp_ldpk rfl (.tmp 1) rfl rfl H2.out.P ?_)
    | (go_at_call 29; refine (rbody_calls p u _ (HP.out.at2 H2.out.B) HW.out).mono ?_; rintro e w3 ⟨v3, rfl, ho, hb⟩; have H3 := Lib.hid (And.intro (H2.out.below hb).B ho); clear ho hb H2)
    | (go_at_call 28; refine (radd_calls _ v3 (bodyI p) H3.out.2.rb.rdlt (fun k hk => hk) HL.out.2).mono ?_; rintro e w4 ⟨v4, rfl, ho, hb⟩; have H4 := Lib.hid (And.intro (H3.out.1.trans (hb.mono H3.out.1.size)) (ho.base H3.out.1.size)); clear ho hb H3))
  go_ret
  exact ⟨_, rfl, H4.out.2, H4.out.1⟩
end Go.Proofs.YtfcofokbhhnfkaaDoor.Byt
