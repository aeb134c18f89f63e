/- wire.Put by its contract. Conditions: bytes as they may be read. Printed by mkput.py. -/
import Derived.Test.YtfcofokbhhnfkaaDoorWhc
import Derived.Test.YtfcofokbhhnfkaaDoorLay
namespace Go.Proofs.YtfcofokbhhnfkaaDoor.Byt
set_option linter.unusedSimpArgs false
set_option linter.unusedVariables false
open Go.RowKit Go.Deep Go.Proofs.YtfcofokbhhnfkaaDoor.Er Go.Proofs.YtfcofokbhhnfkaaDoorW.PrintWords Go.Proofs.YtfcofokbhhnfkaaDoorW.PrintLast
def putN : ByteArray := ⟨#[119, 105, 114, 101, 46, 80, 117, 116]⟩
/-- A packet's bytes ahead of their sum. -/
def bodyI (p : Pk) : List Int := beI 1 p.kind ++ beI 2 p.sess ++ beI 1 p.layer ++ beI 5 p.tick ++
  (if p.kind = 1 then beI 1 (flg p) ++ beI 2 p.many ++ beI 2 p.place ++ beI 1 p.block ++ beI 2 p.esi ++ p.data
   else beI 4 p.size ++ beI 1 p.sym ++ beI 1 p.blocks ++ beI 1 p.long ++ beI 1 p.short ++ beI 1 p.layers ++ beI 2 (p.esis - 1) ++ beI 2 p.base ++ beI 2 p.len)
def putR (p : Pk) : Option Er := if whyP p = 0 then none else some ([putN, ckN], whyP p)
def putL (p : Pk) : List Int := if whyP p = 0 then addI (bodyI p) else []
/-- What is known on the way through Put. -/
structure LS (B : Nat) (w : World) (g : Nat) (p : Pk) (v : Value) (wk : World) (vk : Value) (X : List Int) (m : Nat) : Prop where
  ob : OB B wk vk X
  pk : PkAt wk g p v
  be : Below B w wk
  hB : B ≤ w.heap.size
  le : X.length ≤ m
theorem LS.below {B : Nat} {w : World} {g : Nat} {p : Pk} {v : Value} {wk w' : World} {vk : Value} {X : List Int} {m : Nat} (h : LS B w g p v wk vk X m) (hb : Below wk.heap.size wk w') : LS B w g p v w' vk X m :=
  ⟨h.ob.below hb, h.pk.below hb, h.be.trans (hb.mono (Nat.le_trans h.hB h.be.size)), h.hB, h.le⟩
theorem LS.lay {B : Nat} {w : World} {g : Nat} {p : Pk} {v : Value} {wk : World} {vk : Value} {X : List Int} {m : Nat} (h : LS B w g p v wk vk X m) (s : Nat) (ns : List Int) (c0 : Nat) (hs : (decide (1 ≤ s ∧ s ≤ 7)) = true) (hm : decide (m + s * ns.length ≤ 1000) = true) :
    Calls Tryd.prog 25 #[vk, .int .i64 (s : Int), .slice (some ⟨wk.heap.size, 0, none⟩) ns.length c0] (wk.alloc (.cells (ns.map (Value.int .i64)).toArray 3)) fun e w' => ∃ v', e = .returned v' ∧ LS B w g p v w' v' (X ++ layI s ns) (m + s * ns.length) := by
  have hb : Below wk.heap.size wk (wk.alloc (.cells (ns.map (Value.int .i64)).toArray 3)) := (Below.refl _ _).alloc (Nat.le_refl _) _
  have h2 := h.below hb
  have hB2 : B ≤ (wk.alloc (.cells (ns.map (Value.int .i64)).toArray 3)).heap.size := Nat.le_trans h.hB h2.be.size
  have hm' := of_decide_eq_true hm
  refine (lay_calls _ vk X s wk.heap.size c0 ns h2.ob hB2 (of_decide_eq_true hs) (heap_new _ _) (by have := h.le; omega)).mono ?_
  rintro e w' ⟨v', rfl, hO, hF⟩
  exact ⟨v', rfl, hO, h2.pk.fr hF, hF.u8below h2.be hB2, h.hB, by rw [List.length_append, layI_len]; have := h.le; omega⟩
theorem PkAt.c910 {w : World} {g : Nat} {p : Pk} {v : Value} (h : PkAt w g p v) : w.cell? ⟨g, 9, none⟩ = some (.int .i64 p.esi) ∧ w.cell? ⟨g, 10, none⟩ = some v := by
  obtain ⟨s0, s1, s2, s3, s4, s5, s6, s7, s8, s9, s10, _⟩ := Wire.cell20 (w := w) (g := g) h
  exact ⟨s9, s10⟩
theorem LS.app {B : Nat} {D : Nat → Prop} {w : World} {g : Nat} {p : Pk} {v : Value} {wk : World} {vk u : Value} {X Y : List Int} {m : Nat} (h : LS B w g p v wk vk X m) (hY : RdB D w u Y) (hD : ∀ k, D k → k < B) (hl : 1 ≤ Y.length ∧ Y.length ≤ 64) (hm : m ≤ 1000) (ty : TypeId) :
    ∃ v' w', (Builtin.append_ #[22, 22] ty #[vk, u]).run Tryd.prog wk = .ok v' w' ∧ LS B w g p v w' v' (X ++ Y) (m + 64) := by
  have hB := Nat.le_trans h.hB h.be.size
  obtain ⟨A', c', w', h1, h2, h3⟩ := h.ob.append hB (hY.keep (fun k hk => h.be.block k (hD k hk))) (fun e => by rw [e] at hl; simp at hl) (by have := h.le; omega) ty
  have hf := (Fr.refl wk (U8 B wk)).u8 h.ob h3
  exact ⟨_, w', h1, h2, h.pk.fr hf, hf.u8below h.be hB, h.hB, by rw [List.length_append]; have := h.le; omega⟩
theorem lay_nil (s : Nat) : layI s [] = [] := rfl
theorem OB.base {B B' : Nat} {w : World} {v : Value} {l : List Int} (h : OB B w v l) (hB : B' ≤ B) : OB B' w v l := by
  obtain ⟨⟨h0, h1⟩, h2⟩ := h
  refine ⟨⟨h0, ?_⟩, h2⟩
  rcases h1 with h1 | ⟨b, cap, cur, e1, hb, h3⟩
  · exact .inl h1
  · exact .inr ⟨b, cap, cur, e1, Nat.le_trans hB hb, h3⟩
theorem lay_cons (s : Nat) (x : Int) (l : List Int) : layI s (x :: l) = beI s x ++ layI s l := rfl
set_option maxHeartbeats 16000000 in
set_option maxRecDepth 100000 in
theorem Put_ann {D : Nat → Prop} {kind : Int} {sess : Int} {layer : Int} {tick : Int} {burst : Bool} {sync : Int} {many : Int} {place : Int} {block : Int} {esi : Int} {data : List Int} {size : Int} {sym : Int} {blocks : Int} {long : Int} {short : Int} {layers : Int} {esis : Int} {base : Int} {len : Int}
    (A : Option Addr) (L c : Nat) (w : World) (hr : RdB D w (.slice A L c) data) (hD : ∀ k, D k → k < w.heap.size) (hL : L = data.length) (hk : ¬ kind = 1) (hw : whyP (Pk.mk kind sess layer tick burst sync many place block esi data size sym blocks long short layers esis base len) = 0) (he : -9223372036854775808 ≤ esis - 1 ∧ esis - 1 ≤ 9223372036854775807) :
    Calls Tryd.prog 12 #[pkV (Pk.mk kind sess layer tick burst sync many place block esi data size sym blocks long short layers esis base len) (.slice A L c)] w fun e w' => ∃ v' ev, e = .returned (.tuple #[v', ev]) ∧ ErR w' ev none ∧ OB w.heap.size w' v' (addI (bodyI (Pk.mk kind sess layer tick burst sync many place block esi data size sym blocks long short layers esis base len))) ∧ Below w.heap.size w w' := by
  have HL : Hid (L = (Pk.data (Pk.mk kind sess layer tick burst sync many place block esi data size sym blocks long short layers esis base len)).length) := Lib.hid hL
  have HR := Lib.hid hr
  have HD := Lib.hid hD
  have HLn := Lib.hid hL
  clear hr hD hL
  have HW : Hid (er ckN (whyP (Pk.mk kind sess layer tick burst sync many place block esi data size sym blocks long short layers esis base len)) = none) := Lib.hid (er_none.2 hw)
  have f_k1 : (kind == 1) = false := beq_eq_false_iff_ne.2 hk
  have HKN := Lib.hid hk
  have hwe : wrap64 (esis - 1) = esis - 1 := w64 he
  have HWE := Lib.hid hwe
  clear hk hw he
  go_enter Tryd.func12, Tryd.ntmps12
  go_upto_region 4 with (first
    | ((with_reducible refine gate_dst (N := 1) rfl ?_); refine wp_box rfl (.tmp 0) rfl rfl rfl ?_; intro w1 hP hB hs; have HP := Lib.hid hP; have HB := Lib.hid (And.intro hB hs); clear hP hB hs)
    | ((with_reducible refine gate_dst (N := 6) rfl ?_); refine wp_ldpk rfl (.tmp 1) rfl rfl HP.out ?_)
    | (go_at_call 8
       refine (Check_calls _ A L c _ HL.out).mono ?_
       rw [HW.out]
       rintro e w2 ⟨ev, rfl, h1, h2⟩
       obtain rfl := ErR_nil h1
       have HS2 : Hid (LS w.heap.size w w.heap.size (Pk.mk kind sess layer tick burst sync many place block esi data size sym blocks long short layers esis base len) (.slice A L c) w2 (.slice none 0 0) [] 0) := Lib.hid ⟨OB.nil _ _, HP.out.below h2, HB.out.1.trans (h2.mono HB.out.1.size), Nat.le_refl _, Nat.le_refl _⟩
       clear h1 h2))
  obtain ⟨s0, s1, s2, s3, s4, s5, s6, s7, s8, s9, s10, s11, s12, s13, s14, s15, s16, s17, s18, s19⟩ := Wire.cell20 (w := w2) (g := w.heap.size) HS2.out.pk
  go_upto_region 5 with (first
    | (go_at_call 25
       refine (HS2.out.lay 1 [kind] _ rfl rfl).mono ?_
       rintro e w3 ⟨v3, rfl, hS⟩
       have HS3 := Lib.hid hS
       clear hS s0 s1 s2 s3 s4 s5 s6 s7 s8 s9 s10 s11 s12 s13 s14 s15 s16 s17 s18 s19))
  obtain ⟨s0, s1, s2, s3, s4, s5, s6, s7, s8, s9, s10, s11, s12, s13, s14, s15, s16, s17, s18, s19⟩ := Wire.cell20 (w := w3) (g := w.heap.size) HS3.out.pk
  go_upto_region 6 with (first
    | (go_at_call 25
       refine (HS3.out.lay 2 [sess] _ rfl rfl).mono ?_
       rintro e w4 ⟨v4, rfl, hS⟩
       have HS4 := Lib.hid hS
       clear hS s0 s1 s2 s3 s4 s5 s6 s7 s8 s9 s10 s11 s12 s13 s14 s15 s16 s17 s18 s19))
  obtain ⟨s0, s1, s2, s3, s4, s5, s6, s7, s8, s9, s10, s11, s12, s13, s14, s15, s16, s17, s18, s19⟩ := Wire.cell20 (w := w4) (g := w.heap.size) HS4.out.pk
  go_upto_region 7 with (first
    | (go_at_call 25
       refine (HS4.out.lay 1 [layer] _ rfl rfl).mono ?_
       rintro e w5 ⟨v5, rfl, hS⟩
       have HS5 := Lib.hid hS
       clear hS s0 s1 s2 s3 s4 s5 s6 s7 s8 s9 s10 s11 s12 s13 s14 s15 s16 s17 s18 s19))
  obtain ⟨s0, s1, s2, s3, s4, s5, s6, s7, s8, s9, s10, s11, s12, s13, s14, s15, s16, s17, s18, s19⟩ := Wire.cell20 (w := w5) (g := w.heap.size) HS5.out.pk
  go_upto_region 8 with (first
    | (go_at_call 25
       refine (HS5.out.lay 5 [tick] _ rfl rfl).mono ?_
       rintro e w6 ⟨v6, rfl, hS⟩
       have HS6 := Lib.hid hS
       clear hS s0 s1 s2 s3 s4 s5 s6 s7 s8 s9 s10 s11 s12 s13 s14 s15 s16 s17 s18 s19))
  obtain ⟨s0, s1, s2, s3, s4, s5, s6, s7, s8, s9, s10, s11, s12, s13, s14, s15, s16, s17, s18, s19⟩ := Wire.cell20 (w := w6) (g := w.heap.size) HS6.out.pk
  go_upto_region 14 with (first
    | (go_at_call 25
       refine (HS6.out.lay 4 [size] _ rfl rfl).mono ?_
       rintro e w7 ⟨v7, rfl, hS⟩
       have HS7 := Lib.hid hS
       clear hS s0 s1 s2 s3 s4 s5 s6 s7 s8 s9 s10 s11 s12 s13 s14 s15 s16 s17 s18 s19))
  obtain ⟨s0, s1, s2, s3, s4, s5, s6, s7, s8, s9, s10, s11, s12, s13, s14, s15, s16, s17, s18, s19⟩ := Wire.cell20 (w := w7) (g := w.heap.size) HS7.out.pk
  go_upto_region 15 with (first
    | (go_at_call 25
       refine (HS7.out.lay 1 [sym, blocks, long, short, layers] _ rfl rfl).mono ?_
       rintro e w8 ⟨v8, rfl, hS⟩
       have HS8 := Lib.hid hS
       clear hS s0 s1 s2 s3 s4 s5 s6 s7 s8 s9 s10 s11 s12 s13 s14 s15 s16 s17 s18 s19))
  obtain ⟨s0, s1, s2, s3, s4, s5, s6, s7, s8, s9, s10, s11, s12, s13, s14, s15, s16, s17, s18, s19⟩ := Wire.cell20 (w := w8) (g := w.heap.size) HS8.out.pk
  go_upto_region 16 with (first
    | (go_at_call 25
       refine (HS8.out.lay 2 [esis - 1, base, len] _ rfl rfl).mono ?_
       rintro e w9 ⟨v9, rfl, hS⟩
       have HS9 := Lib.hid hS
       clear hS s0 s1 s2 s3 s4 s5 s6 s7 s8 s9 s10 s11 s12 s13 s14 s15 s16 s17 s18 s19))
  go_wp2_with (first
    | (go_at_call 27
       refine (Add_calls w9 v9 _ HS9.out.ob.rb.rdlt (fun k hk => hk) (by have := HS9.out.le; simp only [List.length_cons, List.length_nil] at this; omega)).mono ?_
       rintro e w' ⟨v', rfl, h1, h2⟩
       have HE := Lib.hid (And.intro h1 (HS9.out.be.trans (h2.mono (Nat.le_trans HS9.out.hB HS9.out.be.size))))
       have HM := Lib.hid (Nat.le_trans HS9.out.hB HS9.out.be.size)
       clear h1 h2))
  go_ret2
  refine ⟨_, _, rfl, rfl, ?_, HE.out.2⟩
  have e : bodyI (Pk.mk kind sess layer tick burst sync many place block esi data size sym blocks long short layers esis base len) = (((((([] ++ layI 1 [kind]) ++ layI 2 [sess]) ++ layI 1 [layer]) ++ layI 5 [tick]) ++ layI 4 [size]) ++ layI 1 [sym, blocks, long, short, layers]) ++ layI 2 [esis - 1, base, len] := by
    unfold bodyI
    rw [if_neg HKN.out]
    simp only [lay_cons, lay_nil, List.append_assoc, List.nil_append, List.append_nil]
  rw [e]
  exact HE.out.1.base HM.out
set_option maxHeartbeats 16000000 in
set_option maxRecDepth 100000 in
theorem Put_data {D : Nat → Prop} {kind : Int} {sess : Int} {layer : Int} {tick : Int} {burst : Bool} {sync : Int} {many : Int} {place : Int} {block : Int} {esi : Int} {data : List Int} {size : Int} {sym : Int} {blocks : Int} {long : Int} {short : Int} {layers : Int} {esis : Int} {base : Int} {len : Int}
    (A : Option Addr) (L c : Nat) (w : World) (hr : RdB D w (.slice A L c) data) (hD : ∀ k, D k → k < w.heap.size) (hL : L = data.length) (hk : kind = 1) (hw : whyP (Pk.mk kind sess layer tick burst sync many place block esi data size sym blocks long short layers esis base len) = 0) (hs : -1 ≤ sync ∧ sync ≤ 7) (hd : 1 ≤ data.length ∧ data.length ≤ 64) :
    Calls Tryd.prog 12 #[pkV (Pk.mk kind sess layer tick burst sync many place block esi data size sym blocks long short layers esis base len) (.slice A L c)] w fun e w' => ∃ v' ev, e = .returned (.tuple #[v', ev]) ∧ ErR w' ev none ∧ OB w.heap.size w' v' (addI (bodyI (Pk.mk kind sess layer tick burst sync many place block esi data size sym blocks long short layers esis base len))) ∧ Below w.heap.size w w' := by
  have HL : Hid (L = (Pk.data (Pk.mk kind sess layer tick burst sync many place block esi data size sym blocks long short layers esis base len)).length) := Lib.hid hL
  have HR := Lib.hid hr
  have HD := Lib.hid hD
  have HLn := Lib.hid hL
  clear hr hD hL
  have HW : Hid (er ckN (whyP (Pk.mk kind sess layer tick burst sync many place block esi data size sym blocks long short layers esis base len)) = none) := Lib.hid (er_none.2 hw)
  have f_k1 : (kind == 1) = true := beq_iff_eq.2 hk
  have HKN := Lib.hid hk
  have HSY : Hid (-1 ≤ ((Pk.mk kind sess layer tick burst sync many place block esi data size sym blocks long short layers esis base len)).sync ∧ ((Pk.mk kind sess layer tick burst sync many place block esi data size sym blocks long short layers esis base len)).sync ≤ 7) := Lib.hid hs
  have HDL := Lib.hid hd
  obtain ⟨fl, hfl⟩ : ∃ fl, fl = flg (Pk.mk kind sess layer tick burst sync many place block esi data size sym blocks long short layers esis base len) := ⟨_, rfl⟩
  have HFL := Lib.hid hfl
  clear hk hw hs hd hfl
  go_enter Tryd.func12, Tryd.ntmps12
  go_upto_region 4 with (first
    | ((with_reducible refine gate_dst (N := 1) rfl ?_); refine wp_box rfl (.tmp 0) rfl rfl rfl ?_; intro w1 hP hB hs; have HP := Lib.hid hP; have HB := Lib.hid (And.intro hB hs); clear hP hB hs)
    | ((with_reducible refine gate_dst (N := 6) rfl ?_); refine wp_ldpk rfl (.tmp 1) rfl rfl HP.out ?_)
    | (go_at_call 8
       refine (Check_calls _ A L c _ HL.out).mono ?_
       rw [HW.out]
       rintro e w2 ⟨ev, rfl, h1, h2⟩
       obtain rfl := ErR_nil h1
       have HS2 : Hid (LS w.heap.size w w.heap.size (Pk.mk kind sess layer tick burst sync many place block esi data size sym blocks long short layers esis base len) (.slice A L c) w2 (.slice none 0 0) [] 0) := Lib.hid ⟨OB.nil _ _, HP.out.below h2, HB.out.1.trans (h2.mono HB.out.1.size), Nat.le_refl _, Nat.le_refl _⟩
       clear h1 h2))
  obtain ⟨s0, s1, s2, s3, s4, s5, s6, s7, s8, s9, s10, s11, s12, s13, s14, s15, s16, s17, s18, s19⟩ := Wire.cell20 (w := w2) (g := w.heap.size) HS2.out.pk
  go_upto_region 5 with (first
    | (go_at_call 25
       refine (HS2.out.lay 1 [kind] _ rfl rfl).mono ?_
       rintro e w3 ⟨v3, rfl, hS⟩
       have HS3 := Lib.hid hS
       clear hS s0 s1 s2 s3 s4 s5 s6 s7 s8 s9 s10 s11 s12 s13 s14 s15 s16 s17 s18 s19))
  obtain ⟨s0, s1, s2, s3, s4, s5, s6, s7, s8, s9, s10, s11, s12, s13, s14, s15, s16, s17, s18, s19⟩ := Wire.cell20 (w := w3) (g := w.heap.size) HS3.out.pk
  go_upto_region 6 with (first
    | (go_at_call 25
       refine (HS3.out.lay 2 [sess] _ rfl rfl).mono ?_
       rintro e w4 ⟨v4, rfl, hS⟩
       have HS4 := Lib.hid hS
       clear hS s0 s1 s2 s3 s4 s5 s6 s7 s8 s9 s10 s11 s12 s13 s14 s15 s16 s17 s18 s19))
  obtain ⟨s0, s1, s2, s3, s4, s5, s6, s7, s8, s9, s10, s11, s12, s13, s14, s15, s16, s17, s18, s19⟩ := Wire.cell20 (w := w4) (g := w.heap.size) HS4.out.pk
  go_upto_region 7 with (first
    | (go_at_call 25
       refine (HS4.out.lay 1 [layer] _ rfl rfl).mono ?_
       rintro e w5 ⟨v5, rfl, hS⟩
       have HS5 := Lib.hid hS
       clear hS s0 s1 s2 s3 s4 s5 s6 s7 s8 s9 s10 s11 s12 s13 s14 s15 s16 s17 s18 s19))
  obtain ⟨s0, s1, s2, s3, s4, s5, s6, s7, s8, s9, s10, s11, s12, s13, s14, s15, s16, s17, s18, s19⟩ := Wire.cell20 (w := w5) (g := w.heap.size) HS5.out.pk
  go_upto_region 8 with (first
    | (go_at_call 25
       refine (HS5.out.lay 5 [tick] _ rfl rfl).mono ?_
       rintro e w6 ⟨v6, rfl, hS⟩
       have HS6 := Lib.hid hS
       clear hS s0 s1 s2 s3 s4 s5 s6 s7 s8 s9 s10 s11 s12 s13 s14 s15 s16 s17 s18 s19))
  obtain ⟨s0, s1, s2, s3, s4, s5, s6, s7, s8, s9, s10, s11, s12, s13, s14, s15, s16, s17, s18, s19⟩ := Wire.cell20 (w := w6) (g := w.heap.size) HS6.out.pk
  go_upto_region 10 with (first
    | ((with_reducible refine gate_dst (N := 35) rfl ?_); refine wp_ldpk rfl (.tmp 1) rfl rfl HS6.out.pk ?_)
    | (go_at_call 26
       refine (flags_calls _ A L c _ HSY.out).mono ?_
       rw [← HFL.out]
       rintro e w7 ⟨rfl, hB⟩
       have HS7 := Lib.hid (HS6.out.below hB)
       clear hB s0 s1 s2 s3 s4 s5 s6 s7 s8 s9 s10 s11 s12 s13 s14 s15 s16 s17 s18 s19)
    | (go_at_call 25
       refine (HS7.out.lay 1 [fl] _ rfl rfl).mono ?_
       rintro e w8 ⟨v8, rfl, hS⟩
       have HS8 := Lib.hid hS
       clear hS))
  obtain ⟨s0, s1, s2, s3, s4, s5, s6, s7, s8, s9, s10, s11, s12, s13, s14, s15, s16, s17, s18, s19⟩ := Wire.cell20 (w := w8) (g := w.heap.size) HS8.out.pk
  go_upto_region 11 with (first
    | (go_at_call 25
       refine (HS8.out.lay 2 [many, place] _ rfl rfl).mono ?_
       rintro e w9 ⟨v9, rfl, hS⟩
       have HS9 := Lib.hid hS
       clear hS s0 s1 s2 s3 s4 s5 s6 s7 s8 s9 s10 s11 s12 s13 s14 s15 s16 s17 s18 s19))
  obtain ⟨s0, s1, s2, s3, s4, s5, s6, s7, s8, s9, s10, s11, s12, s13, s14, s15, s16, s17, s18, s19⟩ := Wire.cell20 (w := w9) (g := w.heap.size) HS9.out.pk
  go_upto_region 12 with (first
    | (go_at_call 25
       refine (HS9.out.lay 1 [block] _ rfl rfl).mono ?_
       rintro e w10 ⟨v10, rfl, hS⟩
       have HS10 := Lib.hid hS
       clear hS s0 s1 s2 s3 s4 s5 s6 s7 s8 s9 s10 s11 s12 s13 s14 s15 s16 s17 s18 s19))
  obtain ⟨s0, s1, s2, s3, s4, s5, s6, s7, s8, s9, s10, s11, s12, s13, s14, s15, s16, s17, s18, s19⟩ := Wire.cell20 (w := w10) (g := w.heap.size) HS10.out.pk
  clear s0 s1 s2 s3 s4 s5 s6 s7 s8 s11 s12 s13 s14 s15 s16 s17 s18 s19
  have HSd := Lib.hid (HS10.out.below (Below.refl _ _).drew)
  refine start_ (n := 9) (S := fun w' => w'.cell? ⟨w.heap.size, 9, none⟩ = some (.int .i64 esi) ∧ w'.cell? ⟨w.heap.size, 10, none⟩ = some (.slice A L c)) (ds := []) #[false, false, false, false, false, false, false, false, false] (by kernel_rfl) rfl rfl HSd.out.pk.c910 (fun hHeld => ?_)
  refine pure_ (i := 0) (N := some 51) (v := ?_) (a' := ?_) #[true, false, false, false, false, false, false, false, false] rfl rfl (by kernel_rfl) (fun _ _ _ h => h) (Or.inl ⟨by rfl, ?_⟩) ?_ ?_
  rotate_left
  · intro w'
    go_simp
    with_reducible rfl
  rotate_left
  · simp only [Act.put, List.setIfInBounds_toArray, List.set_cons_zero, List.set_cons_succ, i64_w, i32_w]
    rfl
  refine pure_ (i := 1) (N := some 52) (v := ?_) (a' := ?_) #[true, true, false, false, false, false, false, false, false] rfl rfl (by kernel_rfl) (fun _ _ _ h => h) (Or.inl ⟨by rfl, ?_⟩) ?_ ?_
  rotate_left
  · intro w'
    go_simp
    with_reducible rfl
  rotate_left
  · simp only [Act.put, List.setIfInBounds_toArray, List.set_cons_zero, List.set_cons_succ, i64_w, i32_w]
    rfl
  refine take_ (i := 2) (N := some 53) (v := ?_) (a' := ?_) #[true, true, true, false, false, false, false, false, false] rfl rfl (by kernel_rfl) (fun _ _ _ h => h) (Or.inl ⟨by rfl, ?_⟩) hHeld ?_ ?_
  rotate_left
  · rintro w' ⟨s9, s10⟩
    go_simp
    with_reducible rfl
  rotate_left
  · simp only [Act.put, List.setIfInBounds_toArray, List.set_cons_zero, List.set_cons_succ, i64_w, i32_w]
    rfl
  refine pure_ (i := 5) (N := some 56) (v := ?_) (a' := ?_) #[true, true, true, false, false, true, false, false, false] rfl rfl (by kernel_rfl) (fun _ _ _ h => h) (Or.inl ⟨by rfl, ?_⟩) ?_ ?_
  rotate_left
  · intro w'
    go_simp
    with_reducible rfl
  rotate_left
  · simp only [Act.put, List.setIfInBounds_toArray, List.set_cons_zero, List.set_cons_succ, i64_w, i32_w]
    rfl
  refine take_ (i := 6) (N := some 57) (v := ?_) (a' := ?_) #[true, true, true, false, false, true, true, false, false] rfl rfl (by kernel_rfl) (fun _ _ _ h => h) (Or.inl ⟨by rfl, ?_⟩) hHeld ?_ ?_
  rotate_left
  · rintro w' ⟨s9, s10⟩
    go_simp
    with_reducible rfl
  rotate_left
  · simp only [Act.put, List.setIfInBounds_toArray, List.set_cons_zero, List.set_cons_succ, i64_w, i32_w]
    rfl
  refine one_ (i := 3) (N := some 54) #[true, true, true, true, false, true, true, false, false] rfl rfl (by kernel_rfl) (by decide) (fun K hK => ?_)
  generalize w10.drew = wd at HSd hHeld ⊢
  have HSe := Lib.hid (HSd.out.below ((Below.refl _ _).alloc (Nat.le_refl _) (.cells #[.int .i64 esi] 3)))
  refine value_ (by rfl) rfl (w1 := wd.alloc (.cells #[.int .i64 esi] 3)) (v := .slice (some ⟨wd.heap.size, 0, none⟩) 1 1) (by go_simp) ?_
  refine hK.out _ _ HSe.out.pk.c910 (fun hHeldb => ?_)
  clear hK K hHeld
  refine norm_ (a' := ?_) ?_ ?_
  rotate_left
  · show Act.put _ (some 54) _ = _
    simp only [Act.put, List.setIfInBounds_toArray, List.set_cons_zero, List.set_cons_succ, i64_w, i32_w]
    rfl
  refine one_ (i := 4) (N := some 55) #[true, true, true, true, true, true, true, false, false] rfl rfl (by kernel_rfl) (by decide) (fun K hK => ?_)
  refine call_ 25 #[v10, .int .i64 2, .slice (some ⟨wd.heap.size, 0, none⟩) 1 1] (by rfl) rfl ?_ ?_
  · have he := enters_ (P := Tryd.prog) Tryd.func25 (by kernel_rfl) rfl #[v10, .int .i64 2, .slice (some ⟨wd.heap.size, 0, none⟩) 1 1] (wd.alloc (.cells #[.int .i64 esi] 3))
    unfold execOp
    simp [resolve, Deferred.ofValue, invoke, Act.eval, he]
  · refine (HSd.out.lay 2 [esi] _ rfl rfl).mono ?_
    rintro e w11 ⟨v11, rfl, hS⟩
    refine ⟨_, rfl, ?_⟩
    have HS11 := Lib.hid hS
    clear hS
    refine hK.out _ _ HS11.out.pk.c910 (fun hHeldc => ?_)
    clear hK K hHeldb
    refine norm_ (a' := ?_) ?_ ?_
    rotate_left
    · show Act.put _ (some 55) _ = _
      simp only [Act.put, List.setIfInBounds_toArray, List.set_cons_zero, List.set_cons_succ, i64_w, i32_w]
      rfl
    refine one_ (i := 7) (N := some 58) #[true, true, true, true, true, true, true, true, false] rfl rfl (by kernel_rfl) (by decide) (fun K hK => ?_)
    obtain ⟨v12, w12, hrun, hS⟩ := HS11.out.app HR.out HD.out HDL.out (by simp) 22
    have HS12 := Lib.hid hS
    clear hS
    refine value_ (by rfl) rfl (w1 := w12) (v := v12) ?hr ?_
    case hr => exact run_app (s := .tmp 55) (x := .tmp 57) rfl rfl rfl hrun
    refine hK.out _ _ HS12.out.pk.c910 (fun hHeldd => ?_)
    clear hK K hHeldc hrun
    refine norm_ (a' := ?_) ?_ ?_
    rotate_left
    · show Act.put _ (some 58) _ = _
      simp only [Act.put, List.setIfInBounds_toArray, List.set_cons_zero, List.set_cons_succ, i64_w, i32_w]
      rfl
    refine pure_ (i := 8) (N := some 5) (v := ?_) (a' := ?_) #[true, true, true, true, true, true, true, true, true] rfl rfl (by kernel_rfl) (fun _ _ _ h => h) (Or.inl ⟨by rfl, ?_⟩) ?_ ?_
    rotate_left
    · intro w'
      go_simp
      with_reducible rfl
    rotate_left
    · simp only [Act.put, List.setIfInBounds_toArray, List.set_cons_zero, List.set_cons_succ, i64_w, i32_w]
      rfl
    refine done_ (by kernel_rfl) ?_
    go_wp2_with (first
      | (go_at_call 27
         refine (Add_calls w12 v12 _ HS12.out.ob.rb.rdlt (fun k hk => hk) (by have := HS12.out.le; simp only [List.length_cons, List.length_nil] at this; omega)).mono ?_
         rintro e w' ⟨v', rfl, h1, h2⟩
         have HE := Lib.hid (And.intro h1 (HS12.out.be.trans (h2.mono (Nat.le_trans HS12.out.hB HS12.out.be.size))))
         have HM := Lib.hid (Nat.le_trans HS12.out.hB HS12.out.be.size)
         clear h1 h2))
    go_ret2
    refine ⟨_, _, rfl, rfl, ?_, HE.out.2⟩
    have e : bodyI (Pk.mk kind sess layer tick burst sync many place block esi data size sym blocks long short layers esis base len) = ((((((((([] ++ layI 1 [kind]) ++ layI 2 [sess]) ++ layI 1 [layer]) ++ layI 5 [tick]) ++ layI 1 [fl]) ++ layI 2 [many, place]) ++ layI 1 [block]) ++ layI 2 [esi]) ++ data) := by
      unfold bodyI
      rw [if_pos HKN.out, ← HFL.out]
      simp only [lay_cons, lay_nil, List.append_assoc, List.nil_append, List.append_nil]
    rw [e]
    exact HE.out.1.base HM.out
end Go.Proofs.YtfcofokbhhnfkaaDoor.Byt
