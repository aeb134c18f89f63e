/- (*mnet.Net).Spoil by its contract. Conditions: a net. -/
import Derived.Test.YtpfpdbbgiimnmaaDoorPg
import Derived.Test.YtpfpdbbgiimnmaaDoorSpo
namespace Go.Proofs.YtpfpdbbgiimnmaaDoor.Net
set_option linter.unusedSimpArgs false
set_option linter.unusedVariables false
open Go.RowKit Go.Deep Go.Proofs.YtpfpdbbgiimnmaaDoor.Er Go.Proofs.YtpfpdbbgiimnmaaDoor.Mod Go.Proofs.YtpfpdbbgiimnmaaDoorW.PrintWords Go.Proofs.YtpfpdbbgiimnmaaDoorW.PrintLast
theorem RB.rdlt {bb : Nat → Prop} {w : World} {v : Value} {l : List Int} (h : RB bb w v l) : RdB (fun k => k < w.heap.size) w v l := by
  obtain ⟨A, c, h1, h2, h3, h4, h5⟩ := h
  refine ⟨A, c, h1, h2, h3, h4, fun hne => ?_⟩
  obtain ⟨b, cur, e, hb, hc, hx⟩ := h5 hne
  refine ⟨_, e, lt_of hc, fun j x hj => ?_⟩
  have hadd : (⟨b, 0, none⟩ : Addr).add j = ⟨b, j, none⟩ := by unfold Addr.add; split <;> simp_all
  rw [hadd]
  simp [World.cell?, hc, hx j x hj]
/-- The error of a call of Spoil. -/
def spoilR (s : Nt) (i j a m : Int) : Option Er := if s.spoilE i j a m = 2 then some ([spoilN, chkSpoilN], 2) else er spoilN (s.spoilE i j a m)
theorem placeE_ne2 (s : Nt) (i j : Int) : ¬ s.placeE i j = 2 := by
  unfold Nt.placeE Nt.at
  split <;> split <;> omega
theorem itemAt_of {s : Nt} {k m : Nat} {x : It} (hx : (s.h k).q[m]? = some x) : itemAt s (k : Int) (m : Int) = x := by
  unfold itemAt; rw [Int.toNat_natCast, Int.toNat_natCast, hx]; rfl
theorem spoil_q (s : Nt) (k m : Nat) (f : It → It) (x : It) (hx : (s.h k).q[m]? = some x) : (s.h k).q.modify m f = (s.h k).q.set m (f x) := by
  apply List.ext_getElem?
  intro i
  rw [List.getElem?_modify, List.getElem?_set]
  by_cases e : m = i
  · subst e
    have hl : m < (s.h k).q.length := (List.getElem?_eq_some_iff.1 hx).1
    rw [if_pos rfl, if_pos hl, hx]; simp
  · rw [if_neg e]; simp [e]
set_option maxHeartbeats 8000000 in
set_option maxRecDepth 100000 in
theorem spoil_calls {bb : Nat → Prop} {w : World} {nb hb : Nat} {qv : Nat → Value} {s : Nt} (h : IsNet bb w nb hb qv s) (i j a mk : Int) (ha : -9223372036854775808 ≤ a ∧ a ≤ 9223372036854775807) (hm32 : 0 ≤ mk ∧ mk < 4294967296) :
    Calls Tryd.prog 10 #[.pointer (some ⟨nb, 0, none⟩), .int .i64 i, .int .i64 j, .int .i64 a, .int .u32 mk] w fun e w' => ∃ ev, e = .returned ev ∧ ErR w' ev (spoilR s i j a mk) ∧ NetP bb w nb hb s.n qv (s.spoil i j a mk) w' := by
  have HH := Lib.hid h
  by_cases hp : s.placeE i j = 0
  rotate_left
  · have he : s.spoilE i j a mk = s.placeE i j := if_neg hp
    have hd2 : s.spoil i j a mk = s := if_neg (by rw [he]; exact hp)
    have hr : spoilR s i j a mk = er spoilN (s.placeE i j) := by unfold spoilR; rw [he, if_neg (placeE_ne2 s i j)]
    have HPN := Lib.hid (place_no h i j hp)
    rw [hr, hd2]
    obtain ⟨E, hE⟩ : ∃ E, s.placeE i j = E := ⟨_, rfl⟩
    rw [hE] at hp HPN ⊢
    have hb0 : (E == 0) = false := beq_eq_false_iff_ne.2 hp
    clear h hE he hr hd2
    go_enter Tryd.func10, Tryd.ntmps10
    go_wp2_with (first
      | (go_at_call 32; refine HPN.out.mono ?_; rintro e w1 ⟨v1, rfl, hw1⟩; rw [hw1]; clear hw1)
      | (go_at_call 31; refine (fault_New.calls _ E (er spoilN E) _ rfl).mono ?_; rintro e w2 ⟨ev, rfl, h1, h2⟩; have HE := Lib.hid (And.intro h1 h2); clear h1 h2))
    go_ret
    exact ⟨_, rfl, HE.out.1, (NetP.refl HH.out).below HE.out.2⟩
  obtain ⟨k, m, rfl, rfl, hk, hm⟩ := place_at hp
  have HPL := Lib.hid (place_ok h k m hk hm)
  obtain ⟨x, hx⟩ : ∃ x, (s.h k).q[m]? = some x := ⟨_, List.getElem?_eq_getElem hm⟩
  have hE : s.spoilE (k : Int) (m : Int) a mk = if x.sp = true then 7 else if (spoilB x.b a mk).isSome = true then 0 else 2 := by
    unfold Nt.spoilE; rw [if_pos hp, itemAt_of hx]
  have t13 := h.cell hk 13 (by omega)
  simp only [hoCell] at t13
  obtain ⟨b, cap, l, e3, hl, hqr, hrb, hc1, hc2, cur, hcur⟩ := (h.qs k hk).parts (by omega)
  have hll : l.length = (s.h k).q.length := by rw [← hl, List.length_map]
  obtain ⟨p, hp1⟩ : ∃ p, l[m]? = some p := ⟨l[m]'(by omega), List.getElem?_eq_getElem _⟩
  obtain rfl : p.2 = x := by
    have : (l.map (·.2))[m]? = some p.2 := by rw [List.getElem?_map, hp1]; rfl
    rw [hl, hx] at this; exact (Option.some.inj this).symm
  obtain ⟨_, _, e9, _, _, hblt, hcell, hfr⟩ := hqr.cells (by omega)
  cases e9
  have d0 : w.cell? ⟨b, m * 3, none⟩ = some p.1 := hcell _ _ (it_at l m p 0 hp1 (by omega))
  have d2 : w.cell? ⟨b, m * 3 + 2, none⟩ = some (.bool p.2.sp) := hcell _ _ (it_at l m p 2 hp1 (by omega))
  have f0 := hfr (m * 3)
  have f2 := hfr (m * 3 + 2)
  have hbh : hb ≠ b := fun e => (h.nb_q hk).2 (by rw [e3, e]; rfl)
  rw [e3] at t13
  obtain ⟨n, hn⟩ : ∃ n, n = (s.h k).q.length := ⟨_, rfl⟩
  rw [← hn] at t13 hm hc1
  by_cases hsp : p.2.sp = true
  · have he : s.spoilE (k : Int) (m : Int) a mk = 7 := hE.trans (if_pos hsp)
    have hd2 : s.spoil (k : Int) (m : Int) a mk = s := if_neg (by rw [he]; decide)
    have hr : spoilR s (k : Int) (m : Int) a mk = er spoilN 7 := by unfold spoilR; rw [he]; rfl
    rw [hr, hd2]
    simp only [hsp] at d2
    clear h hl hqr hrb hcur e3 hn hp hc2 hll hp1 hcell hfr hE hsp he hd2 hr hx
    go_enter Tryd.func10, Tryd.ntmps10
    go_wp2_with (first
      | (go_at_call 32; refine HPL.out.mono ?_; rintro e w1 ⟨rfl, hw1⟩; rw [hw1]; clear hw1)
      | (go_at_call 31; refine (fault_New.calls _ 7 (er spoilN 7) _ rfl).mono ?_; rintro e w2 ⟨ev, rfl, h1, h2⟩; have HE := Lib.hid (And.intro h1 h2); clear h1 h2))
    go_ret
    exact ⟨_, rfl, HE.out.1, (NetP.refl HH.out).below HE.out.2⟩
  have hsp0 : p.2.sp = false := by simpa using hsp
  rw [if_neg hsp] at hE
  rw [hsp0] at d2
  have HCK : Hid (Calls Tryd.prog 33 #[p.1, .int .i64 a, .int .u32 mk] w fun e w' => SpoilR w.heap.size (spoilB p.2.b a mk) e w' ∧ Below w.heap.size w w') := Lib.hid (by
    have hrb1 := hrb p (List.mem_of_getElem? hp1)
    exact chkspoil_calls hrb1.rdlt (fun k hk => hk) a mk ha hm32)
  obtain ⟨A9, L9, c9, hp9⟩ : ∃ A9 L9 c9, p.1 = .slice A9 L9 c9 := by obtain ⟨A, c, e, _⟩ := hrb p (List.mem_of_getElem? hp1); exact ⟨A, _, c, e⟩
  rw [hp9] at d0 HCK
  cases hsb : spoilB p.2.b a mk with
  | none =>
    have he : s.spoilE (k : Int) (m : Int) a mk = 2 := by rw [hE, hsb]; rfl
    have hd2 : s.spoil (k : Int) (m : Int) a mk = s := if_neg (by rw [he]; decide)
    have hr : spoilR s (k : Int) (m : Int) a mk = some ([spoilN, chkSpoilN], 2) := by unfold spoilR; rw [he]; rfl
    rw [hr, hd2]
    rw [hsb] at HCK
    clear h hl hqr hrb hcur e3 hn hp hc2 hll hp1 hcell hfr hE hsp he hd2 hr hx hsb hp9
    go_enter Tryd.func10, Tryd.ntmps10
    go_wp2_with (first
      | (go_at_call 32; refine HPL.out.mono ?_; rintro e w1 ⟨rfl, hw1⟩; rw [hw1]; clear hw1)
      | (go_at_call 33; refine HCK.out.mono ?_; rintro e w2 ⟨⟨ev, rfl, h1⟩, h2⟩; obtain ⟨ad, rfl⟩ := ErR_ptr h1; have HE := Lib.hid (And.intro h1 h2); clear h1 h2)
      | (go_at_call 34; refine (fault_Wrap.calls _ _ _ (some ([spoilN, chkSpoilN], 2)) _ HE.out.1 rfl).mono ?_; rintro e w3 ⟨ev3, rfl, h1, h2⟩; have HE3 := Lib.hid (And.intro h1 h2); clear h1 h2))
    go_ret
    exact ⟨_, rfl, HE3.out.1, ((NetP.refl HH.out).below HE.out.2).below HE3.out.2⟩
  | some Y =>
    have he : s.spoilE (k : Int) (m : Int) a mk = 0 := by rw [hE, hsb]; rfl
    have hr : spoilR s (k : Int) (m : Int) a mk = none := by unfold spoilR; rw [he]; rfl
    have hd2 : s.spoil (k : Int) (m : Int) a mk = s.put k { s.h k with q := (s.h k).q.set m ⟨Y, p.2.due, true⟩ } := by
      rw [show s.spoil (k : Int) (m : Int) a mk = _ from if_pos he, Int.toNat_natCast, Int.toNat_natCast, spoil_q s k m _ p.2 hx, hsb]; rfl
    rw [hr, hd2]
    rw [hsb] at HCK
    have HP : Hid (∀ (w2 : World) (A8 : Option Addr) (c8 : Nat), Below w.heap.size w w2 → RB (fun k => w.heap.size ≤ k) w2 (.slice A8 Y.length c8) Y →
        NetP bb w nb hb s.n qv (s.put k { s.h k with q := (s.h k).q.set m ⟨Y, p.2.due, true⟩ }) ((w2.drew.setCell ⟨b, m * 3, none⟩ (.slice A8 Y.length c8)).setCell ⟨b, m * 3 + 2, none⟩ (.bool true)) ∧
        ((w2.drew.setCell ⟨b, m * 3, none⟩ (.slice A8 Y.length c8)).cell? ⟨hb, k * 14 + 13, none⟩ = some (.slice (some ⟨b, 0, none⟩) n cap) ∧ (∃ u, (w2.drew.setCell ⟨b, m * 3, none⟩ (.slice A8 Y.length c8)).cell? ⟨b, m * 3, none⟩ = some u) ∧ (w2.drew.setCell ⟨b, m * 3, none⟩ (.slice A8 Y.length c8)).frozen? ⟨b, m * 3, none⟩ = false ∧ (w2.drew.setCell ⟨b, m * 3, none⟩ (.slice A8 Y.length c8)).cell? ⟨b, m * 3 + 2, none⟩ = some (.bool false) ∧ (w2.drew.setCell ⟨b, m * 3, none⟩ (.slice A8 Y.length c8)).frozen? ⟨b, m * 3 + 2, none⟩ = false) ∧
        w2.cell? ⟨hb, k * 14 + 13, none⟩ = some (.slice (some ⟨b, 0, none⟩) n cap) ∧ (∃ u, w2.cell? ⟨b, m * 3, none⟩ = some u) ∧ w2.frozen? ⟨b, m * 3, none⟩ = false ∧ w2.cell? ⟨b, m * 3 + 2, none⟩ = some (.bool false) ∧ w2.frozen? ⟨b, m * 3 + 2, none⟩ = false) := Lib.hid (by
      intro w2 A8 c8 hB hY
      have hcur2 : w2.heap[b]? = some (.cells cur 74 (0, 0)) := (hB.block b hblt).trans hcur
      have hqr2 : QR w2 (.slice (some ⟨b, 0, none⟩) (s.h k).q.length cap) (s.h k).q.length (itCells l) := hqr.keep (fun b' e => by cases e; exact hB.block b hblt)
      have hq1 := (show QR w2.drew _ _ _ from hqr2).set (m * 3) (by omega) (.slice A8 Y.length c8)
      have hq2 := hq1.set (m * 3 + 2) (by omega) (.bool true)
      have e5 : (itCells l).set (m * 3) (.slice A8 Y.length c8) = itCells (l.set m (.slice A8 Y.length c8, p.2)) := itCells_set l m p _ hp1 0 (by omega) _ (fun d hd => by
        match d, hd with
        | 0, _ => rfl
        | 1, _ => rfl
        | 2, _ => rfl)
      have e6 : (itCells (l.set m (.slice A8 Y.length c8, p.2))).set (m * 3 + 2) (.bool true) = itCells (l.set m (.slice A8 Y.length c8, ⟨Y, p.2.due, true⟩)) := by
        rw [itCells_set (l.set m (.slice A8 Y.length c8, p.2)) m (.slice A8 Y.length c8, p.2) (.slice A8 Y.length c8, ⟨Y, p.2.due, true⟩) (by rw [List.getElem?_set, if_pos rfl, if_pos (by omega)]) 2 (by omega) (.bool true) (fun d hd => by
          match d, hd with
          | 0, _ => rfl
          | 1, _ => rfl
          | 2, _ => rfl), List.set_set]
      rw [e5, e6] at hq2
      have hblk : ∀ (b' : Nat) (cur' : Array Value), w2.heap[b']? = some (Obj.cells cur' 5 (0, 0)) → ((w2.drew.setCell ⟨b, m * 3, none⟩ (.slice A8 Y.length c8)).setCell ⟨b, m * 3 + 2, none⟩ (.bool true)).heap[b']? = w2.heap[b']? := by
        intro b' cur' e
        have hne : b' ≠ b := by rintro rfl; exact not_bytes hcur2 e
        exact (Deep.blk_setCell_other _ _ _ _ hne).trans (Deep.blk_setCell_other _ _ _ _ hne)
      rw [e5] at hq1
      obtain ⟨_, _, e7, _, _, _, hc1', hf1'⟩ := hq1.cells (by omega)
      cases e7
      obtain ⟨_, _, e8, _, _, _, hc2', hf2'⟩ := hqr2.cells (by omega)
      cases e8
      have hb2 : w2.heap[hb]? = w.heap[hb]? := hB.block hb h.hos.lt
      have y13 : w2.cell? ⟨hb, k * 14 + 13, none⟩ = some (.slice (some ⟨b, 0, none⟩) n cap) := (cell_blk (a := ⟨hb, _, none⟩) hb2).trans t13
      have hpm : (l.set m (.slice A8 Y.length c8, p.2))[m]? = some (.slice A8 Y.length c8, p.2) := by rw [List.getElem?_set, if_pos rfl, if_pos (by omega)]
      refine ⟨?_, ⟨?_, ⟨_, hc1' _ _ (it_at _ m _ 0 hpm (by omega))⟩, hf1' _, (hc1' _ _ (it_at _ m _ 2 hpm (by omega))).trans (by rw [hsp0]), hf1' _⟩, y13, ⟨p.1, hc2' _ _ (it_at l m p 0 hp1 (by omega))⟩, hf2' _, (hc2' _ _ (it_at l m p 2 hp1 (by omega))).trans (by rw [hsp0]), hf2' _⟩
      · refine NetP.item (bb5 := fun k' => bb k' ∨ w.heap.size ≤ k') h (Stp.refl _ _ _ _ _ _) rfl hk ?_ (fun b' e _ => .inl e) (fun b' e => e) ?_
        · exact ((Fr.of_below (S := fun b' => (qv k).ownBlock = some b') hB).drew.set (a := ⟨b, _, none⟩) (.inl (by rw [e3]; rfl)) _).set (a := ⟨b, _, none⟩) (.inl (by rw [e3]; rfl)) _
        · refine ⟨l.set m (.slice A8 Y.length c8, ⟨Y, p.2.due, true⟩), ?_, ?_, fun p' hp' => ?_⟩
          · rw [List.map_set, hl]
          · rw [List.length_set, hll, e3]; exact hq2
          · rcases List.mem_or_eq_of_mem_set hp' with e | rfl
            · exact ((hrb p' e).below hB).keep (fun b' cur' e1 e2 => ⟨hblk b' cur' e2, .inl e1⟩)
            · exact hY.keep (fun b' cur' e1 e2 => ⟨hblk b' cur' e2, .inr e1⟩)
      · exact (cell_blk (w := w2) (a := ⟨hb, _, none⟩) (Deep.blk_setCell_other w2.drew _ _ _ hbh)).trans y13)
    clear h hl hqr hrb hcur e3 hn hp hc2 hll hp1 hcell hfr hE hsp he hd2 hr hx hsb hp9 f0 f2
    go_enter Tryd.func10, Tryd.ntmps10
    go_upto_region 9 with (first
      | (go_at_call 32; refine HPL.out.mono ?_; rintro e w1 ⟨rfl, hw1⟩; rw [hw1]; clear hw1)
      | (go_at_call 33; refine HCK.out.mono ?_; rintro e w2 ⟨⟨A8, c8, rfl, h1⟩, h2⟩; have HE := Lib.hid (HP.out w2 A8 c8 h2 h1); clear h1 h2))
    have HS5 := Lib.hid HE.out.2.1
    have HN9 := Lib.hid HE.out.1
    obtain ⟨y13, ⟨uy, y0⟩, y1, y2, y3⟩ := HE.out.2.2
    clear HE HP HCK t13 d0 d2 hblt
    generalize Y.length = L8 at HS5 HN9 ⊢
    refine start_ (n := 17) (S := fun w' => w'.cell? ⟨hb, k * 14 + 13, none⟩ = some (.slice (some ⟨b, 0, none⟩) n cap) ∧ (∃ u, w'.cell? ⟨b, m * 3, none⟩ = some u) ∧ w'.frozen? ⟨b, m * 3, none⟩ = false ∧ w'.cell? ⟨b, m * 3 + 2, none⟩ = some (.bool false) ∧ w'.frozen? ⟨b, m * 3 + 2, none⟩ = false) (ds := [16]) #[false, false, false, false, false, false, false, false, false, false, false, false, false, false, false, false, false] (by kernel_rfl) rfl rfl ⟨y13, ⟨_, y0⟩, y1, y2, y3⟩ (fun hHeld => ?_)
    refine pu_ 0 56 (bm_ 17 0x1) ?_
    refine pu_ 1 57 (bm_ 17 0x3) ?_
    refine pu_ 2 58 (bm_ 17 0x7) ?_
    refine tk_ 3 59 (bm_ 17 0xf) hHeld ?_
    refine pu_ 4 60 (bm_ 17 0x1f) ?_
    refine pu_ 5 61 (bm_ 17 0x3f) ?_
    refine pu_ 6 62 (bm_ 17 0x7f) ?_
    refine pu_ 7 63 (bm_ 17 0xff) ?_
    refine tk_ 8 64 (bm_ 17 0x1ff) hHeld ?_
    refine pu_ 9 65 (bm_ 17 0x3ff) ?_
    refine pu_ 10 66 (bm_ 17 0x7ff) ?_
    refine pu_ 11 67 (bm_ 17 0xfff) ?_
    refine pu_ 12 68 (bm_ 17 0x1fff) ?_
    refine on_ 13 none (bm_ 17 0x3fff) fun K hK => ?_
    obtain ⟨r0, ⟨ru, r1⟩, r2, r3, r4⟩ := hHeld
    refine skip_ (by rfl) rfl (w1 := w2.drew.setCell ⟨b, m * 3, none⟩ (.slice A8 L8 c8)) (by go_simp) ?_
    refine hK.out _ _ HS5.out (fun hHeld5 => ?_)
    clear hK K
    refine pu_ 14 69 (bm_ 17 0x7fff) ?_
    refine pu_ 15 70 (bm_ 17 0xffff) ?_
    refine la_ 16 none (bm_ 17 0x1ffff) fun K hK => ?_
    obtain ⟨r5, ⟨rv, r6⟩, r7, r8, r9⟩ := hHeld5
    generalize hw5 : w2.drew.setCell ⟨b, m * 3, none⟩ (.slice A8 L8 c8) = w5 at r5 r6 r7 r8 r9 HN9 ⊢
    clear hw5 r0 r1 r2 r3 r4 HS5
    refine skip_ (by rfl) rfl (w1 := w5.setCell ⟨b, m * 3 + 2, none⟩ (.bool true)) (by go_simp) ?_
    refine hK.out _ _ ?_
    clear hK K
    refine done_ (by kernel_rfl) ?_
    clear r5 r6 r7 r8 r9
    generalize w5.setCell ⟨b, m * 3 + 2, none⟩ (.bool true) = w6 at HN9 ⊢
    go_wp2
    go_ret
    exact ⟨_, rfl, rfl, HN9.out⟩
end Go.Proofs.YtpfpdbbgiimnmaaDoor.Net
