/- (*mnet.Net).Want by its contract. Conditions: a host's level from -1 to 7, its graft from 0 to 64, the tick below 2^40. -/
import Derived.Test.YtpfpdbbgiimnmaaDoorPg
import Derived.Test.YtpfpdbbgiimnmaaDoorNew
namespace Go.Proofs.YtpfpdbbgiimnmaaDoor.Net
set_option linter.unusedSimpArgs false
set_option linter.unusedVariables false
open Go.RowKit Go.Deep Go.Proofs.YtpfpdbbgiimnmaaDoor.Er Go.Proofs.YtpfpdbbgiimnmaaDoor.Mod Go.Proofs.YtpfpdbbgiimnmaaDoorW.PrintWords Go.Proofs.YtpfpdbbgiimnmaaDoorW.PrintLast
def wantAt (s : Nt) (k p : Nat) : Nt := s.put k { s.h k with fro := (s.h k).froTo (s.now + (s.h k).graft) (p : Int) }
theorem froTo_step (x : Ho) (t : Int) (p : Nat) (hp : x.level < (p : Int)) (j : Nat) : x.froTo t ((p + 1 : Nat) : Int) j = if j = p then t else x.froTo t (p : Int) j := by
  unfold Ho.froTo
  by_cases e : j = p
  · subst e; rw [if_pos rfl, if_pos (by omega)]
  · rw [if_neg e]
    by_cases e2 : x.level < (j : Int) ∧ (j : Int) < (p : Int)
    · rw [if_pos e2, if_pos (by omega)]
    · rw [if_neg e2, if_neg (by omega)]
theorem want_step {bb : Nat → Prop} {w w' : World} {nb hb : Nat} {qv : Nat → Value} {s : Nt} {k p : Nat} (h : NetP bb w nb hb s.n qv (wantAt s k p) w') (hk : k < s.n) (hp8 : p < 8) (hp : (s.h k).level < (p : Int)) : NetP bb w nb hb s.n qv (wantAt s k (p + 1)) (w'.setCell ⟨hb, k * 14 + 2 + p, none⟩ (.int .i64 (s.now + (s.h k).graft))) := by
  rw [Nat.add_assoc]
  refine h.put (c := 2 + p) rfl hk (by omega) { s.h k with fro := (s.h k).froTo (s.now + (s.h k).graft) ((p + 1 : Nat) : Int) } (by unfold wantAt; rw [put_h]) (fun q => ?_) (by unfold wantAt; rw [put_put])
  unfold wantAt
  rw [put_h]
  refine fourteen ?_ ?_ (fun j h2 h3 => ?_) ?_ ?_ ?_ ?_
  · rw [if_neg (by omega)]; rfl
  · rw [if_neg (by omega)]; rfl
  · obtain ⟨i, rfl⟩ : ∃ i, j = 2 + i := ⟨j - 2, by omega⟩
    rw [ho_fro _ _ _ (by omega), ho_fro _ _ _ (by omega)]
    show _ = Value.int .i64 ((s.h k).froTo _ ((p + 1 : Nat) : Int) i)
    rw [froTo_step _ _ _ hp]
    by_cases e : i = p
    · rw [if_pos (by omega), if_pos e]
    · rw [if_neg (by omega), if_neg e]
  · rw [if_neg (by omega)]; rfl
  · rw [if_neg (by omega)]; rfl
  · rw [if_neg (by omega)]; rfl
  · rw [if_neg (by omega)]; rfl
theorem want_start {bb : Nat → Prop} {w : World} {nb hb : Nat} {qv : Nat → Value} {s : Nt} (h : IsNet bb w nb hb qv s) (k p : Nat) (hp : (p : Int) ≤ (s.h k).level + 1) : NetP bb w nb hb s.n qv (wantAt s k p) w := by
  have e : (s.h k).froTo (s.now + (s.h k).graft) (p : Int) = (s.h k).fro := by
    funext j; unfold Ho.froTo; exact if_neg (by omega)
  have e2 : wantAt s k p = s := by unfold wantAt; rw [e]; exact put_self s k
  rw [e2]; exact NetP.refl h
theorem want_end {bb : Nat → Prop} {w w' : World} {nb hb : Nat} {qv : Nat → Value} {s : Nt} {k p : Nat} {l : Int} (h : NetP bb w nb hb s.n qv (wantAt s k p) w') (hk : k < s.n) (hp : (p : Int) = l + 1 ∨ ((p : Int) ≤ (s.h k).level + 1 ∧ l < (p : Int))) (he : s.wantE (k : Int) l = 0) : NetP bb w nb hb s.n qv (s.want (k : Int) l) (w'.setCell ⟨hb, k * 14 + 1, none⟩ (.int .i64 l)) := by
  rw [show s.want (k : Int) l = _ from if_pos he]
  refine h.put (c := 1) rfl hk (by omega) { s.h k with fro := (s.h k).froTo (s.now + (s.h k).graft) (l + 1), level := l } (by unfold wantAt; rw [put_h]) (fun q => ?_) (by unfold wantAt; rw [put_put]; rfl)
  unfold wantAt
  rw [put_h]
  refine ho_ext _ _ _ _ _ _ (by omega) ?_ rfl rfl rfl rfl rfl rfl
  funext j
  show (s.h k).froTo _ (l + 1) j = (s.h k).froTo _ (p : Int) j
  unfold Ho.froTo
  rcases hp with e | ⟨e, e3⟩
  · rw [e]
  · rw [if_neg (by omega), if_neg (by omega)]
set_option maxHeartbeats 2000000 in
set_option maxRecDepth 100000 in
theorem want_calls {bb : Nat → Prop} {w : World} {nb hb : Nat} {qv : Nat → Value} {s : Nt} (h : IsNet bb w nb hb qv s) (i l : Int) (hlv : ∀ k, k < s.n → -1 ≤ (s.h k).level ∧ (s.h k).level < 8) (hgr : ∀ k, k < s.n → 0 ≤ (s.h k).graft ∧ (s.h k).graft ≤ 64) (hnow : 0 ≤ s.now ∧ s.now < 5000000000000) :
    Calls Tryd.prog 18 #[.pointer (some ⟨nb, 0, none⟩), .int .i64 i, .int .i64 l] w fun e w' => ∃ ev, e = .returned ev ∧ ErR w' ev (er wantN (s.wantE i l)) ∧ NetP bb w nb hb s.n qv (s.want i l) w' := by
  have HH := Lib.hid h
  by_cases ha : s.at i = 0
  rotate_left
  · obtain ⟨a1, a2⟩ := at_no ha
    have he : s.wantE i l = 1 := (if_neg ha).trans a1
    have hp : s.want i l = s := if_neg (by rw [he]; decide)
    rw [he, hp]
    have HI := Lib.hid a2
    clear ha a1 a2 he hp h hlv hgr hnow
    go_enter Tryd.func18, Tryd.ntmps18
    go_wp2_with (first | (go_at_call 30; refine (at_bad HH.out i HI.out).mono ?_; rintro e w1 ⟨rfl, rfl⟩) | (go_at_call 31; refine (fault_New.calls _ 1 _ _ rfl).mono ?_; rintro e w2 ⟨ev, rfl, h1, h2⟩; have HE := Lib.hid (And.intro h1 h2); clear h1 h2))
    go_ret
    exact ⟨_, rfl, HE.out.1, (NetP.refl HH.out).below HE.out.2⟩
  obtain ⟨k, rfl, hk⟩ := at_of ha
  have hE : s.wantE (k : Int) l = _ := if_pos ha
  simp only [Int.toNat_natCast] at hE
  have t0 := h.cell hk 0 (by omega)
  simp only [hoCell, Nat.add_zero] at t0
  by_cases hb1 : (s.h k).there = true
  rotate_left
  · have he : s.wantE (k : Int) l = 7 := hE.trans (by simp [hb1])
    have hp : s.want (k : Int) l = s := if_neg (by rw [he]; decide)
    rw [he, hp]
    simp only [hb1] at t0
    clear ha he hp h hE hlv hgr hnow
    go_enter Tryd.func18, Tryd.ntmps18
    go_wp2_with (first | (go_at_call 30; refine (at_ok HH.out k hk).mono ?_; rintro e w1 ⟨rfl, rfl⟩) | (go_at_call 31; refine (fault_New.calls _ 7 _ _ rfl).mono ?_; rintro e w2 ⟨ev, rfl, h1, h2⟩; have HE := Lib.hid (And.intro h1 h2); clear h1 h2))
    go_ret
    exact ⟨_, rfl, HE.out.1, (NetP.refl HH.out).below HE.out.2⟩
  simp only [hb1] at t0
  rw [if_pos hb1] at hE
  by_cases hb2 : l < -1 ∨ 8 ≤ l
  · have he : s.wantE (k : Int) l = 1 := hE.trans (if_pos hb2)
    have hp : s.want (k : Int) l = s := if_neg (by rw [he]; decide)
    rw [he, hp]
    clear ha he hp h hE hlv hgr hnow hb1
    have hb3 : l < -1 ∨ (¬ l < -1 ∧ 8 ≤ l) := by omega
    clear hb2
    rcases hb3 with hb3 | ⟨hb3, hb4⟩
    all_goals
      go_enter Tryd.func18, Tryd.ntmps18
      go_wp2_with (first | (go_at_call 30; refine (at_ok HH.out k hk).mono ?_; rintro e w1 ⟨rfl, rfl⟩) | (go_at_call 31; refine (fault_New.calls _ 1 _ _ rfl).mono ?_; rintro e w2 ⟨ev, rfl, h1, h2⟩; have HE := Lib.hid (And.intro h1 h2); clear h1 h2))
      go_ret
      exact ⟨_, rfl, HE.out.1, (NetP.refl HH.out).below HE.out.2⟩
  have he : s.wantE (k : Int) l = 0 := hE.trans (if_neg hb2)
  have l1 : -1 ≤ l := by omega
  have l2 : l < 8 := by omega
  clear ha hE hb2 hb1
  have t1 := h.cell hk 1 (by omega)
  have t10 := h.cell hk 10 (by omega)
  have f1 := h.hos.frozen (k * 14 + 1)
  simp only [hoCell] at t1 t10
  obtain ⟨lv, hlve⟩ : ∃ lv, lv = (s.h k).level := ⟨_, rfl⟩
  obtain ⟨gr, hgre⟩ : ∃ gr, gr = (s.h k).graft := ⟨_, rfl⟩
  obtain ⟨now, hnowe⟩ : ∃ now, now = s.now := ⟨_, rfl⟩
  have hlv := hlv k hk
  have hgr := hgr k hk
  have h0 := h.now
  have hnlt := h.net.lt
  have hlt := h.hos.lt
  rw [← hlve] at t1 hlv
  rw [← hgre] at t10 hgr
  rw [← hnowe] at h0 hnow
  have HV := Lib.hid (And.intro hlve (And.intro hgre (And.intro hnowe he)))
  rw [he]
  have HP0 : Hid (NetP bb w nb hb s.n qv (wantAt s k (lv + 1).toNat) w) := Lib.hid (want_start h k _ (by rw [← hlve]; omega))
  clear h hlve hgre hnowe he
  obtain ⟨hv1, hv2⟩ := hlv
  obtain ⟨hg1, hg2⟩ := hgr
  obtain ⟨hn1, hn2⟩ := hnow
  have hwr : IntKind.i64.wrap (now + gr) = now + gr := by rw [IntKind.wrap_i64]; omega
  have HWR := Lib.hid hwr
  clear hwr
  go_enter Tryd.func18, Tryd.ntmps18
  go_wp2_with (first | (go_at_call 30; refine (at_ok HH.out k hk).mono ?_; rintro e w1 ⟨rfl, hw1⟩; rw [hw1]; clear hw1))
  go_loopg [9] (20 - (lv + 1).toNat) (fun kq v9 wr => ∃ p : Nat, v9 = .int .i64 p ∧ Hid (lv < p ∧ ((p : Int) = l + 1 ∨ p ≤ (lv + 1).toNat ∨ (p : Int) ≤ l) ∧ p < 9 ∧ kq = 20 - p) ∧ Hid (NetP bb w nb hb s.n qv (wantAt s k p) wr))
  case atStart => exact ⟨(lv + 1).toNat, by rw [show (((lv + 1).toNat : Nat) : Int) = lv + 1 by omega], Lib.hid ⟨by omega, .inr (.inl (Nat.le_refl _)), by omega, by omega⟩, HP0⟩
  case round =>
    clear HP0
    obtain ⟨p, rfl, HK, HA⟩ := hrel
    obtain ⟨bb', qv', h1, h2⟩ := HA.out
    have y0 : wr.cell? ⟨nb, 0, none⟩ = some (.int .i64 now) := by rw [HV.out.2.2.1]; exact h1.now
    have yg : wr.cell? ⟨hb, k * 14 + 10, none⟩ = some (.int .i64 gr) := by
      have := h1.cell (k := k) hk 10 (by omega)
      unfold wantAt at this
      rw [put_h] at this
      rw [HV.out.2.1]; exact this
    have y1 : wr.cell? ⟨hb, k * 14 + 1, none⟩ = some (.int .i64 lv) := by
      have := h1.cell (k := k) hk 1 (by omega)
      unfold wantAt at this
      rw [put_h] at this
      rw [HV.out.1]; exact this
    have yf1 := h1.hos.frozen (k * 14 + 1)
    by_cases hp : (p : Int) ≤ l
    · have hp8 : p < 8 := by omega
      obtain ⟨u, hu⟩ : ∃ u, wr.cell? ⟨hb, k * 14 + 2 + p, none⟩ = some u := by
        have := h1.cell (k := k) hk (2 + p) (by omega)
        rw [← Nat.add_assoc] at this
        exact ⟨_, this⟩
      have yfp := h1.hos.frozen (k * 14 + 2 + p)
      have hnlr := h1.net.lt
      have hltr := h1.hos.lt
      have hne := h1.nb_hb
      have HP1 : Hid (NetP bb w nb hb s.n qv (wantAt s k (p + 1)) (wr.drew.setCell ⟨hb, k * 14 + 2 + p, none⟩ (.int .i64 (now + gr)))) := Lib.hid (by
        rw [HV.out.2.2.1, HV.out.2.1]
        exact want_step (HA.out.below (Below.refl _ _).drew) hk hp8 (by rw [← HV.out.1]; exact HK.out.1))
      have HS1 : Hid ((wr.drew.setCell ⟨hb, k * 14 + 2 + p, none⟩ (.int .i64 (now + gr))).cell? ⟨nb, 0, none⟩ = some (.int .i64 now) ∧ (wr.drew.setCell ⟨hb, k * 14 + 2 + p, none⟩ (.int .i64 (now + gr))).cell? ⟨hb, k * 14 + 10, none⟩ = some (.int .i64 gr)) := Lib.hid (by
        obtain ⟨bb2, qv2, g1, g2⟩ := HP1.out
        refine ⟨by rw [HV.out.2.2.1] at *; exact g1.now, ?_⟩
        have := g1.cell (k := k) hk 10 (by omega)
        unfold wantAt at this
        rw [put_h] at this
        rw [this, HV.out.2.1]; rfl)
      clear h1 h2 HA
      go_upto_region 12 with (fail)
      refine start_ (n := 15) (S := fun w' => w'.cell? ⟨nb, 0, none⟩ = some (.int .i64 now) ∧ w'.cell? ⟨hb, k * 14 + 10, none⟩ = some (.int .i64 gr)) (ds := []) #[false, false, false, false, false, false, false, false, false, false, false, false, false, false, false] (by kernel_rfl) rfl rfl ⟨y0, yg⟩ (fun hHeld => ?_)
      have yu : wr.drew.cell? ⟨hb, k * 14 + 2 + p, none⟩ = some u := hu
      have yfd : wr.drew.frozen? ⟨hb, k * 14 + 2 + p, none⟩ = false := yfp
      have hwr := HWR.out
      clear hu yfp y0 yg y1 yf1
      generalize wr.drew = w3 at *
      have hp8j : (p : Int) < 8 := by omega
      refine pu_ 0 46 (bm_ 15 0x1) ?_
      refine pu_ 1 47 (bm_ 15 0x3) ?_
      refine pu_ 2 48 (bm_ 15 0x7) ?_
      refine pu_ 3 49 (bm_ 15 0xf) ?_
      refine pu_ 4 50 (bm_ 15 0x1f) ?_
      refine tk_ 5 51 (bm_ 15 0x3f) hHeld ?_
      refine pu_ 6 52 (bm_ 15 0x7f) ?_
      refine pu_ 7 53 (bm_ 15 0xff) ?_
      refine pu_ 8 54 (bm_ 15 0x1ff) ?_
      refine tk_ 9 55 (bm_ 15 0x3ff) hHeld ?_
      refine pu_ 10 56 (bm_ 15 0x7ff) ?_
      refine pu_ 11 57 (bm_ 15 0xfff) ?_
      refine pu_ 12 58 (bm_ 15 0x1fff) ?_
      refine pu_ 13 59 (bm_ 15 0x3fff) ?_
      refine on_ 14 none (bm_ 15 0x7fff) fun K hK => ?_
      refine skip_ (by rfl) rfl (w1 := w3.setCell ⟨hb, k * 14 + 2 + p, none⟩ (.int .i64 (now + gr))) (by go_simp) ?_
      refine hK.out _ _ HS1.out (fun hHeld5 => ?_)
      clear hK K
      refine done_ (by kernel_rfl) ?_
      go_wp2
      go_roundg (19 - p)
      case measure => have := HK.out; omega
      case rel => exact ⟨p + 1, by go_num, Lib.hid ⟨by have := HK.out; omega, by omega, by omega, by omega⟩, HP1⟩
    · have HE : Hid (NetP bb w nb hb s.n qv (s.want (k : Int) l) (wr.setCell ⟨hb, k * 14 + 1, none⟩ (.int .i64 l))) := Lib.hid (want_end HA.out hk (by have := HK.out; rw [← HV.out.1]; omega) HV.out.2.2.2)
      clear HA h1 h2
      go_wp2
      go_ret
      exact ⟨_, rfl, rfl, HE.out⟩
end Go.Proofs.YtpfpdbbgiimnmaaDoor.Net
