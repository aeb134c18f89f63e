/- The calls of a host of (mnet.Net) that write its numbers, by their contracts; at a nil net, too. Conditions: a net. -/
import Derived.Test.YtpfpdbbgiimnmaaDoorAt
namespace Go.Proofs.YtpfpdbbgiimnmaaDoor.Net
set_option linter.unusedSimpArgs false
set_option linter.unusedVariables false
open Go.RowKit Go.Proofs.YtpfpdbbgiimnmaaDoor.Er Go.Proofs.YtpfpdbbgiimnmaaDoor.Mod Go.Proofs.YtpfpdbbgiimnmaaDoorW.PrintWords
def joinN : ByteArray := ⟨#[109, 110, 101, 116, 46, 74, 111, 105, 110]⟩
def leaveN : ByteArray := ⟨#[109, 110, 101, 116, 46, 76, 101, 97, 118, 101]⟩
def wantN : ByteArray := ⟨#[109, 110, 101, 116, 46, 87, 97, 110, 116]⟩
def graftN : ByteArray := ⟨#[109, 110, 101, 116, 46, 71, 114, 97, 102, 116]⟩
def capacityN : ByteArray := ⟨#[109, 110, 101, 116, 46, 67, 97, 112, 97, 99, 105, 116, 121]⟩
def sendN : ByteArray := ⟨#[109, 110, 101, 116, 46, 83, 101, 110, 100]⟩
def tickN : ByteArray := ⟨#[109, 110, 101, 116, 46, 84, 105, 99, 107]⟩
def dropN : ByteArray := ⟨#[109, 110, 101, 116, 46, 68, 114, 111, 112]⟩
def doubleN : ByteArray := ⟨#[109, 110, 101, 116, 46, 68, 111, 117, 98, 108, 101]⟩
def delayN : ByteArray := ⟨#[109, 110, 101, 116, 46, 68, 101, 108, 97, 121]⟩
def spoilN : ByteArray := ⟨#[109, 110, 101, 116, 46, 83, 112, 111, 105, 108]⟩
def injectN : ByteArray := ⟨#[109, 110, 101, 116, 46, 73, 110, 106, 101, 99, 116]⟩
def newN : ByteArray := ⟨#[109, 110, 101, 116, 46, 78, 101, 119]⟩
set_option maxHeartbeats 4000000 in
set_option maxRecDepth 100000 in
theorem join_calls {bb : Nat → Prop} {w : World} {nb hb : Nat} {qv : Nat → Value} {s : Nt} (h : IsNet bb w nb hb qv s) (i : Int) :
    Calls Tryd.prog 16 #[.pointer (some ⟨nb, 0, none⟩), .int .i64 i] w fun e w' => ∃ ev, e = .returned ev ∧ ErR w' ev (er joinN (s.joinE i)) ∧ NetP bb w nb hb s.n qv (s.join i) w' := by
  have HH := Lib.hid h
  by_cases ha : s.at i = 0
  rotate_left
  · obtain ⟨a1, a2⟩ := at_no ha
    have he : s.joinE i = 1 := (if_neg ha).trans a1
    have hp : s.join i = s := if_neg (by rw [he]; decide)
    rw [he, hp]
    have HI := Lib.hid a2
    clear ha a1 a2 he hp h
    go_enter Tryd.func16, Tryd.ntmps16
    go_wp2_with (first | (go_at_call 30; refine (at_bad HH.out i HI.out).mono ?_; rintro e w1 ⟨rfl, rfl⟩) | (go_at_call 31; refine (fault_New.calls _ 1 _ _ rfl).mono ?_; rintro e w2 ⟨ev, rfl, h1, h2⟩; have HE := Lib.hid (And.intro h1 h2); clear h1 h2))
    go_ret
    exact ⟨_, rfl, HE.out.1, (NetP.refl HH.out).below HE.out.2⟩
  obtain ⟨k, rfl, hk⟩ := at_of ha
  have hE : s.joinE (k : Int) = _ := if_pos ha
  have t0 := h.cell hk 0 (by omega)
  have t1 := h.cell hk 1 (by omega)
  have t10 := h.cell hk 10 (by omega)
  have t11 := h.cell hk 11 (by omega)
  have t13 := h.cell hk 13 (by omega)
  have f0 := h.hos.frozen (k * 14 + 0)
  have f1' := h.hos.frozen (k * 14 + 1)
  have f13' := h.hos.frozen (k * 14 + 13)
  simp only [hoCell, Nat.add_zero] at t0 t1 t10 t11 t13 f0
  try simp only [Int.toNat_natCast] at hE
  by_cases hb1 : (s.h k).there = true
  · have he : s.joinE (k : Int) = 7 := hE.trans (by simp [hb1])
    have hp : s.join (k : Int) = s := if_neg (by rw [he]; decide)
    rw [he, hp]
    try simp only [hb1] at t0
    clear ha he hp h hE
    go_enter Tryd.func16, Tryd.ntmps16
    go_wp2_with (first | (go_at_call 30; refine (at_ok HH.out k hk).mono ?_; rintro e w1 ⟨rfl, rfl⟩) | (go_at_call 31; refine (fault_New.calls _ 7 _ _ rfl).mono ?_; rintro e w2 ⟨ev, rfl, h1, h2⟩; have HE := Lib.hid (And.intro h1 h2); clear h1 h2))
    go_ret
    exact ⟨_, rfl, HE.out.1, (NetP.refl HH.out).below HE.out.2⟩
  try simp only [hb1] at t0
  have he : s.joinE (k : Int) = 0 := hE.trans (by simp [*])
  have HP : Hid (NetP bb w nb hb s.n qv (s.join (k : Int)) ((((w.setCell ⟨hb, k * 14, none⟩ (.bool true)).setCell ⟨hb, k * 14 + 1, none⟩ (.int .i64 (-1))).setCell ⟨hb, k * 14 + 13, none⟩ (.slice none 0 0)))) := Lib.hid (by
    rw [show s.join (k : Int) = _ from if_pos he]
    have a1 := (NetP.refl h).put (c := 0) (v := .bool true) rfl hk (by omega) { s.h k with there := true } rfl (fun q => ho_ext _ _ _ _ _ _ (by omega) rfl rfl rfl rfl rfl rfl rfl) rfl
    have a2 := a1.put (c := 1) (v := .int .i64 (-1)) rfl hk (by omega) { s.h k with there := true, level := -1 } (by rw [put_h]) (fun q => by rw [put_h]; exact ho_ext _ _ _ _ _ _ (by omega) rfl rfl rfl rfl rfl rfl rfl) rfl
    rw [put_put] at a2
    refine a2.putNil rfl hk ?_
    rw [put_put, put_h]
    rfl)
  rw [he]
  clear ha he h hE
  go_enter Tryd.func16, Tryd.ntmps16
  go_wp2_with (first | (go_at_call 30; refine (at_ok HH.out k hk).mono ?_; rintro e w1 ⟨rfl, rfl⟩) | (go_at_call 31; refine (fault_New.calls _ 0 _ _ rfl).mono ?_; rintro e w2 ⟨ev, rfl, h1, h2⟩; have HE := Lib.hid (And.intro h1 h2); clear h1 h2))
  go_ret
  exact ⟨_, rfl, HE.out.1, HP.out.below HE.out.2⟩
set_option maxHeartbeats 4000000 in
set_option maxRecDepth 100000 in
theorem leave_calls {bb : Nat → Prop} {w : World} {nb hb : Nat} {qv : Nat → Value} {s : Nt} (h : IsNet bb w nb hb qv s) (i : Int) :
    Calls Tryd.prog 17 #[.pointer (some ⟨nb, 0, none⟩), .int .i64 i] w fun e w' => ∃ ev, e = .returned ev ∧ ErR w' ev (er leaveN (s.leaveE i)) ∧ NetP bb w nb hb s.n qv (s.leave i) w' := by
  have HH := Lib.hid h
  by_cases ha : s.at i = 0
  rotate_left
  · obtain ⟨a1, a2⟩ := at_no ha
    have he : s.leaveE i = 1 := (if_neg ha).trans a1
    have hp : s.leave i = s := if_neg (by rw [he]; decide)
    rw [he, hp]
    have HI := Lib.hid a2
    clear ha a1 a2 he hp h
    go_enter Tryd.func17, Tryd.ntmps17
    go_wp2_with (first | (go_at_call 30; refine (at_bad HH.out i HI.out).mono ?_; rintro e w1 ⟨rfl, rfl⟩) | (go_at_call 31; refine (fault_New.calls _ 1 _ _ rfl).mono ?_; rintro e w2 ⟨ev, rfl, h1, h2⟩; have HE := Lib.hid (And.intro h1 h2); clear h1 h2))
    go_ret
    exact ⟨_, rfl, HE.out.1, (NetP.refl HH.out).below HE.out.2⟩
  obtain ⟨k, rfl, hk⟩ := at_of ha
  have hE : s.leaveE (k : Int) = _ := if_pos ha
  have t0 := h.cell hk 0 (by omega)
  have t1 := h.cell hk 1 (by omega)
  have t10 := h.cell hk 10 (by omega)
  have t11 := h.cell hk 11 (by omega)
  have t13 := h.cell hk 13 (by omega)
  have f0 := h.hos.frozen (k * 14 + 0)
  have f1' := h.hos.frozen (k * 14 + 1)
  have f13' := h.hos.frozen (k * 14 + 13)
  simp only [hoCell, Nat.add_zero] at t0 t1 t10 t11 t13 f0
  try simp only [Int.toNat_natCast] at hE
  by_cases hb1 : (s.h k).there = true
  rotate_left
  · have he : s.leaveE (k : Int) = 7 := hE.trans (by simp [hb1])
    have hp : s.leave (k : Int) = s := if_neg (by rw [he]; decide)
    rw [he, hp]
    try simp only [hb1] at t0
    clear ha he hp h hE
    go_enter Tryd.func17, Tryd.ntmps17
    go_wp2_with (first | (go_at_call 30; refine (at_ok HH.out k hk).mono ?_; rintro e w1 ⟨rfl, rfl⟩) | (go_at_call 31; refine (fault_New.calls _ 7 _ _ rfl).mono ?_; rintro e w2 ⟨ev, rfl, h1, h2⟩; have HE := Lib.hid (And.intro h1 h2); clear h1 h2))
    go_ret
    exact ⟨_, rfl, HE.out.1, (NetP.refl HH.out).below HE.out.2⟩
  try simp only [hb1] at t0
  have he : s.leaveE (k : Int) = 0 := hE.trans (by simp [*])
  have HP : Hid (NetP bb w nb hb s.n qv (s.leave (k : Int)) ((((w.setCell ⟨hb, k * 14, none⟩ (.bool false)).setCell ⟨hb, k * 14 + 1, none⟩ (.int .i64 (-1))).setCell ⟨hb, k * 14 + 13, none⟩ (.slice none 0 0)))) := Lib.hid (by
    rw [show s.leave (k : Int) = _ from if_pos he]
    have a1 := (NetP.refl h).put (c := 0) (v := .bool false) rfl hk (by omega) { s.h k with there := false } rfl (fun q => ho_ext _ _ _ _ _ _ (by omega) rfl rfl rfl rfl rfl rfl rfl) rfl
    have a2 := a1.put (c := 1) (v := .int .i64 (-1)) rfl hk (by omega) { s.h k with there := false, level := -1 } (by rw [put_h]) (fun q => by rw [put_h]; exact ho_ext _ _ _ _ _ _ (by omega) rfl rfl rfl rfl rfl rfl rfl) rfl
    rw [put_put] at a2
    refine a2.putNil rfl hk ?_
    rw [put_put, put_h]
    rfl)
  rw [he]
  clear ha he h hE
  go_enter Tryd.func17, Tryd.ntmps17
  go_wp2_with (first | (go_at_call 30; refine (at_ok HH.out k hk).mono ?_; rintro e w1 ⟨rfl, rfl⟩) | (go_at_call 31; refine (fault_New.calls _ 0 _ _ rfl).mono ?_; rintro e w2 ⟨ev, rfl, h1, h2⟩; have HE := Lib.hid (And.intro h1 h2); clear h1 h2))
  go_ret
  exact ⟨_, rfl, HE.out.1, HP.out.below HE.out.2⟩
set_option maxHeartbeats 4000000 in
set_option maxRecDepth 100000 in
theorem graft_calls {bb : Nat → Prop} {w : World} {nb hb : Nat} {qv : Nat → Value} {s : Nt} (h : IsNet bb w nb hb qv s) (i t : Int) :
    Calls Tryd.prog 19 #[.pointer (some ⟨nb, 0, none⟩), .int .i64 i, .int .i64 t] w fun e w' => ∃ ev, e = .returned ev ∧ ErR w' ev (er graftN (s.graftE i t)) ∧ NetP bb w nb hb s.n qv (s.setGraft i t) w' := by
  have HH := Lib.hid h
  by_cases ha : s.at i = 0
  rotate_left
  · obtain ⟨a1, a2⟩ := at_no ha
    have he : s.graftE i t = 1 := (if_neg ha).trans a1
    have hp : s.setGraft i t = s := if_neg (by rw [he]; decide)
    rw [he, hp]
    have HI := Lib.hid a2
    clear ha a1 a2 he hp h
    go_enter Tryd.func19, Tryd.ntmps19
    go_wp2_with (first | (go_at_call 30; refine (at_bad HH.out i HI.out).mono ?_; rintro e w1 ⟨rfl, rfl⟩) | (go_at_call 31; refine (fault_New.calls _ 1 _ _ rfl).mono ?_; rintro e w2 ⟨ev, rfl, h1, h2⟩; have HE := Lib.hid (And.intro h1 h2); clear h1 h2))
    go_ret
    exact ⟨_, rfl, HE.out.1, (NetP.refl HH.out).below HE.out.2⟩
  obtain ⟨k, rfl, hk⟩ := at_of ha
  have hE : s.graftE (k : Int) t = _ := if_pos ha
  have t0 := h.cell hk 0 (by omega)
  have t1 := h.cell hk 1 (by omega)
  have t10 := h.cell hk 10 (by omega)
  have t11 := h.cell hk 11 (by omega)
  have t13 := h.cell hk 13 (by omega)
  have f0 := h.hos.frozen (k * 14 + 0)
  have f10' := h.hos.frozen (k * 14 + 10)
  simp only [hoCell, Nat.add_zero] at t0 t1 t10 t11 t13 f0
  try simp only [Int.toNat_natCast] at hE
  by_cases hb1 : t < 0
  · have he : s.graftE (k : Int) t = 1 := hE.trans (by simp [hb1])
    have hp : s.setGraft (k : Int) t = s := if_neg (by rw [he]; decide)
    rw [he, hp]
    try simp only [hb1] at t0
    clear ha he hp h hE
    go_enter Tryd.func19, Tryd.ntmps19
    go_wp2_with (first | (go_at_call 30; refine (at_ok HH.out k hk).mono ?_; rintro e w1 ⟨rfl, rfl⟩) | (go_at_call 31; refine (fault_New.calls _ 1 _ _ rfl).mono ?_; rintro e w2 ⟨ev, rfl, h1, h2⟩; have HE := Lib.hid (And.intro h1 h2); clear h1 h2))
    go_ret
    exact ⟨_, rfl, HE.out.1, (NetP.refl HH.out).below HE.out.2⟩
  try simp only [hb1] at t0
  by_cases hb2 : 64 < t
  · have he : s.graftE (k : Int) t = 1 := hE.trans (by simp [hb2])
    have hp : s.setGraft (k : Int) t = s := if_neg (by rw [he]; decide)
    rw [he, hp]
    try simp only [hb2] at t0
    clear ha he hp h hE
    go_enter Tryd.func19, Tryd.ntmps19
    go_wp2_with (first | (go_at_call 30; refine (at_ok HH.out k hk).mono ?_; rintro e w1 ⟨rfl, rfl⟩) | (go_at_call 31; refine (fault_New.calls _ 1 _ _ rfl).mono ?_; rintro e w2 ⟨ev, rfl, h1, h2⟩; have HE := Lib.hid (And.intro h1 h2); clear h1 h2))
    go_ret
    exact ⟨_, rfl, HE.out.1, (NetP.refl HH.out).below HE.out.2⟩
  try simp only [hb2] at t0
  have he : s.graftE (k : Int) t = 0 := hE.trans (by simp [*])
  have HP : Hid (NetP bb w nb hb s.n qv (s.setGraft (k : Int) t) ((w.setCell ⟨hb, k * 14 + 10, none⟩ (.int .i64 t)))) := Lib.hid (by
    rw [show s.setGraft (k : Int) t = _ from if_pos he]
    exact (NetP.refl h).put (c := 10) (v := .int .i64 t) rfl hk (by omega) { s.h k with graft := t } rfl (fun q => ho_ext _ _ _ _ _ _ (by omega) rfl rfl rfl rfl rfl rfl rfl) rfl)
  rw [he]
  clear ha he h hE
  go_enter Tryd.func19, Tryd.ntmps19
  go_wp2_with (first | (go_at_call 30; refine (at_ok HH.out k hk).mono ?_; rintro e w1 ⟨rfl, rfl⟩) | (go_at_call 31; refine (fault_New.calls _ 0 _ _ rfl).mono ?_; rintro e w2 ⟨ev, rfl, h1, h2⟩; have HE := Lib.hid (And.intro h1 h2); clear h1 h2))
  go_ret
  exact ⟨_, rfl, HE.out.1, HP.out.below HE.out.2⟩
set_option maxHeartbeats 4000000 in
set_option maxRecDepth 100000 in
theorem capacity_calls {bb : Nat → Prop} {w : World} {nb hb : Nat} {qv : Nat → Value} {s : Nt} (h : IsNet bb w nb hb qv s) (i t : Int) :
    Calls Tryd.prog 20 #[.pointer (some ⟨nb, 0, none⟩), .int .i64 i, .int .i64 t] w fun e w' => ∃ ev, e = .returned ev ∧ ErR w' ev (er capacityN (s.capE i t)) ∧ NetP bb w nb hb s.n qv (s.setCap i t) w' := by
  have HH := Lib.hid h
  by_cases ha : s.at i = 0
  rotate_left
  · obtain ⟨a1, a2⟩ := at_no ha
    have he : s.capE i t = 1 := (if_neg ha).trans a1
    have hp : s.setCap i t = s := if_neg (by rw [he]; decide)
    rw [he, hp]
    have HI := Lib.hid a2
    clear ha a1 a2 he hp h
    go_enter Tryd.func20, Tryd.ntmps20
    go_wp2_with (first | (go_at_call 30; refine (at_bad HH.out i HI.out).mono ?_; rintro e w1 ⟨rfl, rfl⟩) | (go_at_call 31; refine (fault_New.calls _ 1 _ _ rfl).mono ?_; rintro e w2 ⟨ev, rfl, h1, h2⟩; have HE := Lib.hid (And.intro h1 h2); clear h1 h2))
    go_ret
    exact ⟨_, rfl, HE.out.1, (NetP.refl HH.out).below HE.out.2⟩
  obtain ⟨k, rfl, hk⟩ := at_of ha
  have hE : s.capE (k : Int) t = _ := if_pos ha
  have t0 := h.cell hk 0 (by omega)
  have t1 := h.cell hk 1 (by omega)
  have t10 := h.cell hk 10 (by omega)
  have t11 := h.cell hk 11 (by omega)
  have t13 := h.cell hk 13 (by omega)
  have f0 := h.hos.frozen (k * 14 + 0)
  have f11' := h.hos.frozen (k * 14 + 11)
  simp only [hoCell, Nat.add_zero] at t0 t1 t10 t11 t13 f0
  try simp only [Int.toNat_natCast] at hE
  by_cases hb1 : t < -1
  · have he : s.capE (k : Int) t = 1 := hE.trans (by simp [hb1])
    have hp : s.setCap (k : Int) t = s := if_neg (by rw [he]; decide)
    rw [he, hp]
    try simp only [hb1] at t0
    clear ha he hp h hE
    go_enter Tryd.func20, Tryd.ntmps20
    go_wp2_with (first | (go_at_call 30; refine (at_ok HH.out k hk).mono ?_; rintro e w1 ⟨rfl, rfl⟩) | (go_at_call 31; refine (fault_New.calls _ 1 _ _ rfl).mono ?_; rintro e w2 ⟨ev, rfl, h1, h2⟩; have HE := Lib.hid (And.intro h1 h2); clear h1 h2))
    go_ret
    exact ⟨_, rfl, HE.out.1, (NetP.refl HH.out).below HE.out.2⟩
  try simp only [hb1] at t0
  by_cases hb2 : 4096 < t
  · have he : s.capE (k : Int) t = 1 := hE.trans (by simp [hb2])
    have hp : s.setCap (k : Int) t = s := if_neg (by rw [he]; decide)
    rw [he, hp]
    try simp only [hb2] at t0
    clear ha he hp h hE
    go_enter Tryd.func20, Tryd.ntmps20
    go_wp2_with (first | (go_at_call 30; refine (at_ok HH.out k hk).mono ?_; rintro e w1 ⟨rfl, rfl⟩) | (go_at_call 31; refine (fault_New.calls _ 1 _ _ rfl).mono ?_; rintro e w2 ⟨ev, rfl, h1, h2⟩; have HE := Lib.hid (And.intro h1 h2); clear h1 h2))
    go_ret
    exact ⟨_, rfl, HE.out.1, (NetP.refl HH.out).below HE.out.2⟩
  try simp only [hb2] at t0
  have he : s.capE (k : Int) t = 0 := hE.trans (by simp [*])
  have HP : Hid (NetP bb w nb hb s.n qv (s.setCap (k : Int) t) ((w.setCell ⟨hb, k * 14 + 11, none⟩ (.int .i64 t)))) := Lib.hid (by
    rw [show s.setCap (k : Int) t = _ from if_pos he]
    exact (NetP.refl h).put (c := 11) (v := .int .i64 t) rfl hk (by omega) { s.h k with cap := t } rfl (fun q => ho_ext _ _ _ _ _ _ (by omega) rfl rfl rfl rfl rfl rfl rfl) rfl)
  rw [he]
  clear ha he h hE
  go_enter Tryd.func20, Tryd.ntmps20
  go_wp2_with (first | (go_at_call 30; refine (at_ok HH.out k hk).mono ?_; rintro e w1 ⟨rfl, rfl⟩) | (go_at_call 31; refine (fault_New.calls _ 0 _ _ rfl).mono ?_; rintro e w2 ⟨ev, rfl, h1, h2⟩; have HE := Lib.hid (And.intro h1 h2); clear h1 h2))
  go_ret
  exact ⟨_, rfl, HE.out.1, HP.out.below HE.out.2⟩
end Go.Proofs.YtpfpdbbgiimnmaaDoor.Net
