/- (*mnet.Net).Want, Level, Now, Tick, mnet.New, by their contracts. Conditions: a net; its numbers below 2^40. -/
import Derived.Test.YtpfpdbbgiimnmaaDoorHost
namespace Go.Proofs.YtpfpdbbgiimnmaaDoor.Net
set_option linter.unusedSimpArgs false
set_option linter.unusedVariables false
open Go.RowKit Go.Proofs.YtpfpdbbgiimnmaaDoor.Er Go.Proofs.YtpfpdbbgiimnmaaDoor.Mod Go.Proofs.YtpfpdbbgiimnmaaDoorW.PrintWords
set_option maxHeartbeats 2000000 in
theorem level_calls {bb : Nat → Prop} {w : World} {nb hb : Nat} {qv : Nat → Value} {s : Nt} (h : IsNet bb w nb hb qv s) (i : Int) :
    Calls Tryd.prog 27 #[.pointer (some ⟨nb, 0, none⟩), .int .i64 i] w fun e w' => e = .returned (.int .i64 (if s.at i = 0 then (s.h i.toNat).level else -1)) ∧ w' = w := by
  have HH := Lib.hid h
  by_cases ha : s.at i = 0
  rotate_left
  · rw [if_neg ha]
    have HI := Lib.hid (at_no ha).2
    clear ha h
    go_enter Tryd.func27, Tryd.ntmps27
    go_wp2_with (first | (go_at_call 30; refine (at_bad HH.out i HI.out).mono ?_; rintro e w1 ⟨rfl, rfl⟩))
    go_ret
    exact ⟨rfl, rfl⟩
  · rw [if_pos ha]
    obtain ⟨k, rfl, hk⟩ := at_of ha
    have t1 := h.cell hk 1 (by omega)
    simp only [hoCell] at t1
    rw [Int.toNat_natCast]
    clear ha h
    go_enter Tryd.func27, Tryd.ntmps27
    go_wp2_with (first | (go_at_call 30; refine (at_ok HH.out k hk).mono ?_; rintro e w1 ⟨rfl, rfl⟩))
    go_ret
    exact ⟨rfl, rfl⟩
theorem now_calls {bb : Nat → Prop} {w : World} {nb hb : Nat} {qv : Nat → Value} {s : Nt} (h : IsNet bb w nb hb qv s) :
    Calls Tryd.prog 28 #[.pointer (some ⟨nb, 0, none⟩)] w fun e w' => e = .returned (.int .i64 s.now) ∧ w' = w := by
  have n0 := h.now
  clear h
  go_enter Tryd.func28, Tryd.ntmps28
  go_wp2
  go_ret
  exact ⟨rfl, rfl⟩
/-- The hosts of which the number in this tick is nothing again. -/
def _root_.Go.Proofs.YtpfpdbbgiimnmaaDoor.Mod.Nt.tickTo (s : Nt) (k : Nat) : Nt := ⟨s.now + 1, s.n, fun i => if i < k then { s.h i with got := 0 } else s.h i⟩
theorem tickTo_n (s : Nt) : s.tickTo s.n = s.tick := rfl
theorem tickTo_put (s : Nt) (k : Nat) : s.tickTo (k + 1) = (s.tickTo k).put k { (s.tickTo k).h k with got := 0 } := by
  unfold Go.Proofs.YtpfpdbbgiimnmaaDoor.Mod.Nt.tickTo Nt.put
  congr 1
  funext i
  dsimp only
  by_cases e : i = k
  · subst e; rw [if_pos (by omega), if_pos rfl, if_neg (by omega)]
  · rw [if_neg e]
    by_cases e2 : i < k
    · rw [if_pos (by omega), if_pos e2]
    · rw [if_neg (by omega), if_neg e2]
theorem IsNet.tickNow {bb : Nat → Prop} {w : World} {nb hb : Nat} {qv : Nat → Value} {s : Nt} (h : IsNet bb w nb hb qv s) : IsNet bb (w.setCell ⟨nb, 0, none⟩ (.int .i64 (s.now + 1))) nb hb qv (s.tickTo 0) := by
  have hf : Fr w (w.setCell ⟨nb, 0, none⟩ (.int .i64 (s.now + 1))) (fun k => k = nb) := (Fr.refl w (fun k => k = nb)).set (a := ⟨nb, 0, none⟩) (.inl rfl) _
  have e : (s.tickTo 0).h = s.h := by funext i; simp [Go.Proofs.YtpfpdbbgiimnmaaDoor.Mod.Nt.tickTo]
  refine ⟨(h.net.set 0 _).congr (fun i hi => ?_), ?_, ?_, h.apart, h.n1, h.n16⟩
  · match i, hi with
    | 0, _ => rfl
    | 1, _ => rfl
  · refine (h.hos.of_block (hf.block hb h.hos.lt (fun e => h.nb_hb e.symm))).congr (fun i hi => ?_)
    unfold hosCell; rw [e]
  · intro i hi
    rw [e]
    exact (h.qs i hi).keep (fun b hb' => hf.block b (h.lt (.inr (.inr ⟨i, hi, hb'⟩))) (fun e => (h.nb_q hi).1 (by rw [hb', e]))) (fun b cur hbb hc => ⟨hf.block b (lt_of hc) (fun e => h.no_bytes (.inl e) cur hc), hbb⟩)
set_option maxHeartbeats 4000000 in
set_option maxRecDepth 100000 in
theorem tick_calls {bb : Nat → Prop} {w : World} {nb hb : Nat} {qv : Nat → Value} {s : Nt} (h : IsNet bb w nb hb qv s) (hN : 0 ≤ s.now ∧ s.now < 5000000000000) :
    Calls Tryd.prog 22 #[.pointer (some ⟨nb, 0, none⟩)] w fun e w' => e = .returned .nilIface ∧ NetP bb w nb hb s.n qv s.tick w' := by
  have n0 := h.now
  have n1 := h.hs
  have f0 := h.net.frozen 0
  have hn := h.n16
  have HP : Hid (NetP bb w nb hb s.n qv (s.tickTo 0) (w.setCell ⟨nb, 0, none⟩ (.int .i64 (s.now + 1)))) := Lib.hid ⟨bb, qv, h.tickNow, (Fr.refl _ _).set (.inl (.inl rfl)) _, fun _ e => .inl e, fun _ e => .inl e⟩
  have hlt := h.net.lt
  have hne := h.nb_hb
  obtain ⟨n, hns⟩ : ∃ n, n = s.n := ⟨_, rfl⟩
  rw [← hns] at n1 hn
  have HNS := Lib.hid hns
  obtain ⟨hN0, hN1⟩ := hN
  clear h hns
  go_enter Tryd.func22, Tryd.ntmps22
  go_wp2
  go_loopg [3, 19] (n + 1) (fun kq v3 v19 wr => ∃ k : Nat, v19 = .int .i64 k ∧ Hid (k ≤ n ∧ kq = n + 1 - k) ∧ Hid (NetP bb w nb hb s.n qv (s.tickTo k) wr))
  case atStart => exact ⟨0, rfl, Lib.hid ⟨by omega, by omega⟩, HP⟩
  case round =>
    obtain ⟨k, rfl, HK, HA⟩ := hrel
    clear HP n0 n1 f0
    by_cases hk : k < n
    · obtain ⟨bb', qv', h1, h2⟩ := HA.out
      have n1 := h1.hs
      have t12 := h1.cell (k := k) (by show k < s.n; rw [← HNS.out]; exact hk) 12 (by omega)
      have f12 := h1.hos.frozen (k * 14 + 12)
      rw [show (s.tickTo k).n = n from HNS.out.symm] at n1
      simp only [hoCell] at t12
      have HP : Hid (NetP bb w nb hb s.n qv (s.tickTo (k + 1)) (wr.setCell ⟨hb, k * 14 + 12, none⟩ (.int .i64 0))) := Lib.hid (NetP.put (s := s.tickTo k) HA.out rfl (by rw [← HNS.out]; exact hk) (by omega) { (s.tickTo k).h k with got := 0 } rfl (fun q => ho_ext _ _ _ _ _ _ (by omega) rfl rfl rfl rfl rfl rfl rfl) (tickTo_put s k))
      clear h1 h2 HA
      go_wp2
      go_roundg (n - k)
      case measure => have := HK.out; omega
      case rel => exact ⟨k + 1, by go_num, Lib.hid ⟨by omega, by omega⟩, HP⟩
    · have e : k = s.n := by have := HK.out.1; have := HNS.out; omega
      have HP : Hid (NetP bb w nb hb s.n qv s.tick wr) := Lib.hid (by have := HA.out; rw [e] at this; exact this)
      clear HA e
      go_wp2
      go_ret
      exact ⟨rfl, HP.out⟩
end Go.Proofs.YtpfpdbbgiimnmaaDoor.Net
