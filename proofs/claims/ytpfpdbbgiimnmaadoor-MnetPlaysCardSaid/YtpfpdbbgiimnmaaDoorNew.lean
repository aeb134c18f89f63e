/- mnet.New by its contract. Conditions: from 1 to 16. -/
import Derived.Test.YtpfpdbbgiimnmaaDoorPg
import Derived.Test.YtpfpdbbgiimnmaaDoorTake
namespace Go.Proofs.YtpfpdbbgiimnmaaDoor.Net
set_option linter.unusedSimpArgs false
set_option linter.unusedVariables false
open Go.RowKit Go.Deep Go.Proofs.YtpfpdbbgiimnmaaDoor.Er Go.Proofs.YtpfpdbbgiimnmaaDoor.Mod Go.Proofs.YtpfpdbbgiimnmaaDoorW.PrintWords Go.Proofs.YtpfpdbbgiimnmaaDoorW.PrintLast
theorem infoH : (Tryd.prog.info? 69).map (fun i => (i.zero.map (·.cells), i.size, i.bytes)) = some (some #[.bool false, .int .i64 0, .int .i64 0, .int .i64 0, .int .i64 0, .int .i64 0, .int .i64 0, .int .i64 0, .int .i64 0, .int .i64 0, .int .i64 0, .int .i64 0, .int .i64 0, .slice none 0 0], 14, 128) := by kernel_rfl
/-- A host ahead of its level and capacity. -/
def hoz : Ho := ⟨false, 0, fun _ => 0, 0, 0, 0, []⟩
def zc : Array Value := #[.bool false, .int .i64 0, .int .i64 0, .int .i64 0, .int .i64 0, .int .i64 0, .int .i64 0, .int .i64 0, .int .i64 0, .int .i64 0, .int .i64 0, .int .i64 0, .int .i64 0, .slice none 0 0]
def newAt (n k : Nat) : Nt := ⟨0, n, fun i => if i < k then ho0 else hoz⟩
theorem run_hosts (w : World) (n : Nat) (hn : n ≤ 16) : (Instr.makeSlice 70 (.int .i64 (n : Int)) (.int .i64 (n : Int))).run Tryd.prog w = .ok (.slice (some ⟨w.heap.size, 0, none⟩) n n) (w.alloc (.cells (madeCells zc (n * 14)) 69)) := by
  have h := infoH
  cases hi : Tryd.prog.info? 69 with
  | none => rw [hi] at h; cases h
  | some i =>
    rw [hi] at h
    simp only [Option.map_some, Option.some.injEq, Prod.mk.injEq] at h
    obtain ⟨h0, h1, h2⟩ := h
    cases hz : i.zero with
    | none => rw [hz] at h0; cases h0
    | some z =>
      rw [hz] at h0
      have hzc : z.cells = zc := Option.some.inj h0
      have hr := run_make (P := Tryd.prog) w 70 69 i z Tryd.underlying70 hi hz .i64 .i64 (n : Int) (n : Int) (by omega) (Int.le_refl _) (by rw [h2]; omega) (by omega)
      rw [hzc, h1, Int.toNat_natCast] at hr
      exact hr
theorem zc_at : ∀ d, d < 14 → zc[d]? = some (hoCell (.slice none 0 0) hoz d) := fourteen rfl rfl (fun j h2 h3 => by
    obtain ⟨i, rfl⟩ : ∃ i, j = 2 + i := ⟨j - 2, by omega⟩
    rw [ho_fro _ _ _ (by omega)]
    match i, h3 with
    | 0, _ => rfl
    | 1, _ => rfl
    | 2, _ => rfl
    | 3, _ => rfl
    | 4, _ => rfl
    | 5, _ => rfl
    | 6, _ => rfl
    | 7, _ => rfl
    | i + 8, h => exact absurd h (by omega)) rfl rfl rfl rfl
theorem IsNet.new (w : World) (n : Nat) (hn : 1 ≤ n ∧ n ≤ 16) : IsNet (fun _ => False) ((w.alloc (.cells (madeCells zc (n * 14)) 69)).alloc (.cells #[.int .i64 0, .slice (some ⟨w.heap.size, 0, none⟩) n n] 72)) (w.heap.size + 1) w.heap.size (fun _ => .slice none 0 0) (newAt n 0) := by
  refine ⟨?_, ?_, fun i hi => QIs.nil _ _, fun i j k _ _ e => (by cases e), hn.1, hn.2⟩
  · have := World.rowIs_alloc (w.alloc (.cells (madeCells zc (n * 14)) 69)) #[.int .i64 0, .slice (some ⟨w.heap.size, 0, none⟩) n n] 72 (ntCell w.heap.size (newAt n 0)) (fun i hi => by
      match i, hi with
      | 0, _ => rfl
      | 1, _ => rfl
      | i + 2, h => exact absurd h (by simp))
    simpa using this
  · have := World.rowIs_alloc w (madeCells zc (n * 14)) 69 (hosCell (fun _ => .slice none 0 0) (newAt n 0)) (fun i hi => by
      have hi' : i < n * 14 := by simpa [madeCells] using hi
      have hz := zc_at (i % 14) (Nat.mod_lt _ (by omega))
      obtain ⟨hlt, hz2⟩ := Array.getElem?_eq_some_iff.1 hz
      have e : (madeCells zc (n * 14))[i]? = some (zc[i % 14]!) := by simp [madeCells, hi', show zc.size = 14 from rfl]
      rw [e, getElem!_pos zc _ hlt, hz2]
      unfold hosCell newAt
      simp)
    have hs : (madeCells zc (n * 14)).size = n * 14 := by simp [madeCells]
    rw [hs] at this
    exact this.alloc _
theorem newAt_step {bb : Nat → Prop} {w : World} {nb hb n k : Nat} (h : IsNet bb w nb hb (fun _ => .slice none 0 0) (newAt n k)) (hk : k < n) : IsNet bb ((w.setCell ⟨hb, k * 14 + 1, none⟩ (.int .i64 (-1))).setCell ⟨hb, k * 14 + 11, none⟩ (.int .i64 (-1))) nb hb (fun _ => .slice none 0 0) (newAt n (k + 1)) := by
  have e0 : (newAt n k).h k = hoz := if_neg (Nat.lt_irrefl _)
  have h1 := h.putAll (k := k) (x' := { hoz with level := -1 }) (v := .int .i64 (-1)) (c := 1) hk (Fr.refl _ _) (bb' := bb) (fun _ e _ => e) (QIs.nil bb w) (fun b e => by cases e) (by omega) (by rw [e0]; exact ho_ext _ _ _ _ _ _ (by omega) rfl rfl rfl rfl rfl rfl rfl)
  have h2 := h1.putAll (k := k) (x' := ho0) (v := .int .i64 (-1)) (c := 11) hk (Fr.refl _ _) (bb' := bb) (fun _ e _ => e) (QIs.nil bb _) (fun b e => by cases e) (by omega) (by rw [put_h]; unfold upq; rw [if_pos rfl]; exact ho_ext _ _ _ _ _ _ (by omega) rfl rfl rfl rfl rfl rfl rfl)
  rw [put_put] at h2
  have e1 : (newAt n k).put k ho0 = newAt n (k + 1) := by
    unfold newAt Nt.put
    congr 1
    funext i
    dsimp only
    by_cases e : i = k
    · rw [if_pos e, if_pos (by omega)]
    · rw [if_neg e]
      by_cases e2 : i < k
      · rw [if_pos e2, if_pos (by omega)]
      · rw [if_neg e2, if_neg (by omega)]
  have e2 : upq (upq (fun _ => Value.slice none 0 0) k (.slice none 0 0)) k (.slice none 0 0) = fun _ => .slice none 0 0 := by
    funext i; unfold upq; split <;> (try split) <;> rfl
  rw [e1, e2] at h2
  exact h2
set_option maxHeartbeats 2000000 in
set_option maxRecDepth 100000 in
theorem new_calls (w : World) (n : Nat) (hn : 1 ≤ n ∧ n ≤ 16) :
    Calls Tryd.prog 12 #[.int .i64 (n : Int)] w fun e w' => ∃ nb hb bb qv, e = .returned (.tuple #[.pointer (some ⟨nb, 0, none⟩), .nilIface]) ∧ IsNet bb w' nb hb qv (nt0 n) ∧ Below w.heap.size w w' ∧ ∀ k, NB nb hb n qv k ∨ bb k → w.heap.size ≤ k := by
  obtain ⟨hn1, hn2⟩ := hn
  have hmk := run_hosts w n hn2
  have d1 : decide ((n : Int) < 1) = false := decide_eq_false (by omega)
  have d2 : decide ((16 : Int) < (n : Int)) = false := decide_eq_false (by omega)
  obtain ⟨hb, hhb⟩ : ∃ hb, hb = w.heap.size := ⟨_, rfl⟩
  have HB := Lib.hid hhb
  have HN0 : Hid (∀ w1, w1 = (w.alloc (.cells (madeCells zc (n * 14)) 69)).alloc (.cells #[.int .i64 0, .slice (some ⟨w.heap.size, 0, none⟩) n n] 72) → IsNet (fun _ => False) w1 (hb + 1) hb (fun _ => .slice none 0 0) (newAt n 0) ∧ Below w.heap.size w w1) := Lib.hid (by
    rintro w1 rfl
    rw [hhb]
    exact ⟨IsNet.new w n ⟨hn1, hn2⟩, ((Below.refl _ _).alloc (Nat.le_refl _) _).alloc (by simp) _⟩)
  go_enter Tryd.func12, Tryd.ntmps12
  go_upto_block 0 with (fail)
  go_wp2
  rw [← hhb]
  generalize hw1 : (w.alloc (.cells (madeCells zc (n * 14)) 69)).alloc (.cells #[.int .i64 0, .slice (some ⟨hb, 0, none⟩) n n] 72) = w1
  have HI0 := Lib.hid (HN0.out w1 (by rw [← hhb, hw1]))
  clear hw1 HN0 hmk hhb d1 d2
  go_loopg [5, 22] (n + 1) (fun kq v5 v22 wr => ∃ k : Nat, v22 = .int .i64 k ∧ Hid (k ≤ n ∧ kq = n + 1 - k) ∧ Hid (IsNet (fun _ => False) wr (hb + 1) hb (fun _ => .slice none 0 0) (newAt n k) ∧ Below w.heap.size w wr))
  case atStart => exact ⟨0, rfl, Lib.hid ⟨by omega, by omega⟩, HI0⟩
  case round =>
    clear HI0
    obtain ⟨k, rfl, HK, HA⟩ := hrel
    by_cases hk : k < n
    · have y1 : wr.cell? ⟨hb + 1, 1, none⟩ = some (.slice (some ⟨hb, 0, none⟩) n n) := HA.out.1.hs
      have hN1 := newAt_step HA.out.1 hk
      have hltb := HA.out.1.hos.lt
      go_upto_region 7 with (fail)
      refine start_ (n := 16) (S := fun w' => w'.cell? ⟨hb + 1, 1, none⟩ = some (.slice (some ⟨hb, 0, none⟩) n n) ∧ True) (ds := []) #[false, false, false, false, false, false, false, false, false, false, false, false, false, false, false, false] (by kernel_rfl) rfl rfl ⟨y1, trivial⟩ (fun hHeld => ?_)
      have HNX := Lib.hid (newAt_step HA.out.1.drew hk)
      have HBX : Hid (Below w.heap.size w ((wr.drew.setCell ⟨hb, k * 14 + 1, none⟩ (.int .i64 (-1))).setCell ⟨hb, k * 14 + 11, none⟩ (.int .i64 (-1)))) := Lib.hid ((HA.out.2.drew.setCell (by rw [HB.out]; exact Nat.le_refl _) _).setCell (by rw [HB.out]; exact Nat.le_refl _) _)
      have hc := HA.out.1.drew.cell hk 1 (by omega)
      have hf := HA.out.1.drew.hos.frozen (k * 14 + 1)
      have hc2 : (wr.drew.setCell ⟨hb, k * 14 + 1, none⟩ (.int .i64 (-1))).cell? ⟨hb, k * 14 + 11, none⟩ = _ := (HA.out.1.drew.hos.set (k * 14 + 1) (.int .i64 (-1))).cell (i := k * 14 + 11) (by show k * 14 + 11 < n * 14; omega)
      have hf2 := (HA.out.1.drew.hos.set (k * 14 + 1) (.int .i64 (-1))).frozen (k * 14 + 11)
      have HS1 : Hid ((wr.drew.setCell ⟨hb, k * 14 + 1, none⟩ (.int .i64 (-1))).cell? ⟨hb + 1, 1, none⟩ = some (.slice (some ⟨hb, 0, none⟩) n n)) := Lib.hid ((HA.out.1.drew.net.setOther (by simp) _).cell (i := 1) (by omega))
      have HS2 : Hid (((wr.drew.setCell ⟨hb, k * 14 + 1, none⟩ (.int .i64 (-1))).setCell ⟨hb, k * 14 + 11, none⟩ (.int .i64 (-1))).cell? ⟨hb + 1, 1, none⟩ = some (.slice (some ⟨hb, 0, none⟩) n n)) := Lib.hid (((HA.out.1.drew.net.setOther (by simp) _).setOther (by simp) _).cell (i := 1) (by omega))
      clear HA y1 hN1
      generalize wr.drew = w3 at *
      refine pu_ 0 25 (bm_ 16 0x1) ?_
      refine pu_ 1 26 (bm_ 16 0x3) ?_
      refine pu_ 2 27 (bm_ 16 0x7) ?_
      refine tk_ 3 28 (bm_ 16 0xf) hHeld ?_
      refine pu_ 4 29 (bm_ 16 0x1f) ?_
      refine pu_ 5 30 (bm_ 16 0x3f) ?_
      refine pu_ 6 31 (bm_ 16 0x7f) ?_
      refine pu_ 7 32 (bm_ 16 0xff) ?_
      refine tk_ 8 33 (bm_ 16 0x1ff) hHeld ?_
      refine pu_ 9 34 (bm_ 16 0x3ff) ?_
      refine pu_ 10 35 (bm_ 16 0x7ff) ?_
      refine pu_ 11 36 (bm_ 16 0xfff) ?_
      refine on_ 12 none (bm_ 16 0x1fff) fun K hK => ?_
      refine skip_ (by rfl) rfl (w1 := w3.setCell ⟨hb, k * 14 + 1, none⟩ (.int .i64 (-1))) (by go_simp) ?_
      refine hK.out _ _ ⟨HS1.out, trivial⟩ (fun hHeld5 => ?_)
      clear hK K
      refine pu_ 13 37 (bm_ 16 0x3fff) ?_
      refine pu_ 14 38 (bm_ 16 0x7fff) ?_
      refine on_ 15 none (bm_ 16 0xffff) fun K hK => ?_
      refine skip_ (by rfl) rfl (w1 := (w3.setCell ⟨hb, k * 14 + 1, none⟩ (.int .i64 (-1))).setCell ⟨hb, k * 14 + 11, none⟩ (.int .i64 (-1))) (by go_simp) ?_
      refine hK.out _ _ ⟨HS2.out, trivial⟩ (fun hHeld6 => ?_)
      clear hK K
      refine done_ (by kernel_rfl) ?_
      go_wp2
      go_roundg (n - k)
      case measure => have := HK.out; omega
      case rel => exact ⟨k + 1, by go_num, Lib.hid ⟨by omega, by omega⟩, Lib.hid ⟨HNX.out, HBX.out⟩⟩
    · have e : k = n := by have := HK.out.1; omega
      subst e
      have HF := Lib.hid (show newAt k k = nt0 k ∨ True from .inr trivial)
      have HR : Hid (∀ k', NB (hb + 1) hb k (fun _ => Value.slice none 0 0) k' ∨ False → w.heap.size ≤ k') := Lib.hid (by
        rintro k' ((e | e | ⟨_, _, e⟩) | e)
        · rw [e, HB.out]; omega
        · rw [e, HB.out]; exact Nat.le_refl _
        · cases e
        · cases e)
      have HIN : Hid (IsNet (fun _ => False) wr (hb + 1) hb (fun _ => .slice none 0 0) (nt0 k)) := Lib.hid (by
        have h := HA.out.1
        exact ⟨h.net, h.hos.congr (fun i hi => by
          unfold hosCell newAt nt0
          have hi' : i < k * 14 := hi
          have : i / 14 < k := by omega
          simp [this]), fun i hi => by
            have := h.qs i hi
            exact QIs.nil _ _, h.apart, h.n1, h.n16⟩)
      go_wp2
      go_ret2
      exact ⟨_, _, _, _, rfl, HIN.out, HA.out.2, HR.out⟩
end Go.Proofs.YtpfpdbbgiimnmaaDoor.Net
