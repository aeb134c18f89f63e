/- A net of one host; geyserlaw22.one by its contract. Conditions: a level from 0 to 7. -/
import Derived.Test.YtpfpdbbgiimnmaaDoorAwake
namespace Go.Proofs.YtpfpdbbgiimnmaaDoor.Net
set_option linter.unusedSimpArgs false
set_option linter.unusedVariables false
open Go.RowKit Go.Deep Go.Proofs.YtpfpdbbgiimnmaaDoor.Er Go.Proofs.YtpfpdbbgiimnmaaDoor.Mod Go.Proofs.YtpfpdbbgiimnmaaDoorW.PrintWords
def N1 (now : Int) (x : Ho) : Nt := ⟨now, 1, fun j => if j = 0 then x else ho0⟩
theorem n1_h (now : Int) (x : Ho) : (N1 now x).h 0 = x := rfl
theorem n1_at (now : Int) (x : Ho) : (N1 now x).at 0 = 0 := rfl
theorem n1_put (now : Int) (x y : Ho) : (N1 now x).put 0 y = N1 now y := by
  unfold N1 Nt.put; congr 1; funext j; dsimp only; split <;> rfl
theorem n1_new : nt0 1 = N1 0 ho0 := by
  unfold N1 nt0; congr 1; funext j; split <;> rfl
theorem n1_send (now : Int) (x : Ho) (l : List Dg) : (N1 now x).send l = N1 now (x.send now l) := by
  unfold N1 Nt.send; congr 1; funext j; dsimp only
  by_cases e : j = 0
  · rw [if_pos (by omega), if_pos e, if_pos e]
  · rw [if_neg (by omega), if_neg e, if_neg e]
theorem n1_tick (now : Int) (x : Ho) : (N1 now x).tick = N1 (now + 1) { x with got := 0 } := by
  unfold N1 Nt.tick; congr 1; funext j; dsimp only
  by_cases e : j = 0
  · rw [if_pos (by omega), if_pos e, if_pos e]
  · rw [if_neg (by omega), if_neg e, if_neg e]
theorem n1_take (now : Int) (x : Ho) : (N1 now x).take 0 = N1 now { x with q := later now x.q } := by
  unfold Nt.take
  rw [if_pos (n1_at _ _)]
  exact n1_put _ _ _
theorem n1_taken (now : Int) (x : Ho) : (N1 now x).taken 0 = dueNow now x.q := if_pos (n1_at _ _)
theorem n1_want (now : Int) (x : Ho) (l : Int) (hx : x.there = true) (hl : -1 ≤ l ∧ l < 8) : (N1 now x).wantE 0 l = 0 ∧ (N1 now x).want 0 l = N1 now { x with fro := x.froTo (now + x.graft) (l + 1), level := l } := by
  have he : (N1 now x).wantE 0 l = 0 := by
    unfold Nt.wantE
    rw [if_pos (n1_at _ _)]
    show (if x.there = true then (if l < -1 ∨ 8 ≤ l then (1 : Int) else 0) else 7) = 0
    rw [if_pos hx, if_neg (by omega)]
  refine ⟨he, ?_⟩
  unfold Nt.want
  rw [if_pos he]
  exact n1_put _ _ _
theorem n1_graft (now : Int) (x : Ho) (t : Int) (ht : 0 ≤ t ∧ t ≤ 64) : (N1 now x).graftE 0 t = 0 ∧ (N1 now x).setGraft 0 t = N1 now { x with graft := t } := by
  have he : (N1 now x).graftE 0 t = 0 := by
    unfold Nt.graftE
    rw [if_pos (n1_at _ _), if_neg (by omega)]
  refine ⟨he, ?_⟩
  unfold Nt.setGraft
  rw [if_pos he]
  exact n1_put _ _ _
theorem n1_cap (now : Int) (x : Ho) (t : Int) (ht : -1 ≤ t ∧ t ≤ 4096) : (N1 now x).capE 0 t = 0 ∧ (N1 now x).setCap 0 t = N1 now { x with cap := t } := by
  have he : (N1 now x).capE 0 t = 0 := by
    unfold Nt.capE
    rw [if_pos (n1_at _ _), if_neg (by omega)]
  refine ⟨he, ?_⟩
  unfold Nt.setCap
  rw [if_pos he]
  exact n1_put _ _ _
theorem n1_wf {now : Int} {x : Ho} {L : Nat} (h0 : 0 ≤ now ∧ now + L < 5000000000000) (h1 : -1 ≤ x.level ∧ x.level < 8) (h2 : 0 ≤ x.graft ∧ x.graft ≤ 64) (h3 : 0 ≤ x.got ∧ x.got + L < 5000000000000) (h4 : x.q.length + L ≤ 5000000000000) : Wf (N1 now x) L := by
  have e : ∀ i, i < (N1 now x).n → (N1 now x).h i = x := fun i hi => if_pos (by have : i < 1 := hi; omega)
  exact ⟨fun i hi => by rw [e i hi]; exact h1, fun i hi => by rw [e i hi]; exact h2, h0, fun i hi => by rw [e i hi]; exact h3, fun i hi => by rw [e i hi]; exact h4⟩
/-- A host that is there, and wants layers up to lv. -/
def hoL (lv : Int) : Ho := ⟨true, lv, fun _ => 0, 0, -1, 0, []⟩
theorem one_e1 : (nt0 1).joinE 0 = 0 := by decide
theorem one_join : (nt0 1).join 0 = N1 0 { ho0 with there := true } := by
  rw [n1_new]; exact n1_put 0 ho0 _
theorem one_want (lv : Int) (hl : 0 ≤ lv ∧ lv < 8) : ((nt0 1).join 0).wantE 0 lv = 0 ∧ ((nt0 1).join 0).want 0 lv = N1 0 (hoL lv) := by
  rw [one_join]
  obtain ⟨h1, h2⟩ := n1_want 0 { ho0 with there := true } lv rfl ⟨by omega, hl.2⟩
  refine ⟨h1, h2.trans ?_⟩
  congr 1
  unfold hoL
  congr 1
  funext j
  unfold Ho.froTo
  split <;> rfl
set_option maxHeartbeats 2000000 in
theorem one_calls (w : World) (lv : Int) (hl : 0 ≤ lv ∧ lv < 8) : Calls Tryd.prog 6 #[.int .i64 lv] w fun e w' => ∃ nb hb, e = .returned (.pointer (some ⟨nb, 0, none⟩)) ∧ LN w nb hb (N1 0 (hoL lv)) w' := by
  have W0 := Lib.hid (Wf.new 1 100 (by decide))
  have W1 : Hid (Wf ((nt0 1).join 0) 100) := Lib.hid (W0.out.join (by decide) 0)
  have HE := Lib.hid (one_want lv hl)
  clear hl
  go_enter Tryd.func6, Tryd.ntmps6
  go_wp2_with (first
    | (go_at_call 12; refine (newL _ 1 (by decide)).mono ?_; rintro e w1 ⟨nb, hb, rfl, h⟩; have H1 := Lib.hid h; clear h)
    | (go_at_call 16; refine (joinL H1.out 0).mono ?_; rintro e w2 ⟨ev, rfl, he, h⟩; rw [er_zero _ one_e1] at he; obtain rfl := ErR_nil he; have H2 := Lib.hid h; clear h he)
    | (go_at_call 18; refine (wantL H2.out W1.out 0 lv).mono ?_; rintro e w3 ⟨ev, rfl, he, h⟩; rw [er_zero _ HE.out.1] at he; obtain rfl := ErR_nil he; rw [HE.out.2] at h; have H3 := Lib.hid h; clear h he))
  go_ret
  exact ⟨nb, hb, rfl, H3.out⟩
end Go.Proofs.YtpfpdbbgiimnmaaDoor.Net
