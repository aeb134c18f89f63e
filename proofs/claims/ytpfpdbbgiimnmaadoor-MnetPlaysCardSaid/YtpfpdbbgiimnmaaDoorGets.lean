/- Datagrams as they lie anywhere; (*mnet.host).gets by its contract. Conditions: a host's level below 8, its number below 2^40. -/
import Derived.Test.YtpfpdbbgiimnmaaDoorWant
namespace Go.Proofs.YtpfpdbbgiimnmaaDoor.Net
set_option linter.unusedSimpArgs false
set_option linter.unusedVariables false
open Go.RowKit Go.Proofs.YtpfpdbbgiimnmaaDoor.Er Go.Proofs.YtpfpdbbgiimnmaaDoor.Mod Go.Proofs.YtpfpdbbgiimnmaaDoorW.PrintWords
/-- Bytes, wherever they lie in blocks of D. -/
def RdB (D : Nat → Prop) (w : World) (v : Value) (l : List Int) : Prop :=
  ∃ A c, v = .slice A l.length c ∧ l.length ≤ c ∧ l.length ≤ 140737488355328 ∧ (∀ x ∈ l, 0 ≤ x ∧ x < 256) ∧ (l ≠ [] → ∃ a : Addr, A = some a ∧ D a.block ∧ ∀ (j : Nat) (x : Int), l[j]? = some x → w.cell? (a.add j) = some (.int .u8 x))
theorem cell_blk {w w' : World} {a : Addr} (h : w'.heap[a.block]? = w.heap[a.block]?) : w'.cell? a = w.cell? a := World.cell?_of_block h
theorem add_block (a : Addr) (n : Nat) : (a.add n).block = a.block := by unfold Addr.add; split <;> rfl
theorem RdB.keep {D : Nat → Prop} {w w' : World} {v : Value} {l : List Int} (h : RdB D w v l) (hk : ∀ k, D k → w'.heap[k]? = w.heap[k]?) : RdB D w' v l := by
  obtain ⟨A, c, h1, h2, h3, h4, h5⟩ := h
  refine ⟨A, c, h1, h2, h3, h4, fun hne => ?_⟩
  obtain ⟨a, e, hD, hx⟩ := h5 hne
  exact ⟨a, e, hD, fun j x hj => (cell_blk (by rw [add_block]; exact hk _ hD)).trans (hx j x hj)⟩
theorem put_self (s : Nt) (k : Nat) : s.put k (s.h k) = s := by
  unfold Nt.put
  cases s
  congr 1
  funext i
  dsimp only
  by_cases e : i = k
  · rw [if_pos e, e]
  · rw [if_neg e]
theorem Ho.count_no (x : Ho) (d : Dg) (now : Int) (h : x.gets d now = false) : x.count d now = x := by unfold Ho.count; rw [h]; rfl
theorem Ho.count_plain (x : Ho) (d : Dg) (now : Int) (h : isData d.b = false) : x.count d now = x := by unfold Ho.count; rw [h, Bool.and_false]; rfl
def GetsP (bb : Nat → Prop) (w : World) (nb hb : Nat) (qv : Nat → Value) (s : Nt) (k : Nat) (d : Dg) (now : Int) (e : Ending) (w' : World) : Prop := e = .returned (.bool ((s.h k).gets d now)) ∧ NetP bb w nb hb s.n qv (s.put k ((s.h k).count d now)) w'
theorem gets_no {bb : Nat → Prop} {w w' : World} {nb hb : Nat} {qv : Nat → Value} {s : Nt} {k : Nat} {d : Dg} {now : Int} (h : IsNet bb w nb hb qv s) (hg : (s.h k).gets d now = false) (hb' : Below w.heap.size w w') : GetsP bb w nb hb qv s k d now (.returned (.bool false)) w' :=
  ⟨by rw [hg], by rw [Ho.count_no _ _ _ hg, put_self]; exact (NetP.refl h).below hb'⟩
theorem gets_plain {bb : Nat → Prop} {w w' : World} {nb hb : Nat} {qv : Nat → Value} {s : Nt} {k : Nat} {d : Dg} {now : Int} (h : IsNet bb w nb hb qv s) (hg : (s.h k).gets d now = true) (hd : isData d.b = false) (hb' : Below w.heap.size w w') : GetsP bb w nb hb qv s k d now (.returned (.bool true)) w' :=
  ⟨by rw [hg], by rw [Ho.count_plain _ _ _ hd, put_self]; exact (NetP.refl h).below hb'⟩
theorem gets_data {bb : Nat → Prop} {w w' : World} {nb hb : Nat} {qv : Nat → Value} {s : Nt} {k : Nat} {d : Dg} {now : Int} (h : IsNet bb w nb hb qv s) (hk : k < s.n) (hg : (s.h k).gets d now = true) (hd : isData d.b = true) (hb' : Below w.heap.size w w') : GetsP bb w nb hb qv s k d now (.returned (.bool true)) (w'.setCell ⟨hb, k * 14 + 12, none⟩ (.int .i64 ((s.h k).got + 1))) :=
  ⟨by rw [hg], ((NetP.refl h).below hb').put rfl hk (by omega) ((s.h k).count d now) (by unfold Ho.count; rw [hg, hd]; rfl) (fun q => by unfold Ho.count; rw [hg, hd]; exact ho_ext _ _ _ _ _ _ (by omega) rfl rfl rfl rfl rfl rfl rfl) rfl⟩
set_option maxHeartbeats 2000000 in
set_option maxRecDepth 100000 in
theorem gets_calls {bb : Nat → Prop} {w : World} {nb hb : Nat} {qv : Nat → Value} {s : Nt} {D : Nat → Prop} (h : IsNet bb w nb hb qv s) (k : Nat) (hk : k < s.n) (d : Dg) (bv : Value) (hd : RdB D w bv d.b) (now : Int) (hl : (s.h k).level < 8) (hg : 0 ≤ (s.h k).got ∧ (s.h k).got < 5000000000000) :
    Calls Tryd.prog 48 #[.pointer (some ⟨hb, k * 14, none⟩), .agg #[.int .i64 d.layer, bv], .int .i64 now] w (GetsP bb w nb hb qv s k d now) := by
  obtain ⟨A, c, rfl, hc1, hc2, hc3, hc4⟩ := hd
  have HH := Lib.hid h
  have HC := Lib.hid hc4
  have t0 := h.cell hk 0 (by omega)
  have t1 := h.cell hk 1 (by omega)
  have t11 := h.cell hk 11 (by omega)
  have t12 := h.cell hk 12 (by omega)
  have f12 := h.hos.frozen (k * 14 + 12)
  have hlt := h.hos.lt
  simp only [hoCell, Nat.add_zero] at t0 t1 t11 t12
  have HF : Hid (∀ L, L < 8 → w.cell? ⟨hb, k * 14 + 2 + L, none⟩ = some (.int .i64 ((s.h k).fro L))) := Lib.hid (fun L hL => by
    have := h.cell hk (2 + L) (by omega)
    rw [ho_fro _ _ _ hL] at this
    rw [Nat.add_assoc]; exact this)
  obtain ⟨x, hx⟩ : ∃ x, x = s.h k := ⟨_, rfl⟩
  rw [← hx] at t0 t1 t11 t12 hl hg HF
  have HX := Lib.hid hx
  clear h hc4 hx
  have BEL : ∀ n, Below w.heap.size w ((w.alloc (.cells #[.int .i64 d.layer, .slice A d.b.length c] 60)).drewN n) := fun n => pw_below_drewN ((Below.refl _ _).alloc (Nat.le_refl _) _) n
  have HB := Lib.hid BEL
  clear BEL
  obtain ⟨lay, hlay⟩ : ∃ lay, lay = d.layer := ⟨_, rfl⟩
  rw [← hlay] at HB ⊢
  have HLAY := Lib.hid hlay
  clear hlay
  cases hth : x.there
  · rw [hth] at t0
    have HG : Hid ((s.h k).gets d now = false) := Lib.hid (by rw [← HX.out]; unfold Ho.gets Ho.lets; rw [hth]; rfl)
    clear hth
    go_enter Tryd.func48, Tryd.ntmps48
    go_wp2
    go_quiet (fail)
    go_wp2
    go_ret
    exact gets_no HH.out HG.out (HB.out _)
  rw [hth] at t0
  by_cases hl0 : lay < 0
  · have HG : Hid ((s.h k).gets d now = false) := Lib.hid (by rw [← HX.out]; unfold Ho.gets Ho.lets; rw [← HLAY.out, decide_eq_false (by omega : ¬ 0 ≤ lay)]; simp)
    clear hth
    go_enter Tryd.func48, Tryd.ntmps48
    go_wp2
    go_quiet (fail)
    go_wp2
    go_ret
    exact gets_no HH.out HG.out (HB.out _)
  have d0 : decide (lay < 0) = false := decide_eq_false hl0
  by_cases hl1 : x.level < lay
  · have HG : Hid ((s.h k).gets d now = false) := Lib.hid (by rw [← HX.out]; unfold Ho.gets Ho.lets; rw [← HLAY.out, decide_eq_false (by omega : ¬ lay ≤ x.level)]; simp)
    clear hth
    go_enter Tryd.func48, Tryd.ntmps48
    go_wp2
    go_quiet (fail)
    go_wp2
    go_ret
    exact gets_no HH.out HG.out (HB.out _)
  have d1 : decide (x.level < lay) = false := decide_eq_false hl1
  obtain ⟨L, rfl⟩ : ∃ L : Nat, lay = (L : Int) := ⟨lay.toNat, by omega⟩
  have tL := HF.out L (by omega)
  have hL8 : L < 8 := by omega
  by_cases hfr : now < x.fro L
  · have HG : Hid ((s.h k).gets d now = false) := Lib.hid (by rw [← HX.out]; unfold Ho.gets Ho.lets; rw [← HLAY.out, Int.toNat_natCast, decide_eq_false (by omega : ¬ x.fro L ≤ now)]; simp)
    clear hth
    go_enter Tryd.func48, Tryd.ntmps48
    go_wp2
    go_quiet (fail)
    go_wp2
    go_ret
    exact gets_no HH.out HG.out (HB.out _)
  have d2 : decide (now < x.fro L) = false := decide_eq_false hfr
  have HLE : Hid (x.lets d now = true) := Lib.hid (by unfold Ho.lets; rw [← HLAY.out, Int.toNat_natCast, hth, decide_eq_true (by omega : (0 : Int) ≤ L), decide_eq_true (by omega : (L : Int) ≤ x.level), decide_eq_true (by omega : x.fro L ≤ now)]; rfl)
  have HPL : Hid (isData d.b = false → (s.h k).gets d now = true) := Lib.hid (fun e => by rw [← HX.out]; unfold Ho.gets; rw [HLE.out, e]; rfl)
  clear hth
  rcases hdb : d.b with _ | ⟨b0, bs⟩
  · have HD : Hid (isData d.b = false) := Lib.hid (by rw [hdb]; rfl)
    rw [hdb] at HB
    clear hdb
    dsimp only [List.length_nil] at HB ⊢
    go_enter Tryd.func48, Tryd.ntmps48
    go_wp2
    go_quiet (fail)
    go_wp2
    go_ret
    exact gets_plain HH.out (HPL.out HD.out) HD.out (HB.out _)
  have hsp := HC.out (by rw [hdb]; exact List.cons_ne_nil _ _)
  obtain ⟨⟨ab, ao, asp⟩, rfl, _, hcx⟩ := hsp
  have c0 := hcx 0 b0 (by rw [hdb]; rfl)
  obtain rfl : asp = none := by
    have : (⟨ab, ao, asp⟩ : Addr).add 0 = ⟨ab, ao, asp⟩ := rfl
    rw [this] at c0
    unfold World.cell? at c0
    cases asp
    · rfl
    · simp at c0; split at c0 <;> simp_all
  have c0' : w.cell? ⟨ab, ao, none⟩ = some (.int .u8 b0) := c0
  have hlen : d.b.length = bs.length + 1 := by rw [hdb]; rfl
  obtain ⟨m, hm⟩ : ∃ m, m = d.b.length := ⟨_, rfl⟩
  rw [← hdb, ← hm]
  rw [← hm] at HB hc1 hc2 hlen
  clear hm hcx c0
  have hm1 : (0 : Int) < (m : Int) := by omega
  clear hlen
  have hbl := World.block_lt_of_cell? w _ c0'
  by_cases hp : b0 = 1
  rotate_left
  · have HD : Hid (isData d.b = false) := Lib.hid (by rw [hdb]; show (b0 == 1) = false; simpa using hp)
    have d3 : (b0 == 1) = false := beq_eq_false_iff_ne.2 hp
    clear hdb
    go_enter Tryd.func48, Tryd.ntmps48
    go_wp2
    go_quiet (fail)
    go_wp2
    go_ret
    exact gets_plain HH.out (HPL.out HD.out) HD.out (HB.out _)
  subst hp
  have HD : Hid (isData d.b = true) := Lib.hid (by rw [hdb]; rfl)
  clear hdb
  by_cases hcap : x.cap < 0
  · have HG : Hid ((s.h k).gets d now = true) := Lib.hid (by rw [← HX.out]; unfold Ho.gets Ho.full; rw [HLE.out, HD.out, decide_eq_false (by omega : ¬ 0 ≤ x.cap)]; rfl)
    have d4 : decide (0 ≤ x.cap) = false := decide_eq_false (by omega)
    have HP : Hid (∀ n, GetsP bb w nb hb qv s k d now (.returned (.bool true)) ((((w.alloc (.cells #[.int .i64 L, .slice (some ⟨ab, ao, none⟩) m c] 60)).drewN n)).setCell ⟨hb, k * 14 + 12, none⟩ (.int .i64 (x.got + 1)))) := Lib.hid (fun n => by rw [HX.out]; exact gets_data HH.out hk HG.out HD.out (HB.out n))
    go_enter Tryd.func48, Tryd.ntmps48
    go_wp2
    go_quiet (fail)
    go_wp2
    go_quiet (fail)
    go_wp2
    go_ret
    exact HP.out _
  have d4 : decide (0 ≤ x.cap) = true := decide_eq_true (by omega)
  by_cases hfu : x.cap ≤ x.got
  · have HG : Hid ((s.h k).gets d now = false) := Lib.hid (by rw [← HX.out]; unfold Ho.gets Ho.full; rw [HLE.out, HD.out, d4, decide_eq_true hfu]; rfl)
    have d5 : decide (x.cap ≤ x.got) = true := decide_eq_true hfu
    go_enter Tryd.func48, Tryd.ntmps48
    go_wp2
    go_quiet (fail)
    go_wp2
    go_quiet (fail)
    go_wp2
    go_ret
    exact gets_no HH.out HG.out (pw_below_drewN (HB.out _) _)
  · have HG : Hid ((s.h k).gets d now = true) := Lib.hid (by rw [← HX.out]; unfold Ho.gets Ho.full; rw [HLE.out, HD.out, d4, decide_eq_false hfu]; rfl)
    have d5 : decide (x.cap ≤ x.got) = false := decide_eq_false hfu
    have HP : Hid (∀ n, GetsP bb w nb hb qv s k d now (.returned (.bool true)) ((((w.alloc (.cells #[.int .i64 L, .slice (some ⟨ab, ao, none⟩) m c] 60)).drewN n)).setCell ⟨hb, k * 14 + 12, none⟩ (.int .i64 (x.got + 1)))) := Lib.hid (fun n => by rw [HX.out]; exact gets_data HH.out hk HG.out HD.out (HB.out n))
    go_enter Tryd.func48, Tryd.ntmps48
    go_wp2
    go_quiet (fail)
    go_wp2
    go_quiet (fail)
    go_wp2
    go_ret
    exact HP.out _
end Go.Proofs.YtpfpdbbgiimnmaaDoor.Net
