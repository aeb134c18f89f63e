/- ERRORS AS THEY LIE IN MEMORY: an error is nil, or a number with calls round it (each a Fault in a block of its own), read off the world; what stays of it when the world goes on; fault.New and fault.Wrap by their contracts. Conditions: none. -/
import Derived.Test.YtpfpdbbgiimnmaaDoorProg
import Derived.Below
import Derived.WalkKit
import Derived.WideLaws
import Derived.KernelRfl
import Derived.Deep.Draws
import Derived.Deep.OwnRows
import Derived.Lib.Hide
namespace Go.Proofs.YtpfpdbbgiimnmaaDoor.Er
open Go.RowKit

/-- What an error says: its calls, the outermost first, and its number. -/
abbrev Er := List ByteArray × Int
def dEr : Er := ([], 0)
def ErC (w : World) : List ByteArray → Value → Int → Prop
  | [], v, n => v = .iface 63 (.int .i64 n)
  | c :: cs, v, n => ∃ b inner, v = .iface 80 (.pointer (some ⟨b, 0, none⟩)) ∧ w.heap[b]? = some (.cells #[.string c, inner] 85 (0, 0)) ∧ ErC w cs inner n
def ErR (w : World) (v : Value) : Option Er → Prop
  | none => v = .nilIface
  | some x => x.1 ≠ [] ∧ ErC w x.1 v x.2
theorem heap_new (w : World) (o : Obj) : (w.alloc o).heap[w.heap.size]? = some o := by
  show (w.heap.push o)[w.heap.size]? = some o
  simp
theorem ErR_none (w : World) : ErR w .nilIface none := rfl
theorem ErR_nil {w : World} {v : Value} (h : ErR w v none) : v = .nilIface := h
theorem ErR_ptr {w : World} {v : Value} {x : Er} (h : ErR w v (some x)) : ∃ a : Addr, v = .iface 80 (.pointer (some a)) := by
  obtain ⟨cs, n⟩ := x
  obtain ⟨h1, h2⟩ := h
  cases cs with
  | nil => exact absurd rfl h1
  | cons c cs => obtain ⟨b, _, e, _⟩ := h2; exact ⟨_, e⟩
theorem ErC_step {w w' : World} (hb : ∀ k, k < w.heap.size → w'.heap[k]? = w.heap[k]?) : ∀ (cs : List ByteArray) (v : Value) (n : Int), ErC w cs v n → ErC w' cs v n
  | [], _, _, h => h
  | c :: cs, v, n, h => by
    obtain ⟨b, inner, e, hc, hr⟩ := h
    have hlt : b < w.heap.size := by
      rcases Nat.lt_or_ge b w.heap.size with h | h
      · exact h
      · rw [Array.getElem?_eq_none h] at hc; cases hc
    exact ⟨b, inner, e, (hb b hlt).trans hc, ErC_step hb cs inner n hr⟩
theorem ErR_step {w w' : World} {v : Value} {t : Option Er} (hb : ∀ k, k < w.heap.size → w'.heap[k]? = w.heap[k]?) (h : ErR w v t) : ErR w' v t := by
  cases t with
  | none => exact h
  | some x => exact ⟨h.1, ErC_step hb x.1 v x.2 h.2⟩
theorem ErR_below {w w' : World} {v : Value} {t : Option Er} (hb : Below w.heap.size w w') (h : ErR w v t) : ErR w' v t := ErR_step hb.block h
theorem ErR_drew {w : World} {v : Value} {t : Option Er} (h : ErR w v t) : ErR w.drew v t := ErR_below (Below.refl _ _).drew h
theorem ErR_drewN {w : World} {v : Value} {t : Option Er} {m : Nat} (h : ErR w v t) : ErR (w.drewN m) v t := ErR_step (w := w) (w' := w.drewN m) (fun _ _ => rfl) h
theorem ErR_alloc {w : World} {v : Value} {t : Option Er} {o : Obj} (h : ErR w v t) : ErR (w.alloc o) v t := ErR_below ((Below.refl _ _).alloc (Nat.le_refl _) o) h
/-- A block that is no error's. -/
def NF (w : World) (g : Nat) : Prop := ∃ cs t fr, w.heap[g]? = some (.cells cs t fr) ∧ t ≠ 85
theorem NF_blk {w : World} {g : Nat} {cs : Array Value} {t : TypeId} {fr : Nat × Nat} (h : w.heap[g]? = some (.cells cs t fr)) (ht : t ≠ 85) : NF w g := ⟨cs, t, fr, h, ht⟩
theorem NF_set {w : World} {a : Addr} {x : Value} {g : Nat} (h : NF w g) : NF (w.setCell a x) g := by
  obtain ⟨cs, t, fr, h1, h2⟩ := h
  by_cases e : g = a.block
  · subst e
    exact ⟨if a.spot.isSome = true then cs else cs.setIfInBounds a.off x, t, fr, by simp [World.setCell, Array.getElem?_modify, h1], h2⟩
  · exact ⟨cs, t, fr, (Deep.blk_setCell_other _ _ _ _ e).trans h1, h2⟩
theorem NF_step {w w' : World} {g : Nat} (hb : ∀ k, k < w.heap.size → w'.heap[k]? = w.heap[k]?) (h : NF w g) : NF w' g := by
  obtain ⟨cs, t, fr, h1, h2⟩ := h
  have hlt : g < w.heap.size := by
    rcases Nat.lt_or_ge g w.heap.size with h | h
    · exact h
    · rw [Array.getElem?_eq_none h] at h1; cases h1
  exact ⟨cs, t, fr, (hb g hlt).trans h1, h2⟩
theorem NF_drew {w : World} {g : Nat} (h : NF w g) : NF w.drew g := NF_step (Below.refl _ _).drew.block h
theorem NF_drewN {w : World} {g m : Nat} (h : NF w g) : NF (w.drewN m) g := NF_step (w := w) (w' := w.drewN m) (fun _ _ => rfl) h
theorem NF_alloc {w : World} {g : Nat} {o : Obj} (h : NF w g) : NF (w.alloc o) g := NF_step ((Below.refl _ _).alloc (Nat.le_refl _) o).block h
theorem ErC_set {w : World} {a : Addr} {x : Value} (hn : NF w a.block) : ∀ (cs : List ByteArray) (v : Value) (n : Int), ErC w cs v n → ErC (w.setCell a x) cs v n
  | [], _, _, h => h
  | c :: cs, v, n, h => by
    obtain ⟨b, inner, e, hc, hr⟩ := h
    have hne : b ≠ a.block := by
      intro e2
      subst e2
      obtain ⟨cs', t, fr, h1, h2⟩ := hn
      rw [hc] at h1
      cases h1
      exact h2 rfl
    exact ⟨b, inner, e, (Deep.blk_setCell_other _ _ _ _ hne).trans hc, ErC_set hn cs inner n hr⟩
theorem ErR_set {w : World} {a : Addr} {x : Value} {v : Value} {t : Option Er} (hn : NF w a.block) (h : ErR w v t) : ErR (w.setCell a x) v t := by
  cases t with
  | none => exact h
  | some y => exact ⟨h.1, ErC_set hn y.1 v y.2 h.2⟩
theorem ErR_to {w w' : World} {a : Addr} {x : Value} {v : Value} {t : Option Er} (hw : w' = w.setCell a x) (hn : NF w a.block) (h : ErR w v t) : ErR w' v t := by rw [hw]; exact ErR_set hn h
def errW0 : Nat := 0
theorem errW_none : errW0 = 0 := rfl
theorem errW_some : errW0 = 0 := rfl

/-! ### fault.New -/
def fault_New.f (c : ByteArray) (n : Int) : Option (Option Er) := some (if n = 0 then none else some ([c], n))
set_option maxHeartbeats 1000000 in
theorem fault_New.calls (c : ByteArray) (n : Int) (r : Option Er) (w : World) (h : fault_New.f c n = some r) :
    Calls Tryd.prog 31 #[.string c, .int .i64 n] w fun e w' => ∃ ve : Value, e = .returned ve ∧ ErR w' ve r ∧ Below w.heap.size w w' := by
  have hr := Option.some.inj h
  clear h
  by_cases hn : n = 0
  · rw [if_pos hn] at hr
    subst hr
    subst hn
    go_enter Tryd.func31, Tryd.ntmps31
    go_wp2
    go_ret
    exact ⟨_, rfl, rfl, Below.refl _ _⟩
  · rw [if_neg hn] at hr
    have h1 : (n == 0) = false := beq_eq_false_iff_ne.2 hn
    have hp : ErR (w.alloc (.cells #[.string c, .iface 63 (.int .i64 n)] 85)) (.iface 80 (.pointer (some ⟨w.heap.size, 0, none⟩))) r := by
      rw [← hr]
      exact ⟨by simp, _, _, rfl, heap_new _ _, rfl⟩
    have HP := Lib.hid hp
    clear hp hn hr
    go_enter Tryd.func31, Tryd.ntmps31
    go_wp2
    go_ret
    exact ⟨_, rfl, HP.out, (Below.refl _ _).alloc (Nat.le_refl _) _⟩

/-! ### fault.Wrap -/
def fault_Wrap.f (c : ByteArray) (t : Option Er) : Option (Option Er) := some (t.map fun x => (c :: x.1, x.2))
set_option maxHeartbeats 1000000 in
theorem fault_Wrap.calls (c : ByteArray) (v : Value) (t : Option Er) (r : Option Er) (w : World) (he : ErR w v t) (h : fault_Wrap.f c t = some r) :
    Calls Tryd.prog 34 #[.string c, v] w fun e w' => ∃ ve : Value, e = .returned ve ∧ ErR w' ve r ∧ Below w.heap.size w w' := by
  obtain rfl := Option.some.inj h
  clear h
  cases t with
  | none =>
    obtain rfl := ErR_nil he
    clear he
    go_enter Tryd.func34, Tryd.ntmps34
    go_wp2
    go_ret
    exact ⟨_, rfl, rfl, Below.refl _ _⟩
  | some x =>
    obtain ⟨a, rfl⟩ := ErR_ptr he
    have hp : ErR (w.alloc (.cells #[.string c, .iface 80 (.pointer (some a))] 85)) (.iface 80 (.pointer (some ⟨w.heap.size, 0, none⟩))) (some (c :: x.1, x.2)) :=
      ⟨by simp, _, _, rfl, heap_new _ _, ErC_step (Below.alloc (Below.refl w.heap.size w) (Nat.le_refl _) _).block x.1 _ x.2 he.2⟩
    have HP := Lib.hid hp
    clear hp he
    go_enter Tryd.func34, Tryd.ntmps34
    go_wp2
    go_ret
    exact ⟨_, rfl, HP.out, (Below.refl _ _).alloc (Nat.le_refl _) _⟩
end Go.Proofs.YtpfpdbbgiimnmaaDoor.Er
