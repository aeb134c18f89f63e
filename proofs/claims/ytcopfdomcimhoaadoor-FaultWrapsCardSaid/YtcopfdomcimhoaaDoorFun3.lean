/- Layer 1's errors for the printed texts: an error may be a bare number; the functions of package fault, and the laws' own is and made, by their contracts. -/
import Derived.Test.YtcopfdomcimhoaaDoorFun2
import Derived.Test.YtcopfdomcimhoaaDoorIs
namespace Go.Proofs.YtcopfdomcimhoaaDoor.ErP
open Go.RowKit Go.Extern.Stop Go.Stop Go.Extern Go.Proofs.YtcopfdomcimhoaaDoor.As Go.Proofs.YtcopfdomcimhoaaDoor.Flt Go.Proofs.YtcopfdomcimhoaaDoorW.PrintWords Go.Proofs.YtcopfdomcimhoaaDoorW.PrintLast Go.Proofs.YtcopfdomcimhoaaDoorW.PrintMore
set_option linter.unusedVariables false
abbrev Er := Go.Proofs.YtcopfdomcimhoaaDoor.Er.Er
def dEr : Er := Go.Proofs.YtcopfdomcimhoaaDoor.Er.dEr
abbrev NF := Go.Proofs.YtcopfdomcimhoaaDoor.Er.NF
theorem NF_blk {w : World} {g : Nat} {cs : Array Value} {t : TypeId} {fr : Nat × Nat} (h : w.heap[g]? = some (.cells cs t fr)) (ht : t ≠ 46) : NF w g := Go.Proofs.YtcopfdomcimhoaaDoor.Er.NF_blk h ht
theorem NF_set {w : World} {a : Addr} {x : Value} {g : Nat} (h : NF w g) : NF (w.setCell a x) g := Go.Proofs.YtcopfdomcimhoaaDoor.Er.NF_set h
theorem NF_drew {w : World} {g : Nat} (h : NF w g) : NF w.drew g := Go.Proofs.YtcopfdomcimhoaaDoor.Er.NF_drew h
theorem NF_drewN {w : World} {g m : Nat} (h : NF w g) : NF (w.drewN m) g := Go.Proofs.YtcopfdomcimhoaaDoor.Er.NF_drewN h
theorem NF_alloc {w : World} {g : Nat} {o : Obj} (h : NF w g) : NF (w.alloc o) g := Go.Proofs.YtcopfdomcimhoaaDoor.Er.NF_alloc h
def errW0 : Nat := 0
theorem errW_none : errW0 = 0 := rfl
theorem errW_some : errW0 = 0 := rfl
open Go.Proofs.YtcopfdomcimhoaaDoor.Er (ErC ErC_step ErC_set)
def ErR (w : World) (v : Value) (t : Option Er) : Prop := ErB w v t
theorem ErR_none (w : World) : ErR w .nilIface none := rfl
theorem ErR_nil {w : World} {v : Value} (h : ErR w v none) : v = .nilIface := h
theorem ErR_ptr {w : World} {v : Value} {x : Er} (h : ErR w v (some x)) : ∃ T y, v = .iface T y := ErC_form h
theorem ErR_step {w w' : World} {v : Value} {t : Option Er} (hb : ∀ k, k < w.heap.size → w'.heap[k]? = w.heap[k]?) (h : ErR w v t) : ErR w' v t := by
  cases t with
  | none => exact h
  | some x => exact ErC_step hb x.1 v x.2 h
theorem ErR_below {w w' : World} {v : Value} {t : Option Er} (hb : Below w.heap.size w w') (h : ErR w v t) : ErR w' v t := ErR_step hb.block h
theorem ErR_drew {w : World} {v : Value} {t : Option Er} (h : ErR w v t) : ErR w.drew v t := ErR_below (Below.refl _ _).drew h
theorem ErR_drewN {w : World} {v : Value} {t : Option Er} {m : Nat} (h : ErR w v t) : ErR (w.drewN m) v t := ErR_step (w := w) (w' := w.drewN m) (fun _ _ => rfl) h
theorem ErR_alloc {w : World} {v : Value} {t : Option Er} {o : Obj} (h : ErR w v t) : ErR (w.alloc o) v t := ErR_below ((Below.refl _ _).alloc (Nat.le_refl _) o) h
theorem ErR_set {w : World} {a : Addr} {x : Value} {v : Value} {t : Option Er} (hn : NF w a.block) (h : ErR w v t) : ErR (w.setCell a x) v t := by
  cases t with
  | none => exact h
  | some y => exact ErC_set hn y.1 v y.2 h
theorem ErR_to {w w' : World} {a : Addr} {x : Value} {v : Value} {t : Option Er} (hw : w' = w.setCell a x) (hn : NF w a.block) (h : ErR w v t) : ErR w' v t := by rw [hw]; exact ErR_set hn h

def fault_New.f (c : ByteArray) (n : Int) : Option (Option Er) := some (if n = 0 then none else some ([c], n))
theorem fault_New.calls (c : ByteArray) (n : Int) (r : Option Er) (w : World) (h : fault_New.f c n = some r) :
    Calls Tryd.prog 8 #[.string c, .int .i64 n] w fun e w' => ∃ ve : Value, e = .returned ve ∧ ErR w' ve r ∧ Below w.heap.size w w' :=
  (Go.Proofs.YtcopfdomcimhoaaDoor.Er.fault_New.calls c n r w h).mono fun _ _ ⟨ve, h1, h2, h3⟩ => ⟨ve, h1, ErB_of h2, h3⟩
def fault_Wrap.f (c : ByteArray) (t : Option Er) : Option (Option Er) := some (wrapE c t)
theorem fault_Wrap.calls (c : ByteArray) (v : Value) (t : Option Er) (r : Option Er) (w : World) (he : ErR w v t) (h : fault_Wrap.f c t = some r) :
    Calls Tryd.prog 11 #[.string c, v] w fun e w' => ∃ ve : Value, e = .returned ve ∧ ErR w' ve r ∧ Below w.heap.size w w' := by
  obtain rfl := Option.some.inj h
  exact wrap_calls c v t w he
def fault_Num.f (t : Option Er) : Option Int := some (numOf t)
theorem fault_Num.calls (v : Value) (t : Option Er) (r : Int) (w : World) (he : ErR w v t) (hG : Glob w) (h : fault_Num.f t = some r) :
    Calls Tryd.prog 17 #[v] w fun e w' => e = .returned (.int .i64 r) ∧ Below w.heap.size w w' := by
  obtain rfl := Option.some.inj h
  exact num_calls v t w he hG
def fault_Call.f (t : Option Er) : Option ByteArray := some (callOf t)
theorem fault_Call.calls (v : Value) (t : Option Er) (r : ByteArray) (w : World) (he : ErR w v t) (hG : Glob w) (h : fault_Call.f t = some r) :
    Calls Tryd.prog 18 #[v] w fun e w' => e = .returned (.string r) ∧ Below w.heap.size w w' := by
  obtain rfl := Option.some.inj h
  exact call_calls v t w he hG
def fault_Chain.f (t : Option Er) : Option (List ByteArray) := if (chainOf t).length < 8796093022208 then some (chainOf t) else none
theorem fault_Chain.calls (v : Value) (t : Option Er) (r : List ByteArray) (w : World) (he : ErR w v t) (hG : Glob w) (h : fault_Chain.f t = some r) :
    Calls Tryd.prog 15 #[v] w fun e w' => ∃ v0_ : Value, e = .returned v0_ ∧ Kd.R Kd.string 9 w' w.heap.size (fun _ => True) v0_ r ∧ Below w.heap.size w w' := by
  unfold fault_Chain.f at h
  split at h
  · rename_i hl
    obtain rfl := Option.some.inj h
    exact chain_calls v t w he hG hl
  · cases h
def fault_Is.f (t : Option Er) (n : Int) : Option Bool := some (isOf t n)
theorem fault_Is.calls (v : Value) (t : Option Er) (n : Int) (r : Bool) (w : World) (he : ErR w v t) (hG : Glob w) (h : fault_Is.f t n = some r) :
    Calls Tryd.prog 19 #[v, .int .i64 n] w fun e w' => e = .returned (.bool r) ∧ Below w.heap.size w w' := by
  obtain rfl := Option.some.inj h
  exact fIs_calls v t n w he
def isC (t : Option Er) (n : Int) (c : ByteArray) : Option Bool := match t with | none => none | some x => match x.1 with | [] => none | c0 :: _ => some ((x.2 == n) && (c0.toList == c.toList))
def is.f (t : Option Er) (n : Int) (c : ByteArray) : Option Bool := isC t n c
theorem is.calls (v : Value) (t : Option Er) (n : Int) (c : ByteArray) (r : Bool) (w : World) (he : ErR w v t) (hG : Glob w) (h : is.f t n c = some r) :
    Calls Tryd.prog 10 #[v, .int .i64 n, .string c] w fun e w' => e = .returned (.bool r) ∧ Below w.heap.size w w' := by
  cases t with
  | none => cases h
  | some x =>
    obtain ⟨cs, m⟩ := x
    cases cs with
    | nil => cases h
    | cons c0 cs =>
      obtain rfl := Option.some.inj h
      exact is_calls v c0 cs m n c w he hG
def made.f (n : Int) (l : List ByteArray) : Option (Option Er) := some (madeOf n l)
theorem made.calls (n : Int) (A : Option Addr) (c : Nat) (l : List ByteArray) (r : Option Er) (w : World) (hr : Kd.C Kd.string w A l.length l) (hc : l.length ≤ c) (h : made.f n l = some r) :
    Calls Tryd.prog 12 #[.int .i64 n, .slice A l.length c] w fun e w' => ∃ ve : Value, e = .returned ve ∧ ErR w' ve r ∧ Below w.heap.size w w' := by
  obtain rfl := Option.some.inj h
  exact made_calls n A c l w hr hc
end Go.Proofs.YtcopfdomcimhoaaDoor.ErP
