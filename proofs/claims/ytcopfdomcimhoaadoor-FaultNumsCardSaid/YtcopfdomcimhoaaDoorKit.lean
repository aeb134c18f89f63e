/- SMALL PLAIN LAWS for the pure statements of this seat: how an answer that comes with enough rounds goes through binds, tests and rounds; numbers of Go's int. No program in sight. -/
import Derived.Test.YtcopfdomcimhoaaDoorWMore
import Derived.Test.YtcopfdomcimhoaaDoorWInvWords
import Derived.Laws.BitsAllLaws
import Derived.OpenShut
namespace Go.Proofs.YtcopfdomcimhoaaDoor.Kit
open Go.RowKit Go.Proofs.YtcopfdomcimhoaaDoorW.PrintWords Go.Proofs.YtcopfdomcimhoaaDoorW.PrintLast Go.Proofs.YtcopfdomcimhoaaDoorW.PrintMore

theorem bindE {α β : Type} {m : Option α} {f : α → Option β} {a : α} {r : Option β} (h1 : m = some a) (h2 : f a = r) : m.bind f = r := by subst h1; exact h2
theorem EvT {α : Type} {c : Prop} [Decidable c] {g h : Nat → Option α} {r : α} (hc : c) (e : Ev g r) : Ev (fun k => if c then g k else h k) r :=
  Ev.congr (fun _ => if_pos hc) e
theorem EvF {α : Type} {c : Prop} [Decidable c] {g h : Nat → Option α} {r : α} (hc : ¬ c) (e : Ev h r) : Ev (fun k => if c then g k else h k) r :=
  Ev.congr (fun _ => if_neg hc) e
theorem EvC {α β : Type} {m : Option α} {f : Nat → α → Option β} {a : α} {r : β} (h1 : m = some a) (e : Ev (fun k => f k a) r) : Ev (fun k => m.bind (f k)) r :=
  Ev.congr (fun _ => by rw [h1]; exact Option.bind_some _ _) e
theorem EvK {α : Type} {m : Option α} {r : α} (h : m = some r) : Ev (fun _ => m) r := ⟨0, fun _ _ => h⟩
theorem w64 {n : Int} (h : -9223372036854775808 ≤ n ∧ n ≤ 9223372036854775807) : wrap64 n = n := by unfold wrap64; omega
theorem u64w {n : Int} (h : 0 ≤ n ∧ n < 18446744073709551616) : IntKind.u64.wrap n = n := by rw [IntKind.wrap_u64]; omega
theorem utm (a m : Int) (h1 : 1 ≤ m) (h2 : m ≤ 9223372036854775807) : ∃ q, wrap64 (Int.tmod (IntKind.u64.wrap a) m) = q ∧ 0 ≤ q ∧ q < m := by
  rw [IntKind.wrap_u64, Int.tmod_eq_emod_of_nonneg (by omega)]
  have h3 := Int.emod_nonneg (a % 18446744073709551616) (b := m) (by omega)
  have h4 := Int.emod_lt_of_pos (a % 18446744073709551616) (b := m) (by omega)
  exact ⟨_, w64 ⟨by omega, by omega⟩, h3, h4⟩
theorem tmod_pos {a b : Int} (h : 0 ≤ a) : Int.tmod a b = a % b := Int.tmod_eq_emod_of_nonneg h
theorem tdiv_pos {a b : Int} (h : 0 ≤ a) : Int.tdiv a b = a / b := Int.tdiv_eq_ediv_of_nonneg h
/-- '<<' within int: no bit is lost. -/
theorem shl64 {x y : Int} (hy : y ≤ 64) (h0 : 0 ≤ x) (h : x * 2 ^ y.toNat ≤ 9223372036854775807) : shl .i64 x y = x * 2 ^ y.toNat := by
  unfold shl
  rw [show IntKind.i64.bits = 64 from rfl, Nat.min_eq_left (by omega), i64_w]
  have h1 : (0 : Int) ≤ x * 2 ^ y.toNat := Int.mul_nonneg h0 (Int.le_of_lt (Int.pow_pos (by omega)))
  exact w64 ⟨by omega, h⟩
end Go.Proofs.YtcopfdomcimhoaaDoor.Kit
