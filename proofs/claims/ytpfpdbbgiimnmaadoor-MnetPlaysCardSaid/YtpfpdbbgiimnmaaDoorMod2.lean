/- MORE CALLS OF A NET, IN PLAIN LEAN: what is lost, doubled, delayed, spoilt, injected; queues. Conditions: none. -/
import Derived.Test.YtpfpdbbgiimnmaaDoorMod
namespace Go.Proofs.YtpfpdbbgiimnmaaDoor.Mod
/-- A datagram's place. -/
def Nt.placeE (s : Nt) (i k : Int) : Int := if s.at i = 0 then (if k < 0 ∨ ((s.h i.toNat).q.length : Int) ≤ k then 4 else 0) else s.at i
def Nt.queue (s : Nt) (i : Int) : List (List Int) := if s.at i = 0 then (s.h i.toNat).q.map (·.b) else []
def Nt.levelOf (s : Nt) (i : Int) : Int := if s.at i = 0 then (s.h i.toNat).level else -1
def Nt.drop (s : Nt) (i k : Int) : Nt := if s.placeE i k = 0 then s.put i.toNat { s.h i.toNat with q := (s.h i.toNat).q.take k.toNat ++ (s.h i.toNat).q.drop (k.toNat + 1) } else s
def Nt.double (s : Nt) (i k : Int) : Nt := if s.placeE i k = 0 then s.put i.toNat { s.h i.toNat with q := (s.h i.toNat).q.take (k.toNat + 1) ++ (s.h i.toNat).q.drop k.toNat } else s
def Nt.delayE (s : Nt) (i k t : Int) : Int := if s.placeE i k = 0 then (if t < 0 ∨ 64 < t then 1 else 0) else s.placeE i k
def It.late (x : It) (t : Int) : It := ⟨x.b, x.due + t, x.sp⟩
def Nt.delay (s : Nt) (i k t : Int) : Nt := if s.delayE i k t = 0 then s.put i.toNat { s.h i.toNat with q := (s.h i.toNat).q.modify k.toNat (·.late t) } else s
/-- Bit k of bytes is turned. -/
def turnI (l : List Int) (k : Nat) : List Int := l.set (k / 8) ((((l.getD (k / 8) 0).toNat ^^^ 2 ^ (k % 8) : Nat)) : Int)
def spoI (a m len : Nat) : Nat → Nat → List Int → Option (List Int)
  | 0, _, X => some X
  | d + 1, i, X => if m / 2 ^ i % 2 = 0 then spoI a m len d (i + 1) X else if 8 * len ≤ a + i then none else spoI a m len d (i + 1) (turnI X (a + i))
def spoilB (b : List Int) (a m : Int) : Option (List Int) := if a < 0 ∨ 8 * (b.length : Int) ≤ a ∨ m = 0 then none else spoI a.toNat m.toNat b.length 32 0 b
def itemAt (s : Nt) (i k : Int) : It := ((s.h i.toNat).q[k.toNat]?).getD ⟨[], 0, false⟩
def Nt.spoilE (s : Nt) (i k a m : Int) : Int := if s.placeE i k = 0 then (if (itemAt s i k).sp = true then 7 else if (spoilB (itemAt s i k).b a m).isSome = true then 0 else 2) else s.placeE i k
def Nt.spoil (s : Nt) (i k a m : Int) : Nt := if s.spoilE i k a m = 0 then s.put i.toNat { s.h i.toNat with q := (s.h i.toNat).q.modify k.toNat (fun x => ⟨(spoilB x.b a m).getD x.b, x.due, true⟩) } else s
def Nt.injectE (s : Nt) (i : Int) (b : List Int) : Int := if s.at i = 0 then (if (s.h i.toNat).there = true then (if 128 < b.length then 3 else 0) else 7) else s.at i
def Nt.inject (s : Nt) (i : Int) (b : List Int) : Nt := if s.injectE i b = 0 then s.put i.toNat { s.h i.toNat with q := (s.h i.toNat).q ++ [⟨b, s.now, false⟩] } else s
end Go.Proofs.YtpfpdbbgiimnmaaDoor.Mod
