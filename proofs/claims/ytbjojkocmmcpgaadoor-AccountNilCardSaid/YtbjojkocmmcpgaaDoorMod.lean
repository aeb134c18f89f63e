/- AN ACCOUNT IN PLAIN LEAN: what its calls reckon. No memory in sight. Conditions: none. -/
namespace Go.Proofs.YtbjojkocmmcpgaaDoor.Mod

structure Lay where
  heard : Bool
  many : Int
  pl : List Int
structure Mk where
  full : Bool
  burst : Bool
  lost : Bool
  sync : Int
structure Acc where
  level : Int
  has : Bool
  tick : Int
  first : Bool
  burst : Bool
  sync : Int
  L : Nat → Lay
def lay0 : Lay := ⟨false, 0, []⟩
def acc0 : Acc := ⟨0, false, 0, false, false, 0, fun _ => lay0⟩
def Lay.lost (l : Lay) : Bool := l.heard && (l.many == 0 || decide ((l.pl.length : Int) < l.many))
/-- The mark behind so many layers. -/
def markUp (L : Nat → Lay) (m : Mk) : Nat → Mk
  | 0 => m
  | k + 1 => ⟨(markUp L m k).full && (L k).heard, m.burst, (markUp L m k).lost || (L k).lost, m.sync⟩
def Acc.mark0 (a : Acc) : Mk := if a.first then ⟨true, a.burst, false, a.sync⟩ else ⟨true, false, true, -1⟩
def Acc.mark (a : Acc) : Mk := markUp a.L a.mark0 (a.level + 1).toNat
/-- A layer of which nothing has come in this tick. -/
def Lay.bare (l : Lay) : Lay := ⟨l.heard, 0, []⟩
def Acc.bareUp (a : Acc) (n : Nat) : Acc := ⟨a.level, a.has, a.tick, a.first, a.burst, a.sync, fun i => if i < n then (a.L i).bare else a.L i⟩
def Acc.at (a : Acc) (t : Int) : Acc := ⟨a.level, true, t, false, a.burst, a.sync, a.L⟩
def Acc.begin (a : Acc) (t : Int) : Acc := ⟨a.level, true, t, false, a.burst, a.sync, fun i => (a.L i).bare⟩
/-- So many ticks more. -/
def Acc.goes (a : Acc) : Nat → Acc × List Mk
  | 0 => (a, [])
  | k + 1 => ((a.goes k).1.begin ((a.goes k).1.tick + 1), (a.goes k).2 ++ [(a.goes k).1.mark])
def Acc.from (a : Acc) (t : Int) : Acc := a.begin (max (a.tick + 1) (t - 64))
def Acc.close (a : Acc) (t : Int) : Acc × List Mk :=
  if a.has then (((a.from t).goes (t - (a.from t).tick).toNat).1, a.mark :: ((a.from t).goes (t - (a.from t).tick).toNat).2) else (a.begin t, [])
/-- The numbers of data. -/
structure Dat where
  layer : Nat
  tick : Int
  burst : Bool
  sync : Int
  many : Int
  place : Int
def Acc.told (a : Acc) (d : Dat) : Acc := if a.first then a else ⟨a.level, a.has, a.tick, true, d.burst, d.sync, a.L⟩
def Lay.put (l : Lay) (d : Dat) : Lay := ⟨true, if l.many = 0 then d.many else l.many, if d.place ∈ l.pl then l.pl else l.pl ++ [d.place]⟩
def Acc.put (a : Acc) (d : Dat) : Acc := ⟨a.level, a.has, a.tick, a.first, a.burst, a.sync, fun i => if i = d.layer then (a.L i).put d else a.L i⟩
def Acc.come (a : Acc) (d : Dat) : Acc × List Mk := if a.has = true ∧ a.tick = d.tick then (a, []) else a.close d.tick
def Acc.data (a : Acc) (d : Dat) : Acc := ((a.come d).1.told d).put d
def Acc.fresh (a : Acc) (d : Dat) : Bool := !decide (d.place ∈ ((a.come d).1.L d.layer).pl)
def Acc.setLevel (a : Acc) (l : Int) : Acc := ⟨l, a.has, a.tick, a.first, a.burst, a.sync, fun i => if l < i then lay0 else a.L i⟩
def Acc.setUp (a : Acc) (l : Int) (n : Nat) : Acc := ⟨l, a.has, a.tick, a.first, a.burst, a.sync, fun i => if l < i ∧ i < n then lay0 else a.L i⟩
/-- What every account is. -/
structure Acc.Ok (a : Acc) : Prop where
  lo : 0 ≤ a.level
  hi : a.level ≤ 7
  tlo : 0 ≤ a.tick
  thi : a.tick ≤ 1099511627775
end Go.Proofs.YtbjojkocmmcpgaaDoor.Mod
