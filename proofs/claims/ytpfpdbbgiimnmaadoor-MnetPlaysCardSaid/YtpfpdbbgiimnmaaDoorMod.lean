/- A NET IN PLAIN LEAN: what its calls reckon. No memory in sight. Conditions: none. -/
namespace Go.Proofs.YtpfpdbbgiimnmaaDoor.Mod

/-- A datagram in a queue. -/
structure It where
  b : List Int
  due : Int
  sp : Bool
structure Ho where
  there : Bool
  level : Int
  fro : Nat → Int
  graft : Int
  cap : Int
  got : Int
  q : List It
structure Nt where
  now : Int
  n : Nat
  h : Nat → Ho
def ho0 : Ho := ⟨false, -1, fun _ => 0, 0, -1, 0, []⟩
def nt0 (n : Nat) : Nt := ⟨0, n, fun _ => ho0⟩
def Nt.put (s : Nt) (i : Nat) (x : Ho) : Nt := ⟨s.now, s.n, fun j => if j = i then x else s.h j⟩
/-- Is there such a host? -/
def Nt.at (s : Nt) (i : Int) : Int := if i < 0 ∨ (s.n : Int) ≤ i then 1 else 0
def Nt.joinE (s : Nt) (i : Int) : Int := if s.at i = 0 then (if (s.h i.toNat).there = true then 7 else 0) else s.at i
def Nt.join (s : Nt) (i : Int) : Nt := if s.joinE i = 0 then s.put i.toNat { s.h i.toNat with there := true, level := -1, q := [] } else s
def Nt.leaveE (s : Nt) (i : Int) : Int := if s.at i = 0 then (if (s.h i.toNat).there = true then 0 else 7) else s.at i
def Nt.leave (s : Nt) (i : Int) : Nt := if s.leaveE i = 0 then s.put i.toNat { s.h i.toNat with there := false, level := -1, q := [] } else s
def Nt.wantE (s : Nt) (i l : Int) : Int := if s.at i = 0 then (if (s.h i.toNat).there = true then (if l < -1 ∨ 8 ≤ l then 1 else 0) else 7) else s.at i
def Ho.froTo (x : Ho) (t : Int) (k : Int) (j : Nat) : Int := if x.level < (j : Int) ∧ (j : Int) < k then t else x.fro j
def Nt.want (s : Nt) (i l : Int) : Nt := if s.wantE i l = 0 then s.put i.toNat { s.h i.toNat with fro := (s.h i.toNat).froTo (s.now + (s.h i.toNat).graft) (l + 1), level := l } else s
def Nt.graftE (s : Nt) (i t : Int) : Int := if s.at i = 0 then (if t < 0 ∨ 64 < t then 1 else 0) else s.at i
def Nt.setGraft (s : Nt) (i t : Int) : Nt := if s.graftE i t = 0 then s.put i.toNat { s.h i.toNat with graft := t } else s
def Nt.capE (s : Nt) (i t : Int) : Int := if s.at i = 0 then (if t < -1 ∨ 4096 < t then 1 else 0) else s.at i
def Nt.setCap (s : Nt) (i t : Int) : Nt := if s.capE i t = 0 then s.put i.toNat { s.h i.toNat with cap := t } else s
/-- Is it data? -/
def isData (b : List Int) : Bool := match b with | [] => false | x :: _ => x == 1
structure Dg where
  layer : Int
  b : List Int
def Ho.lets (x : Ho) (d : Dg) (now : Int) : Bool := x.there && decide (0 ≤ d.layer) && decide (d.layer ≤ x.level) && decide (x.fro d.layer.toNat ≤ now)
def Ho.full (x : Ho) : Bool := decide (0 ≤ x.cap) && decide (x.cap ≤ x.got)
/-- Does it get it? -/
def Ho.gets (x : Ho) (d : Dg) (now : Int) : Bool := x.lets d now && !(isData d.b && x.full)
def Ho.count (x : Ho) (d : Dg) (now : Int) : Ho := if x.gets d now && isData d.b then { x with got := x.got + 1 } else x
def Ho.send1 (now : Int) (x : Ho) (d : Dg) : Ho := if x.gets d now then { x.count d now with q := x.q ++ [⟨d.b, now, false⟩] } else x
def Ho.send (now : Int) (x : Ho) (l : List Dg) : Ho := l.foldl (Ho.send1 now) x
def Nt.sendTo (s : Nt) (l : List Dg) (k : Nat) : Nt := ⟨s.now, s.n, fun i => if i < k then (s.h i).send s.now l else s.h i⟩
def Nt.send (s : Nt) (l : List Dg) : Nt := ⟨s.now, s.n, fun i => if i < s.n then (s.h i).send s.now l else s.h i⟩
def Nt.tick (s : Nt) : Nt := ⟨s.now + 1, s.n, fun i => if i < s.n then { s.h i with got := 0 } else s.h i⟩
def dueNow (now : Int) (q : List It) : List (List Int) := (q.filter fun x => decide (x.due ≤ now)).map (·.b)
def later (now : Int) (q : List It) : List It := q.filter fun x => !decide (x.due ≤ now)
def Nt.take (s : Nt) (i : Int) : Nt := if s.at i = 0 then s.put i.toNat { s.h i.toNat with q := later s.now (s.h i.toNat).q } else s
def Nt.taken (s : Nt) (i : Int) : List (List Int) := if s.at i = 0 then dueNow s.now (s.h i.toNat).q else []
end Go.Proofs.YtpfpdbbgiimnmaaDoor.Mod
