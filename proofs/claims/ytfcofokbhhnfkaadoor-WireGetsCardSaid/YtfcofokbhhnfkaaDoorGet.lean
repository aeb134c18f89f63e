/- wire.Get by its contract. Conditions: bytes as they may be read. Printed by mkget2.py. -/
import Derived.Test.YtfcofokbhhnfkaaDoorGst
namespace Go.Proofs.YtfcofokbhhnfkaaDoor.Byt
set_option linter.unusedSimpArgs false
set_option linter.unusedVariables false
open Go.RowKit Go.Deep Go.Proofs.YtfcofokbhhnfkaaDoor.Er Go.Proofs.YtfcofokbhhnfkaaDoorW.PrintWords Go.Proofs.YtfcofokbhhnfkaaDoorW.PrintLast Go.Proofs.YtfcofokbhhnfkaaDoorW.PrintMore
def getN : ByteArray := ⟨#[119, 105, 114, 101, 46, 71, 101, 116]⟩
/-- What Get answers at the end: the packet, and the error's number. -/
def finG (bad : Bool) (p : Pk) : Pk × Int := if bad = true then (pk0, 2) else if whyP p = 0 then (p, 0) else (pk0, 2)
def dataG (k1 k2 k3 k4 : Int) (l : List Int) (b : Bool) : Pk × Int :=
  let f := nxtV l 1; let l1 := nxtL l 1; let b1 := nxtB l b 1
  let m := nxtV l1 2; let l2 := nxtL l1 2; let b2 := nxtB l1 b1 2
  let p := nxtV l2 2; let l3 := nxtL l2 2; let b3 := nxtB l2 b2 2
  let bl := nxtV l3 1; let l4 := nxtL l3 1; let b4 := nxtB l3 b3 1
  let e := nxtV l4 2; let l5 := nxtL l4 2; let b5 := nxtB l4 b4 2
  finG b5 { pk0 with kind := k1, sess := k2, layer := k3, tick := k4, burst := decide (128 ≤ f), sync := f % 128 - 1, many := m, place := p, block := bl, esi := e, data := l5 }
def annG (k1 k2 k3 k4 : Int) (l : List Int) (b : Bool) : Pk × Int :=
  let z := nxtV l 4; let l1 := nxtL l 4; let b1 := nxtB l b 4
  let s := nxtV l1 1; let l2 := nxtL l1 1; let b2 := nxtB l1 b1 1
  let bl := nxtV l2 1; let l3 := nxtL l2 1; let b3 := nxtB l2 b2 1
  let lo := nxtV l3 1; let l4 := nxtL l3 1; let b4 := nxtB l3 b3 1
  let sh := nxtV l4 1; let l5 := nxtL l4 1; let b5 := nxtB l4 b4 1
  let la := nxtV l5 1; let l6 := nxtL l5 1; let b6 := nxtB l5 b5 1
  let es := nxtV l6 2; let l7 := nxtL l6 2; let b7 := nxtB l6 b6 2
  let ba := nxtV l7 2; let l8 := nxtL l7 2; let b8 := nxtB l7 b7 2
  let le := nxtV l8 2; let l9 := nxtL l8 2; let b9 := nxtB l8 b8 2
  finG (b9 || decide (0 < l9.length)) { pk0 with kind := k1, sess := k2, layer := k3, tick := k4, size := z, sym := s, blocks := bl, long := lo, short := sh, layers := la, esis := es + 1, base := ba, len := le }
def bodyG (l : List Int) : Pk × Int :=
  let k1 := nxtV l 1; let l1 := nxtL l 1; let b1 := nxtB l false 1
  let k2 := nxtV l1 2; let l2 := nxtL l1 2; let b2 := nxtB l1 b1 2
  let k3 := nxtV l2 1; let l3 := nxtL l2 1; let b3 := nxtB l2 b2 1
  let k4 := nxtV l3 5; let l4 := nxtL l3 5; let b4 := nxtB l3 b3 5
  if k1 = 1 then dataG k1 k2 k3 k4 l4 b4 else if k1 = 2 then annG k1 k2 k3 k4 l4 b4 else (pk0, 2)
/-- The packet of bytes, and the error. -/
def getP (l : List Int) : Pk := if takeE l = 0 then (bodyG (takeL l)).1 else pk0
def getR (l : List Int) : Option Er := if takeE l = 0 then er getN (bodyG (takeL l)).2 else some ([getN, takeN], takeE l)
set_option maxHeartbeats 8000000 in
set_option maxRecDepth 100000 in
theorem Get_no {D : Nat → Prop} (w : World) (v : Value) (l : List Int) (hl : RdB D w v l) (hD : ∀ k, D k → k < w.heap.size) (h : ¬ takeE l = 0) :
    Calls Tryd.prog 14 #[v] w fun e w' => ∃ v' ev, e = .returned (.tuple #[pkV pk0 v', ev]) ∧ ErR w' ev (some ([getN, takeN], takeE l)) ∧ OB w.heap.size w' v' (pk0).data ∧ Below w.heap.size w w' := by
  have HR := Lib.hid hl
  have HD := Lib.hid hD
  obtain ⟨n, hn⟩ : ∃ n, n = takeE l := ⟨_, rfl⟩
  have HN := Lib.hid hn
  rw [← hn] at h ⊢
  have HE0 : Hid (er takeN n = some ([takeN], n)) := Lib.hid (if_neg h)
  clear hl hD hn h
  go_enter Tryd.func14, Tryd.ntmps14
  go_wp2_with (first
    | ((with_reducible refine gate_dst (N := 2) rfl ?_); refine wp_allocPk rfl rfl ?_; intro w1 hP hB hs; have HP := Lib.hid hP; have HB := Lib.hid (And.intro hB hs); clear hP hB hs)
    | (go_at_call 30
       refine (Take_calls (D := D) w1 v l (HR.out.keep (fun k hk => HB.out.1.block k (HD.out k hk))) (fun k hk => Nat.lt_of_lt_of_le (HD.out k hk) HB.out.1.size)).mono ?_
       rw [← HN.out, HE0.out]
       rintro e w2 ⟨bv, ev, rfl, h1, h2, h3⟩
       have HE := Lib.hid (And.intro h1 (HB.out.1.trans (h3.mono HB.out.1.size)))
       have HP2 := Lib.hid (HP.out.below h3)
       obtain ⟨a, rfl⟩ := ErR_ptr h1
       clear h1 h2 h3)
    | (go_at_call 24
       refine (fault_Wrap.calls getN _ (some ([takeN], n)) (some ([getN, takeN], n)) _ HE.out.1 rfl).mono ?_
       rintro e w3 ⟨ev, rfl, h1, h2⟩
       have HE3 := Lib.hid (And.intro h1 (And.intro (HE.out.2.trans (h2.mono HE.out.2.size)) (HP2.out.below h2)))
       clear h1 h2)
    | ((with_reducible refine gate_store (t := 26) (p := 2) rfl ?_)
       refine wp_stpk (p := pk0) (A := none) (L := 0) (c := 0) rfl rfl rfl rfl HE3.out.2.2 rfl ?_
       intro w4 hP hO
       have HE4 := Lib.hid (And.intro hP hO)
       clear hP hO))
  (try simp only [Exit.inBlock, Exit.then])
  refine bodyPost_ret (results_ct rfl _ _ w.heap.size _ _ _ _ rfl HE4.out.1 Tryd.underlying26 rfl (show (Tryd.prog.info? 26).map (·.size) = some 20 by kernel_rfl)) rfl ?_
  exact ⟨.slice none 0 0, _, rfl, ErR_only HE4.out.2 HE3.out.2.2 HE3.out.1, OB.nil _ _, HE4.out.2.below HE3.out.2.1 (Nat.le_refl _)⟩
end Go.Proofs.YtfcofokbhhnfkaaDoor.Byt
