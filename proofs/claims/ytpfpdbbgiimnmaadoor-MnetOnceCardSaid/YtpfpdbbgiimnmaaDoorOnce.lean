/- geyserlaw22.MnetOnce: it answers true. Conditions: errors.errorType holds the handle of the type error. -/
import Derived.Test.YtpfpdbbgiimnmaaDoorActs
import Derived.Test.YtpfpdbbgiimnmaaDoorOne
import Derived.Test.YtpfpdbbgiimnmaaDoorTells22
namespace Go.Proofs.YtpfpdbbgiimnmaaDoor.Net
set_option linter.unusedSimpArgs false
set_option linter.unusedVariables false
open Go.RowKit Go.Deep Go.Proofs.YtpfpdbbgiimnmaaDoor.Er Go.Proofs.YtpfpdbbgiimnmaaDoor.As Go.Proofs.YtpfpdbbgiimnmaaDoor.Mod Go.Proofs.YtpfpdbbgiimnmaaDoorW.PrintWords
theorem injectL {W : World} {nb hb : Nat} {s : Nt} {w : World} {L : Nat} (h : LN W nb hb s w) (hs : Wg s (L + 1)) (i : Int) (v : Value) (l : List Int) (hl : RdB (fun k => k < W.heap.size) W v l) : Calls Tryd.prog 8 #[.pointer (some ⟨nb, 0, none⟩), .int .i64 i, v] w fun e w' => ∃ ev, e = .returned ev ∧ ErR w' ev (er injectN (s.injectE i l)) ∧ LN W nb hb (s.inject i l) w' := by
  obtain ⟨bb, qv, h1, h2, h3⟩ := h
  exact (inject_calls h1 i v l (hl.keep (fun k hk => h2.block k hk)) (fun k hk => Nat.lt_of_lt_of_le hk h2.size) (fun k hk => by have := hs.wf.q k hk; omega)).mono fun e w' ⟨ev, e1, e2, e3⟩ => ⟨ev, e1, e2, LN.step h1 h2 h3 e3 (inject_n _ _ _)⟩
theorem doubleL {W : World} {nb hb : Nat} {s : Nt} {w : World} {L : Nat} (h : LN W nb hb s w) (hs : Wg s (L + 1)) (i j : Int) : Calls Tryd.prog 9 #[.pointer (some ⟨nb, 0, none⟩), .int .i64 i, .int .i64 j] w fun e w' => ∃ ev, e = .returned ev ∧ ErR w' ev (er doubleN (s.placeE i j)) ∧ LN W nb hb (s.double i j) w' := by
  obtain ⟨bb, qv, h1, h2, h3⟩ := h
  exact (double_calls h1 i j (fun k hk => by have := hs.wf.q k hk; omega)).mono fun e w' ⟨ev, e1, e2, e3⟩ => ⟨ev, e1, e2, LN.step h1 h2 h3 e3 (double_n _ _ _)⟩
theorem spoilL {W : World} {nb hb : Nat} {s : Nt} {w : World} (h : LN W nb hb s w) (i j a m : Int) (ha : -9223372036854775808 ≤ a ∧ a ≤ 9223372036854775807) (hm : 0 ≤ m ∧ m < 4294967296) : Calls Tryd.prog 10 #[.pointer (some ⟨nb, 0, none⟩), .int .i64 i, .int .i64 j, .int .i64 a, .int .u32 m] w fun e w' => ∃ ev, e = .returned ev ∧ ErR w' ev (spoilR s i j a m) ∧ LN W nb hb (s.spoil i j a m) w' := by
  obtain ⟨bb, qv, h1, h2, h3⟩ := h
  exact (spoil_calls h1 i j a m ha hm).mono fun e w' ⟨ev, e1, e2, e3⟩ => ⟨ev, e1, e2, LN.step h1 h2 h3 e3 (spoil_n _ _ _ _ _)⟩
/-- A host of one layer, and its queue. -/
def hoQ (q : List It) : Ho := ⟨true, 0, fun _ => 0, 0, -1, 0, q⟩
theorem oq_put (q q' : List It) : (N1 0 (hoQ q)).put (Int.toNat 0) { (N1 0 (hoQ q)).h (Int.toNat 0) with q := q' } = N1 0 (hoQ q') := n1_put 0 (hoQ q) (hoQ q')
theorem oq_inject (q : List It) (b : List Int) (hb : b.length ≤ 128) : (N1 0 (hoQ q)).injectE 0 b = 0 ∧ (N1 0 (hoQ q)).inject 0 b = N1 0 (hoQ (q ++ [⟨b, 0, false⟩])) := by
  have he : (N1 0 (hoQ q)).injectE 0 b = 0 := by
    unfold Nt.injectE
    rw [if_pos (n1_at _ _)]
    show (if true = true then (if 128 < b.length then (3 : Int) else 0) else 7) = 0
    rw [if_pos rfl, if_neg (by omega)]
  refine ⟨he, ?_⟩
  unfold Nt.inject
  rw [if_pos he]
  exact oq_put q _
theorem oq_place (q : List It) (k : Nat) (hk : k < q.length) : (N1 0 (hoQ q)).placeE 0 (k : Int) = 0 := by
  unfold Nt.placeE
  rw [if_pos (n1_at _ _)]
  exact if_neg (by show ¬ ((k : Int) < 0 ∨ (q.length : Int) ≤ (k : Int)); omega)
theorem oq_double (q : List It) (k : Nat) (hk : k < q.length) : (N1 0 (hoQ q)).double 0 (k : Int) = N1 0 (hoQ (q.take (k + 1) ++ q.drop k)) := by
  unfold Nt.double
  rw [if_pos (oq_place q k hk)]
  exact oq_put q _
theorem oq_spoilE (q : List It) (k : Nat) (x : It) (hx : q[k]? = some x) (a m : Int) : (N1 0 (hoQ q)).spoilE 0 (k : Int) a m = if x.sp = true then 7 else if (spoilB x.b a m).isSome = true then 0 else 2 := by
  unfold Nt.spoilE
  have hi : itemAt (N1 0 (hoQ q)) 0 (k : Int) = x := itemAt_of (k := 0) hx
  rw [if_pos (oq_place q k (List.getElem?_eq_some_iff.1 hx).1), hi]
theorem oq_spoil (q : List It) (k : Nat) (x : It) (hx : q[k]? = some x) (a m : Int) (hs : x.sp = false) (Y : List Int) (hY : spoilB x.b a m = some Y) : spoilR (N1 0 (hoQ q)) 0 (k : Int) a m = none ∧ (N1 0 (hoQ q)).spoil 0 (k : Int) a m = N1 0 (hoQ (q.set k ⟨Y, x.due, true⟩)) := by
  have he : (N1 0 (hoQ q)).spoilE 0 (k : Int) a m = 0 := by rw [oq_spoilE q k x hx, hs, hY]; rfl
  constructor
  · unfold spoilR; rw [he]; rfl
  · unfold Nt.spoil
    rw [if_pos he]
    refine (oq_put q _).trans ?_
    congr 2
    rw [Int.toNat_natCast]
    refine (spoil_q (N1 0 (hoQ q)) 0 k _ x hx).trans ?_
    rw [hY]; rfl
theorem oq_no (q : List It) (k : Nat) (x : It) (hx : q[k]? = some x) (a m : Int) (hs : x.sp = false) (hY : spoilB x.b a m = none) : spoilR (N1 0 (hoQ q)) 0 (k : Int) a m = some ([spoilN, chkSpoilN], 2) := by
  have he : (N1 0 (hoQ q)).spoilE 0 (k : Int) a m = 2 := by rw [oq_spoilE q k x hx, hs, hY]; rfl
  unfold spoilR; rw [he]; rfl
theorem oq_spoilt (q : List It) (k : Nat) (x : It) (hx : q[k]? = some x) (a m : Int) (hs : x.sp = true) : spoilR (N1 0 (hoQ q)) 0 (k : Int) a m = some ([spoilN], 7) ∧ (N1 0 (hoQ q)).spoil 0 (k : Int) a m = N1 0 (hoQ q) := by
  have he : (N1 0 (hoQ q)).spoilE 0 (k : Int) a m = 7 := by rw [oq_spoilE q k x hx, hs]; rfl
  constructor
  · unfold spoilR; rw [he]; rfl
  · exact if_neg (by rw [he]; decide)
theorem spoI_one (at_ n : Nat) : ∀ (d i : Nat) (X : List Int), 1 ≤ i → i + d ≤ 32 → spoI at_ 1 n d i X = some X
  | 0, i, X, _, _ => rfl
  | d + 1, i, X, h1, h2 => by
    have h : 1 / 2 ^ i % 2 = 0 := by
      have h2i : 2 ≤ 2 ^ i := by
        have := Nat.pow_le_pow_right (n := 2) (by omega) h1
        simpa using this
      rw [Nat.div_eq_of_lt (by omega)]
    unfold spoI
    rw [if_pos h]
    exact spoI_one at_ n d (i + 1) X (by omega) (by omega)
theorem spoilB_one (b : List Int) (a : Int) (h0 : 0 ≤ a) (h1 : a < 8 * (b.length : Int)) : spoilB b a 1 = some (turnI b a.toNat) := by
  unfold spoilB
  rw [if_neg (by omega)]
  show spoI a.toNat 1 b.length 32 0 b = _
  unfold spoI
  rw [if_neg (by decide), if_neg (by omega)]
  exact spoI_one _ _ 31 1 _ (by decide) (by decide)
theorem spoilB_zero (b : List Int) (a : Int) : spoilB b a 0 = none := if_pos (.inr (.inr rfl))
theorem oq_wg (q : List It) (hq : q.length ≤ 10) (hd : ∀ x ∈ q, x.due = 0) : Wg (N1 0 (hoQ q)) 10 := by
  refine ⟨n1_wf (by decide) (show (-1 : Int) ≤ 0 ∧ (0 : Int) < 8 by decide) (show (0 : Int) ≤ 0 ∧ (0 : Int) ≤ 64 by decide) (show (0 : Int) ≤ 0 ∧ (0 : Int) + _ < _ by decide) (show q.length + 10 * 100 ≤ 5000000000000 by omega), fun k hk x hx => ?_⟩
  have hk0 : k = 0 := by have : k < 1 := hk; omega
  subst hk0
  rw [hd x hx]; decide
theorem tells_er (c : ByteArray) (n : Int) (h : n ≠ 0) : Tells.tells.f (some ([c], n)) n c = some true := by
  unfold Tells.tells.f
  rw [if_neg h]
  simp
set_option maxHeartbeats 8000000 in
set_option maxRecDepth 100000 in
theorem once_calls (W : World) (A : Option Addr) (n c : Nat) (b : List Int) (a0 mk : Int) (hb : RdB (fun k => k < W.heap.size) W (.slice A n c) b) (hmk : 0 ≤ mk ∧ mk < 4294967296) (hG : Glob W) : Calls Tryd.prog 3 #[.slice A n c, .int .i64 a0, .int .u32 mk] W fun e w' => e = .returned (.bool true) ∧ Below W.heap.size W w' := by
  have HB := Lib.hid hb
  have HG := Lib.hid hG
  obtain ⟨_, _, e1, hbc, hbl, _, _⟩ := hb
  have hn : n = b.length := by cases e1; rfl
  have hnc : n ≤ c := by cases e1; exact hbc
  have hnl : n ≤ 140737488355328 := by omega
  have HN := Lib.hid hn
  clear e1 hbc hbl hn hG
  by_cases hlong : 128 < n ∨ n = 0
  · have hl : 128 < n ∨ (¬ 128 < n ∧ n = 0) := by omega
    clear hlong
    rcases hl with h1 | ⟨h1, rfl⟩
    all_goals
      go_enter Tryd.func3, Tryd.ntmps3
      go_wp2_with (first
        | (go_at_call 6; refine (one_calls _ 0 (by decide)).mono ?_; rintro e w1 ⟨nb, hb, rfl, h⟩; have H1 := Lib.hid h.bel; clear h)
        | (go_at_call 7; refine (awake_calls _).mono ?_; rintro e w9 ⟨rfl, h9⟩; have H9 := Lib.hid h9; clear h9))
      go_ret
      exact ⟨rfl, H1.out.trans (H9.out.mono H1.out.size)⟩
  have hn1 : 1 ≤ n := by omega
  have hn2 : n ≤ 128 := by omega
  have u1 := utm_ a0 (8 * (n : Int)) (by omega) (by omega)
  have HS0 : Hid (N1 0 (hoL 0) = N1 0 (hoQ [])) := Lib.hid rfl
  have HI := Lib.hid (oq_inject [] b (by rw [← HN.out]; exact hn2))
  have HD : Hid ((N1 0 (hoQ [⟨b, 0, false⟩])).double 0 0 = N1 0 (hoQ [⟨b, 0, false⟩, ⟨b, 0, false⟩])) := Lib.hid (oq_double [⟨b, 0, false⟩] 0 (by simp))
  have HDp : Hid ((N1 0 (hoQ [⟨b, 0, false⟩])).placeE 0 0 = 0) := Lib.hid (oq_place [⟨b, 0, false⟩] 0 (by simp))
  have W0 := Lib.hid (oq_wg [] (by decide) (by simp))
  have W1 := Lib.hid (oq_wg [⟨b, 0, false⟩] (by simp) (by simp))
  have hwm : wrap64 (8 * (n : Int)) = 8 * (n : Int) := by unfold wrap64; omega
  have hwu : IntKind.u64.wrap (8 * (n : Int)) = 8 * (n : Int) := by rw [IntKind.wrap_u64]; omega
  have hne : (8 * (n : Int) == 0) = false := beq_eq_false_iff_ne.2 (by omega)
  have hbit : bits BinOp.and IntKind.u32 mk 1 = 0 ∨ bits BinOp.and IntKind.u32 mk 1 = 1 := by
    have e := u32_and mk 1 hmk.1 hmk.2 (by decide) (by decide)
    rw [show (1 : Int).toNat = 1 from rfl, Nat.and_one_is_mod] at e
    rw [e]; omega
  have d1 : decide ((128 : Int) < (n : Int)) = false := decide_eq_false (by omega)
  have d2 : ((n : Int) == 0) = false := beq_eq_false_iff_ne.2 (by omega)
  obtain ⟨u2, u3⟩ := u1
  rcases hbit with hbit | hbit
  · have HNO : Hid (∀ a, spoilR (N1 0 (hoQ [⟨b, 0, false⟩, ⟨b, 0, false⟩])) 0 0 a 0 = some ([spoilN, chkSpoilN], 2)) := Lib.hid (fun a => oq_no _ 0 _ rfl a 0 rfl (spoilB_zero b a))
    go_enter Tryd.func3, Tryd.ntmps3
    go_upto_region 7 with (first
      | (go_at_call 6; refine (one_calls _ 0 (by decide)).mono ?_; rintro e w1 ⟨nb, hb, rfl, h⟩; rw [HS0.out] at h; have H1 := Lib.hid h; clear h))
    generalize wrap64 ((IntKind.u64.wrap a0).tmod (8 * (n : Int))) = at_ at u2 u3 ⊢
    clear hwm hwu hne d1 d2
    go_wp2_with (first
      | (go_at_call 8; refine (injectL H1.out W0.out 0 _ b HB.out).mono ?_; rintro e w2 ⟨ev, rfl, he, h⟩; rw [er_zero _ HI.out.1] at he; obtain rfl := ErR_nil he; rw [HI.out.2] at h; have H2 : Hid (LN W nb hb (N1 0 (hoQ [⟨b, 0, false⟩])) w2) := Lib.hid h; clear h he)
      | (go_at_call 9; refine (doubleL H2.out W1.out 0 0).mono ?_; rintro e w3 ⟨ev, rfl, he, h⟩; rw [er_zero _ HDp.out] at he; obtain rfl := ErR_nil he; have H3 : Hid (LN W nb hb (N1 0 (hoQ [⟨b, 0, false⟩, ⟨b, 0, false⟩])) w3) := Lib.hid (by rw [HD.out] at h; exact h); clear h he)
      | (go_at_call 10; refine (spoilL H3.out 0 0 at_ 0 ⟨by omega, by omega⟩ (by decide)).mono ?_; rintro e w4 ⟨ev, rfl, he, h⟩; rw [HNO.out] at he; obtain ⟨ad, rfl⟩ := ErR_ptr he; have H4 := Lib.hid h.bel; clear h he)
      | (go_at_call 7; refine (awake_calls _).mono ?_; rintro e w9 ⟨rfl, h9⟩; have H9 := Lib.hid h9; clear h9))
    go_ret
    exact ⟨rfl, H4.out.trans (H9.out.mono H4.out.size)⟩
  · have h70 : (7 : Int) ≠ 0 := by decide
    go_enter Tryd.func3, Tryd.ntmps3
    go_upto_region 7 with (first
      | (go_at_call 6; refine (one_calls _ 0 (by decide)).mono ?_; rintro e w1 ⟨nb, hb, rfl, h⟩; rw [HS0.out] at h; have H1 := Lib.hid h; clear h))
    generalize wrap64 ((IntKind.u64.wrap a0).tmod (8 * (n : Int))) = at_ at u2 u3 ⊢
    clear hwm hwu hne d1 d2
    obtain ⟨Y, hY⟩ : ∃ Y, spoilB b at_ 1 = some Y := ⟨_, spoilB_one b at_ u2 (by rw [← HN.out]; exact u3)⟩
    obtain ⟨x, hx⟩ : ∃ x : It, x = ⟨b, 0, false⟩ := ⟨_, rfl⟩
    obtain ⟨y, hy⟩ : ∃ y : It, y = ⟨Y, 0, true⟩ := ⟨_, rfl⟩
    have hxs : x.sp = false := by rw [hx]
    have hxd : x.due = 0 := by rw [hx]
    have hys : y.sp = true := by rw [hy]
    have hyd : y.due = 0 := by rw [hy]
    have hxY : spoilB x.b at_ 1 = some Y := by rw [hx]; exact hY
    have hyx : (⟨Y, x.due, true⟩ : It) = y := by rw [hy, hxd]
    have S1 : Hid (spoilR (N1 0 (hoQ [x, x])) 0 0 at_ 1 = none ∧ (N1 0 (hoQ [x, x])).spoil 0 0 at_ 1 = N1 0 (hoQ [y, x])) := Lib.hid (by have := oq_spoil [x, x] 0 x rfl at_ 1 hxs Y hxY; rw [hyx] at this; exact this)
    have S2 : Hid (spoilR (N1 0 (hoQ [y, x])) 0 0 at_ 1 = some ([spoilN], 7) ∧ (N1 0 (hoQ [y, x])).spoil 0 0 at_ 1 = N1 0 (hoQ [y, x])) := Lib.hid (oq_spoilt [y, x] 0 y rfl at_ 1 hys)
    have D2 : Hid ((N1 0 (hoQ [y, x])).placeE 0 0 = 0 ∧ (N1 0 (hoQ [y, x])).double 0 0 = N1 0 (hoQ [y, y, x])) := Lib.hid ⟨oq_place [y, x] 0 (by simp), oq_double [y, x] 0 (by simp)⟩
    have S3 : Hid (spoilR (N1 0 (hoQ [y, y, x])) 0 1 at_ 1 = some ([spoilN], 7) ∧ (N1 0 (hoQ [y, y, x])).spoil 0 1 at_ 1 = N1 0 (hoQ [y, y, x])) := Lib.hid (oq_spoilt [y, y, x] 1 y rfl at_ 1 hys)
    have S4 : Hid (spoilR (N1 0 (hoQ [y, y, x])) 0 2 at_ 1 = none) := Lib.hid (oq_spoil [y, y, x] 2 x rfl at_ 1 hxs Y hxY).1
    have W2 := Lib.hid (oq_wg [y, x] (by simp) (by simp [hxd, hyd]))
    have HX2 : Hid (N1 0 (hoQ [⟨b, 0, false⟩, ⟨b, 0, false⟩]) = N1 0 (hoQ [x, x])) := Lib.hid (by rw [hx])
    clear hY hx hy hxs hxd hys hyd hxY hyx
    go_wp2_with (first
      | (go_at_call 8; refine (injectL H1.out W0.out 0 _ b HB.out).mono ?_; rintro e w2 ⟨ev, rfl, he, h⟩; rw [er_zero _ HI.out.1] at he; obtain rfl := ErR_nil he; rw [HI.out.2] at h; have H2 : Hid (LN W nb hb (N1 0 (hoQ [⟨b, 0, false⟩])) w2) := Lib.hid h; clear h he)
      | (go_at_call 9; ((with_reducible refine (doubleL H2.out W1.out 0 0).mono ?_); rintro e w3 ⟨ev, rfl, he, h⟩; rw [er_zero _ HDp.out] at he; obtain rfl := ErR_nil he; have H3 : Hid (LN W nb hb (N1 0 (hoQ [x, x])) w3) := Lib.hid (by rw [HD.out, HX2.out] at h; exact h); clear h he))
      | (go_at_call 10; ((with_reducible refine (spoilL H3.out 0 0 at_ 1 ⟨by omega, by omega⟩ (by decide)).mono ?_); rintro e w4 ⟨ev, rfl, he, h⟩; rw [S1.out.1] at he; obtain rfl := ErR_nil he; have H4 : Hid (LN W nb hb (N1 0 (hoQ [y, x])) w4) := Lib.hid (by rw [S1.out.2] at h; exact h); clear h he))
      | (go_at_call 10; ((with_reducible refine (spoilL H4.out 0 0 at_ 1 ⟨by omega, by omega⟩ (by decide)).mono ?_); rintro e w5 ⟨ev5, rfl, he, h⟩; rw [S2.out.1] at he; unfold spoilN at he; have HE5 := Lib.hid he; have H5 : Hid (LN W nb hb (N1 0 (hoQ [y, x])) w5) := Lib.hid (by rw [S2.out.2] at h; exact h); clear h he))
      | (go_at_call 11; ((with_reducible refine (Tells.tells.calls ev5 _ 7 _ true _ HE5.out (Glob_below HG.out H5.out.bel) (tells_er _ _ h70)).mono ?_); rintro e w6 ⟨rfl, h4⟩; have H6 := Lib.hid (H5.out.below h4); clear h4))
      | (go_at_call 9; ((with_reducible refine (doubleL H6.out W2.out 0 0).mono ?_); rintro e w7 ⟨ev, rfl, he, h⟩; rw [er_zero _ D2.out.1] at he; obtain rfl := ErR_nil he; have H7 : Hid (LN W nb hb (N1 0 (hoQ [y, y, x])) w7) := Lib.hid (by rw [D2.out.2] at h; exact h); clear h he))
      | (go_at_call 10; ((with_reducible refine (spoilL H7.out 0 1 at_ 1 ⟨by omega, by omega⟩ (by decide)).mono ?_); rintro e w8 ⟨ev8, rfl, he, h⟩; rw [S3.out.1] at he; unfold spoilN at he; have HE8 := Lib.hid he; have H8 : Hid (LN W nb hb (N1 0 (hoQ [y, y, x])) w8) := Lib.hid (by rw [S3.out.2] at h; exact h); clear h he))
      | (go_at_call 11; ((with_reducible refine (Tells.tells.calls ev8 _ 7 _ true _ HE8.out (Glob_below HG.out H8.out.bel) (tells_er _ _ h70)).mono ?_); rintro e w9 ⟨rfl, h4⟩; have H9 := Lib.hid (H8.out.below h4); clear h4))
      | (go_at_call 10; ((with_reducible refine (spoilL H9.out 0 2 at_ 1 ⟨by omega, by omega⟩ (by decide)).mono ?_); rintro e w10 ⟨ev, rfl, he, h⟩; rw [S4.out] at he; obtain rfl := ErR_nil he; have H10 := Lib.hid h.bel; clear h he))
      | (go_at_call 7; refine (awake_calls _).mono ?_; rintro e w11 ⟨rfl, h9⟩; have H11 := Lib.hid h9; clear h9))
    go_ret
    exact ⟨rfl, H10.out.trans (H11.out.mono H10.out.size)⟩
end Go.Proofs.YtpfpdbbgiimnmaaDoor.Net
