/- What check.Sum, check.Add and check.Take answer, for CheckAdds: the plain laws of CrcM on lists of bytes. No memory in sight. -/
import Derived.Test.YtdiimfldkbpagaaQCheckAddsx
import Derived.Test.YtdiimfldkbpagaaKit
import Derived.Test.YtdiimfldkbpagaaCrcM
import Derived.Lib.Bytes
namespace Go.Proofs.Ytdiimfldkbpagaa.CheCheckAdds
open Go.RowKit Go.Proofs.Ytdiimfldkbpagaa.QCheckAdds Go.Proofs.YtdiimfldkbpagaaW.PrintWords Go.Proofs.YtdiimfldkbpagaaW.PrintLast Go.Proofs.YtdiimfldkbpagaaW.PrintMore Go.Proofs.Ytdiimfldkbpagaa.Kit Go.Proofs.Ytdiimfldkbpagaa.Er Go.Proofs.Ytdiimfldkbpagaa.CrcM

set_option maxRecDepth 100000 in
theorem awake_ev : Ev (fun k => geyserlaw15_awake.f k) true := Ev.of geyserlaw15_awake.mono (show geyserlaw15_awake.f 300 = some true by decide +kernel)
def li (N : List Nat) : List Int := N.map fun n : Nat => (n : Int)
theorem li_len (N : List Nat) : (li N).length = N.length := by simp [li]
theorem li_app (a b : List Nat) : li (a ++ b) = li a ++ li b := by simp [li]
theorem li_rd (N : List Nat) (p : Nat) (h : p < N.length) : rd (li N) (p : Int) = ((N.getD p 0 : Nat) : Int) := by
  have e : ((p : Int)).toNat = p := by omega
  simp [rd, li, e, h]
theorem li_of {l : List Int} (h : ∀ x ∈ l, (Lit.int .u8 x).wf = true) : ∃ N : List Nat, l = li N ∧ ∀ x ∈ N, x < 256 := by
  refine ⟨l.map Int.toNat, ?_, ?_⟩
  · unfold li
    rw [List.map_map]
    have : ∀ x ∈ l, ((fun n : Nat => (n : Int)) ∘ Int.toNat) x = id x := fun x hx => by
      have := bounds_u8 (h x hx)
      show ((x.toNat : Nat) : Int) = x
      omega
    rw [List.map_congr_left this, List.map_id]
  · intro x hx
    obtain ⟨y, hy, rfl⟩ := List.mem_map.1 hx
    have := bounds_u8 (h y hy)
    omega
theorem li_inj {a b : List Nat} (h : li a = li b) : a = b := by
  have := congrArg (List.map Int.toNat) h
  unfold li at this
  rw [List.map_map, List.map_map] at this
  have f : (Int.toNat ∘ fun n : Nat => (n : Int)) = id := by funext n; rfl
  rw [f, List.map_id, List.map_id] at this
  exact this
theorem str_eq {a b : List Nat} (ha : ∀ x ∈ a, x < 256) (hb : ∀ x ∈ b, x < 256) : (strOfNums (li a)).toList = (strOfNums (li b)).toList ↔ a = b := by
  constructor
  · intro h
    rw [Lib.strOfNums_toList, Lib.strOfNums_toList] at h
    have g : ∀ (N : List Nat), (∀ x ∈ N, x < 256) → (Lib.bytesOf (li N)).map UInt8.toNat = N := by
      intro N hN
      induction N with
      | nil => rfl
      | cons x N ih =>
        have hx := hN x (by simp)
        have h2 := ih (fun y hy => hN y (by simp [hy]))
        show UInt8.toNat _ :: (Lib.bytesOf (li N)).map UInt8.toNat = _
        rw [h2]
        congr 1
        simp
        omega
    have := congrArg (List.map UInt8.toNat) h
    rw [g a ha, g b hb] at this
    exact this
  · rintro rfl
    rfl
theorem zI {n : Nat} (h : n < 4294967296) : Go.bits .xor .u32 ((n : Int) / 2) ((2197175160 * (Go.bits .and .u32 (n : Int) 1)) % 4294967296) = ((Z n : Nat) : Int) := by
  have e1 : Go.bits .and .u32 (n : Int) 1 = ((n % 2 : Nat) : Int) := by
    have := u32_and_nat n 1 h (by omega)
    rw [show ((1 : Nat) : Int) = 1 from rfl] at this
    rw [this, Nat.and_one_is_mod]
  have e2 : (2197175160 * ((n % 2 : Nat) : Int)) % 4294967296 = ((n % 2 * P : Nat) : Int) := by
    unfold P
    rcases mod2 n with e | e <;> rw [e] <;> rfl
  rw [e1, e2, show ((n : Int) / 2) = ((n / 2 : Nat) : Int) by omega, u32_xor_nat _ _ (by omega) (by rcases mod2 n with e | e <;> rw [e] <;> decide)]
  rfl
theorem xI {n b : Nat} (h : n < 4294967296) (hb : b < 256) : Go.bits .xor .u32 (n : Int) ((b : Int) % 4294967296) = ((n ^^^ b : Nat) : Int) := by
  rw [show ((b : Int) % 4294967296) = (b : Int) by omega, u32_xor_nat _ _ h (by omega)]
theorem s_bits (x9 : List (List Int)) (x10 x11 : Int) (x15 : List Int) (x16 x17 : Int) (r : Int) : ∀ (d j n : Nat), j + d = 8 → n < 4294967296 →
    Ev (fun k => check_Sum.l1 k ((Zk d n : Nat) : Int) x9 x10 x11 x15 x16 (wrap64 (x17 + 1))) r → Ev (fun k => check_Sum.l2 k (n : Int) x9 x10 x11 x15 x16 x17 (j : Int)) r
  | 0, j, n, hj, _, h => Ev.step (fun k => check_Sum.l2.eq_2 (n : Int) x9 x10 x11 x15 x16 x17 (j : Int) k) (EvF (by omega) h)
  | d + 1, j, n, hj, hn, h => by
    refine Ev.step (fun k => check_Sum.l2.eq_2 (n : Int) x9 x10 x11 x15 x16 x17 (j : Int) k) (EvT (by omega) ?_)
    rw [zI hn, w64 (n := (j : Int) + 1) (by omega)]
    exact s_bits x9 x10 x11 x15 x16 x17 r d (j + 1) (Z n) (by omega) (Z_lt hn) h
theorem s_row (x9 : List (List Int)) (x10 x11 : Int) (N : List Nat) (hN : ∀ x ∈ N, x < 256) (hl : N.length ≤ 9223372036854775000) (r : Int) : ∀ (d p n : Nat), p + d = N.length → n < 4294967296 →
    Ev (fun k => check_Sum.l0 k ((crc n (N.drop p) : Nat) : Int) x9 x10 (wrap64 (x11 + 1))) r → Ev (fun k => check_Sum.l1 k (n : Int) x9 x10 x11 (li N) (N.length : Int) (p : Int)) r
  | 0, p, n, hp, _, h => by
    rw [List.drop_eq_nil_of_le (by omega)] at h
    exact Ev.step (fun k => check_Sum.l1.eq_2 (n : Int) x9 x10 x11 (li N) (N.length : Int) (p : Int) k) (EvF (by omega) h)
  | d + 1, p, n, hp, hn, h => by
    have hb : N.getD p 0 < 256 := by
      rw [List.getD_eq_getElem?_getD, List.getElem?_eq_getElem (by omega)]
      exact hN _ (List.getElem_mem _)
    have hd : N.drop p = N.getD p 0 :: N.drop (p + 1) := by
      rw [List.drop_eq_getElem_cons (by omega), List.getD_eq_getElem?_getD, List.getElem?_eq_getElem (by omega)]
      rfl
    refine Ev.step (fun k => check_Sum.l1.eq_2 (n : Int) x9 x10 x11 (li N) (N.length : Int) (p : Int) k) (EvT (by omega) (EvT (by omega) (EvT (by rw [li_len]; omega) ?_)))
    rw [li_rd N p (by omega), xI hn hb]
    refine s_bits x9 x10 x11 (li N) (N.length : Int) (p : Int) r 8 0 _ rfl (Nat.xor_lt_two_pow (n := 32) hn (by omega)) ?_
    rw [w64 (n := (p : Int) + 1) (by omega)]
    refine s_row x9 x10 x11 N hN hl r d (p + 1) _ (by omega) (crcB_lt hn hb) ?_
    rw [hd] at h
    exact h
theorem s_rows (L : List (List Nat)) (hL : ∀ N ∈ L, (∀ x ∈ N, x < 256) ∧ N.length ≤ 9223372036854775000) (hl : L.length ≤ 9223372036854775000) : ∀ (d q n : Nat), q + d = L.length → n < 4294967296 →
    Ev (fun k => check_Sum.l0 k (n : Int) (L.map li) (L.length : Int) (q : Int)) (((M ^^^ crc n (L.drop q).flatten : Nat)) : Int)
  | 0, q, n, hq, hn => by
    rw [List.drop_eq_nil_of_le (by omega)]
    refine Ev.step (fun k => check_Sum.l0.eq_2 (n : Int) (L.map li) (L.length : Int) (q : Int) k) (EvF (by omega) ?_)
    have := u32_xor_nat M n (by decide) hn
    rw [show ((M : Nat) : Int) = 4294967295 from rfl] at this
    rw [this]
    exact EvK rfl
  | d + 1, q, n, hq, hn => by
    have hd : L.drop q = L.getD q [] :: L.drop (q + 1) := by
      rw [List.drop_eq_getElem_cons (by omega), List.getD_eq_getElem?_getD, List.getElem?_eq_getElem (by omega)]
      rfl
    have hm := hL (L.getD q []) (by rw [List.getD_eq_getElem?_getD, List.getElem?_eq_getElem (by omega)]; exact List.getElem_mem _)
    have hr : rd_L1 (L.map li) (q : Int) = li (L.getD q []) := by
      have e : ((q : Int)).toNat = q := by omega
      unfold rd_L1
      rw [e, List.getD_eq_getElem?_getD, List.getD_eq_getElem?_getD, List.getElem?_map, List.getElem?_eq_getElem (by omega)]
      rfl
    refine Ev.step (fun k => check_Sum.l0.eq_2 (n : Int) (L.map li) (L.length : Int) (q : Int) k) (EvT (by omega) (EvT (by omega) (EvT (by rw [List.length_map]; omega) ?_)))
    rw [hr, li_len]
    refine s_row (L.map li) (L.length : Int) (q : Int) (L.getD q []) hm.1 hm.2 _ (L.getD q []).length 0 n (by omega) hn ?_
    rw [w64 (n := (q : Int) + 1) (by omega), hd, List.flatten_cons, crc_app, List.drop_zero]
    exact s_rows L hL hl d (q + 1) _ (by omega) (crc_lt _ hn hm.1)
theorem sum_rows (L : List (List Nat)) (hL : ∀ N ∈ L, (∀ x ∈ N, x < 256) ∧ N.length ≤ 9223372036854775000) (hl : L.length ≤ 9223372036854775000) : Ev (fun k => check_Sum.f k (L.map li)) ((sum L.flatten : Nat) : Int) := by
  unfold check_Sum.f
  rw [List.length_map]
  exact s_rows L hL hl L.length 0 M (by omega) (by decide)
theorem sum_one (N : List Nat) (hN : ∀ x ∈ N, x < 256) (hl : N.length ≤ 9223372036854775000) : Ev (fun k => check_Sum.f k [li N]) ((sum N : Nat) : Int) := by
  have := sum_rows [N] (by intro x hx; rw [List.mem_singleton.1 hx]; exact ⟨hN, hl⟩) (by simp)
  rw [show [N].flatten = N by simp] at this
  exact this
theorem nbytes_lt : ∀ (n w : Nat), ∀ x ∈ nbytes n w, x < 256
  | 0, _, x, h => absurd h (by simp [nbytes])
  | n + 1, w, x, h => by
    rcases List.mem_cons.1 h with rfl | h
    · omega
    · exact nbytes_lt n _ x h
theorem nbytes_len : ∀ (n w : Nat), (nbytes n w).length = n
  | 0, _ => rfl
  | n + 1, w => by simp [nbytes, nbytes_len n]
theorem add_lt {N : List Nat} (h : ∀ x ∈ N, x < 256) : ∀ x ∈ add N, x < 256 := by
  intro x hx
  rcases List.mem_append.1 hx with h1 | h1
  · exact h x h1
  · exact nbytes_lt _ _ x h1
theorem add_len (N : List Nat) : (add N).length = N.length + 4 := by unfold add; rw [List.length_append, nbytes_len]
theorem a_loop : ∀ (d j w : Nat) (X : List Nat), j + d = 4 → X.length + d < 140737488355328 → Ev (fun k => check_Add.l0 k (li X) (w : Int) (j : Int)) (li (X ++ nbytes d w))
  | 0, j, w, X, hj, _ => by
    rw [show nbytes 0 w = [] from rfl, List.append_nil]
    exact Ev.step (fun k => check_Add.l0.eq_2 (li X) (w : Int) (j : Int) k) (EvF (by omega) (EvK rfl))
  | d + 1, j, w, X, hj, hl => by
    refine Ev.step (fun k => check_Add.l0.eq_2 (li X) (w : Int) (j : Int) k) (EvT (by omega) (EvT (by rw [li_len]; omega) ?_))
    rw [w64 (n := (j : Int) + 1) (by omega), show ((w : Int) / 256) = ((w / 256 : Nat) : Int) by omega, show ((w : Int) % 256) = ((w % 256 : Nat) : Int) by omega]
    have := a_loop d (j + 1) (w / 256) (X ++ [w % 256]) (by omega) (by rw [List.length_append]; simp; omega)
    rw [List.append_assoc, li_app] at this
    exact this
theorem add_ev (N : List Nat) (hN : ∀ x ∈ N, x < 256) (hl : N.length + 4 < 140737488355328) : Ev (fun k => check_Add.f k (li N)) (li (add N)) := by
  unfold check_Add.f
  refine EvC rfl (EvT (by rw [li_len]; simp; omega) (Ev.bind (sum_one N hN (by omega)) ?_))
  have := a_loop 4 0 (sum N) N rfl hl
  exact this
def takeW : ByteArray := ⟨#[99, 104, 101, 99, 107, 46, 84, 97, 107, 101]⟩
theorem take_li (N : List Nat) (p : Nat) : (li N).take p = li (N.take p) := by simp [li, List.map_take]
theorem take_lt {N : List Nat} (h : ∀ x ∈ N, x < 256) (p : Nat) : ∀ x ∈ N.take p, x < 256 := fun x hx => h x (List.mem_of_mem_take hx)
theorem take_short (N : List Nat) (h : N.length < 4) : Ev (fun k => check_Take.f k (li N)) ([], some ([takeW], 2)) := by
  unfold check_Take.f
  exact EvT (by rw [li_len]; omega) (EvC rfl (EvK rfl))
theorem take_long (N : List Nat) (hN : ∀ x ∈ N, x < 256) (h : 4 ≤ N.length) (hl : N.length < 140737488355328) :
    Ev (fun k => check_Take.f k (li N)) (if add (N.take (N.length - 4)) = N then (li (N.take (N.length - 4)), none) else ([], some ([takeW], 6))) := by
  have e : wrap64 (((li N).length : Int) - 4) = ((N.length - 4 : Nat) : Int) := by rw [li_len, w64 ⟨by omega, by omega⟩]; omega
  have e2 : (((N.length - 4 : Nat) : Int)).toNat = N.length - 4 := by omega
  have hl2 : (N.take (N.length - 4)).length = N.length - 4 := by rw [List.length_take]; omega
  unfold check_Take.f
  refine EvF (by rw [li_len]; omega) (EvC rfl ?_)
  rw [e, e2, take_li]
  refine EvT (by omega) (EvT (by rw [li_len]; omega) (EvT (by rw [li_len, hl2]; simp; omega) (EvC rfl (Ev.bind (add_ev _ (take_lt hN _) (by rw [hl2]; omega)) ?_))))
  by_cases c : add (N.take (N.length - 4)) = N
  · rw [if_pos c]
    exact EvT ((str_eq (add_lt (take_lt hN _)) hN).2 c) (EvK rfl)
  · rw [if_neg c]
    exact EvF (fun h => c ((str_eq (add_lt (take_lt hN _)) hN).1 h)) (EvC rfl (EvK rfl))
theorem nat_of_u32 {a : Int} (h : (Lit.int .u32 a).wf = true) : ∃ n : Nat, a = (n : Int) ∧ n < 4294967296 := by
  have := bounds_u32 h; exact ⟨a.toNat, by omega, by omega⟩
end Go.Proofs.Ytdiimfldkbpagaa.CheCheckAdds
