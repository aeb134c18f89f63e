/- ACCOUNTS IN PLAIN LEAN: what comes of all data of a tick, in whatever order, of some of them, of each twice. No memory in sight. Conditions: none. -/
import Derived.Test.YtbjojkocmmcpgaaAllA
namespace Go.Proofs.Ytbjojkocmmcpgaa.Acc
set_option linter.unusedSimpArgs false
set_option linter.unusedVariables false
open Go.Proofs.Ytbjojkocmmcpgaa.Mod
def lay (H : Nat → Bool) (m : Nat → Nat) (S : List Dat) (l : Nat) : Lay := ⟨H l || S.any (fun d => d.layer == l), if S.any (fun d => d.layer == l) then (m l : Int) else 0, (S.filter fun d => d.layer == l).map (·.place)⟩
/-- Some data of a tick have come. -/
def st (H : Nat → Bool) (m : Nat → Nat) (lv T : Int) (S : List Dat) : Acc := ⟨lv, true, T, true, false, -1, lay H m S⟩
/-- A tick of which nothing has come. -/
def bg (H : Nat → Bool) (lv T : Int) (b : Bool) (s : Int) : Acc := ⟨lv, true, T, false, b, s, fun l => ⟨H l, 0, []⟩⟩
/-- Data of a tick. -/
structure Of (m : Nat → Nat) (T : Int) (d : Dat) : Prop where
  tick : d.tick = T
  burst : d.burst = false
  sync : d.sync = -1
  many : d.many = (m d.layer : Int)
  pos : 1 ≤ m d.layer
theorem mem_pl (H : Nat → Bool) (m : Nat → Nat) (S : List Dat) (l : Nat) (p : Int) : p ∈ (lay H m S l).pl ↔ ∃ d ∈ S, d.layer = l ∧ d.place = p := by
  show p ∈ (S.filter fun d => d.layer == l).map (·.place) ↔ _
  rw [List.mem_map]
  constructor
  · rintro ⟨d, hd, rfl⟩
    obtain ⟨h1, h2⟩ := List.mem_filter.1 hd
    exact ⟨d, h1, by simpa using h2, rfl⟩
  · rintro ⟨d, h1, h2, rfl⟩
    exact ⟨d, List.mem_filter.2 ⟨h1, by simpa using h2⟩, rfl⟩
theorem lay_new (H : Nat → Bool) (m : Nat → Nat) (S : List Dat) (d : Dat) (T : Int) (hd : Of m T d) (hn : d.place ∉ (lay H m S d.layer).pl) : (lay H m S d.layer).put d = lay H m (S ++ [d]) d.layer := by
  have hm := hd.pos
  unfold Lay.put
  rw [if_neg hn]
  unfold lay
  simp only [List.any_append, List.any_cons, List.any_nil, Bool.or_false, beq_self_eq_true, Bool.or_true, if_true, List.filter_append, List.filter_cons, List.filter_nil, List.map_append, List.map_cons, List.map_nil]
  congr 1
  split
  · split
    · omega
    · rfl
  · rw [if_pos rfl]; exact hd.many
theorem lay_far (H : Nat → Bool) (m : Nat → Nat) (S : List Dat) (d : Dat) (l : Nat) (h : l ≠ d.layer) : lay H m (S ++ [d]) l = lay H m S l := by
  unfold lay
  have e : (d.layer == l) = false := beq_eq_false_iff_ne.2 (fun e => h e.symm)
  simp [List.any_append, List.filter_append, e]
theorem lay_old (H : Nat → Bool) (m : Nat → Nat) (S : List Dat) (d : Dat) (T : Int) (hd : Of m T d) (hn : d.place ∈ (lay H m S d.layer).pl) : (lay H m S d.layer).put d = lay H m S d.layer := by
  have hm := hd.pos
  obtain ⟨x, hx, hxl, _⟩ := (mem_pl H m S d.layer d.place).1 hn
  have ha : S.any (fun d' => d'.layer == d.layer) = true := List.any_eq_true.2 ⟨x, hx, by simpa using hxl⟩
  unfold Lay.put
  rw [if_pos hn]
  unfold lay
  simp only [ha, if_true, Bool.or_true]
  rw [if_neg (by omega)]
theorem st_new (H : Nat → Bool) (m : Nat → Nat) (lv T : Int) (S : List Dat) (d : Dat) (hd : Of m T d) (hn : d.place ∉ (lay H m S d.layer).pl) : (st H m lv T S).come d = (st H m lv T S, []) ∧ (st H m lv T S).data d = st H m lv T (S ++ [d]) ∧ (st H m lv T S).fresh d = true := by
  have hc : (st H m lv T S).come d = (st H m lv T S, []) := come_same rfl hd.tick.symm
  refine ⟨hc, ?_, ?_⟩
  · unfold Acc.data
    rw [hc]
    show (⟨lv, true, T, true, false, -1, fun i => if i = d.layer then (lay H m S i).put d else lay H m S i⟩ : Acc) = ⟨lv, true, T, true, false, -1, lay H m (S ++ [d])⟩
    congr 1
    funext i
    by_cases e : i = d.layer
    · subst e; rw [if_pos rfl]; exact lay_new H m S d T hd hn
    · rw [if_neg e, lay_far H m S d i e]
  · unfold Acc.fresh
    rw [hc]
    show (!decide (d.place ∈ (lay H m S d.layer).pl)) = true
    rw [decide_eq_false hn]; rfl
theorem st_old (H : Nat → Bool) (m : Nat → Nat) (lv T : Int) (S : List Dat) (d : Dat) (hd : Of m T d) (hn : d.place ∈ (lay H m S d.layer).pl) : (st H m lv T S).come d = (st H m lv T S, []) ∧ (st H m lv T S).data d = st H m lv T S ∧ (st H m lv T S).fresh d = false := by
  have hc : (st H m lv T S).come d = (st H m lv T S, []) := come_same rfl hd.tick.symm
  refine ⟨hc, ?_, ?_⟩
  · unfold Acc.data
    rw [hc]
    show (⟨lv, true, T, true, false, -1, fun i => if i = d.layer then (lay H m S i).put d else lay H m S i⟩ : Acc) = ⟨lv, true, T, true, false, -1, lay H m S⟩
    congr 1
    funext i
    by_cases e : i = d.layer
    · subst e; rw [if_pos rfl]; exact lay_old H m S d T hd hn
    · rw [if_neg e]
  · unfold Acc.fresh
    rw [hc]
    show (!decide (d.place ∈ (lay H m S d.layer).pl)) = false
    rw [decide_eq_true hn]; rfl
theorem lay_nil (H : Nat → Bool) (m : Nat → Nat) (l : Nat) : lay H m [] l = ⟨H l, 0, []⟩ := by simp [lay]
/-- The first data of a tick. -/
theorem bg_first (H : Nat → Bool) (m : Nat → Nat) (lv T : Int) (b : Bool) (s : Int) (a : Acc) (ms : List Mk) (d : Dat) (hd : Of m T d) (hc : a.come d = (bg H lv T b s, ms)) : a.data d = st H m lv T [d] ∧ a.fresh d = true := by
  refine ⟨?_, ?_⟩
  · unfold Acc.data
    rw [hc]
    show (⟨lv, true, T, true, d.burst, d.sync, fun i => if i = d.layer then (⟨H i, 0, []⟩ : Lay).put d else ⟨H i, 0, []⟩⟩ : Acc) = ⟨lv, true, T, true, false, -1, lay H m [d]⟩
    rw [hd.burst, hd.sync]
    congr 1
    funext i
    by_cases e : i = d.layer
    · subst e
      rw [if_pos rfl, ← lay_nil H m d.layer]
      exact lay_new H m [] d T hd (by rw [lay_nil]; simp)
    · rw [if_neg e, ← lay_nil H m i]
      exact (lay_far H m [] d i e).symm
  · unfold Acc.fresh
    rw [hc]; rfl
theorem come_begin (lv : Int) (d : Dat) : (acc0.setLevel lv).come d = (bg (fun _ => false) lv d.tick false 0, []) := by
  rw [come_close (.inl rfl), close_has rfl]
  show ((⟨lv, true, d.tick, false, false, 0, fun i => (if lv < i then lay0 else lay0).bare⟩ : Acc), ([] : List Mk)) = _
  congr 1
  unfold bg
  congr 1
  funext i
  split <;> rfl
/-- A tick is closed by data of the next one. -/
theorem come_next (H : Nat → Bool) (m : Nat → Nat) (lv T : Int) (S : List Dat) (d : Dat) (hd : d.tick = T + 1) : (st H m lv T S).come d = (bg (fun l => (lay H m S l).heard) lv (T + 1) false (-1), [(st H m lv T S).mark]) := by
  rw [come_close (.inr (by show T < d.tick; omega)), hd]
  have e : (st H m lv T S).from (T + 1) = bg (fun l => (lay H m S l).heard) lv (T + 1) false (-1) := by
    unfold Acc.from
    rw [show (st H m lv T S).tick = T from rfl, Int.max_eq_left (by omega)]; rfl
  unfold Acc.close
  rw [if_pos (show (st H m lv T S).has = true from rfl), e, show (T + 1 - (bg (fun l => (lay H m S l).heard) lv (T + 1) false (-1)).tick).toNat = 0 by show (T + 1 - (T + 1)).toNat = 0; omega]; rfl
/-! ### marks -/
theorem markUp_full (L : Nat → Lay) (x : Mk) : ∀ k, (∀ i, i < k → (L i).heard = true) → (markUp L x k).full = x.full
  | 0, _ => rfl
  | k + 1, h => by
    show ((markUp L x k).full && (L k).heard) = x.full
    rw [markUp_full L x k (fun i hi => h i (by omega)), h k (by omega), Bool.and_true]
theorem markUp_kept (L : Nat → Lay) (x : Mk) : ∀ k, (∀ i, i < k → (L i).lost = false) → (markUp L x k).lost = x.lost
  | 0, _ => rfl
  | k + 1, h => by
    show ((markUp L x k).lost || (L k).lost) = x.lost
    rw [markUp_kept L x k (fun i hi => h i (by omega)), h k (by omega), Bool.or_false]
theorem markUp_lost (L : Nat → Lay) (x : Mk) : ∀ k, (x.lost = true ∨ ∃ i, i < k ∧ (L i).lost = true) → (markUp L x k).lost = true
  | 0, h => by
    rcases h with h | ⟨i, hi, _⟩
    · exact h
    · omega
  | k + 1, h => by
    show ((markUp L x k).lost || (L k).lost) = true
    rcases h with h | ⟨i, hi, hl⟩
    · rw [markUp_lost L x k (.inl h)]; rfl
    · by_cases e : i = k
      · subst e; rw [hl, Bool.or_true]
      · rw [markUp_lost L x k (.inr ⟨i, by omega, hl⟩)]; rfl
/-! ### all data of a tick -/
theorem mem_allOne {m : Nat → Nat} {t : Int} {l j : Nat} {d : Dat} : d ∈ allOne m t l j ↔ ∃ p : Nat, p < j ∧ d = mkD l t (p : Int) (m l : Int) := by
  unfold allOne
  rw [List.mem_map]
  constructor
  · rintro ⟨p, hp, rfl⟩; exact ⟨p, List.mem_range.1 hp, rfl⟩
  · rintro ⟨p, hp, rfl⟩; exact ⟨p, List.mem_range.2 hp, rfl⟩
theorem mem_allUp {m : Nat → Nat} {t : Int} {d : Dat} : ∀ {k : Nat}, d ∈ allUp m t k ↔ ∃ l p : Nat, l < k ∧ p < m l ∧ d = mkD l t (p : Int) (m l : Int)
  | 0 => by simp [allUp]
  | k + 1 => by
    show d ∈ allUp m t k ++ allOne m t k (m k) ↔ _
    rw [List.mem_append, mem_allUp, mem_allOne]
    constructor
    · rintro (⟨l, p, h1, h2, h3⟩ | ⟨p, h1, h2⟩)
      · exact ⟨l, p, by omega, h2, h3⟩
      · exact ⟨k, p, by omega, h1, h2⟩
    · rintro ⟨l, p, h1, h2, h3⟩
      by_cases e : l = k
      · subst e; exact .inr ⟨p, h2, h3⟩
      · exact .inl ⟨l, p, by omega, h2, h3⟩
theorem of_allUp {m : Nat → Nat} (hm : ∀ l, 1 ≤ m l) {t : Int} {k : Nat} {d : Dat} (h : d ∈ allUp m t k) : Of m t d := by
  obtain ⟨l, p, h1, h2, rfl⟩ := mem_allUp.1 h
  exact ⟨rfl, rfl, rfl, rfl, hm l⟩
def kk (d : Dat) : Nat × Int := (d.layer, d.place)
theorem nodup_allUp (m : Nat → Nat) (t : Int) : ∀ k, ((allUp m t k).map kk).Nodup
  | 0 => List.nodup_nil
  | k + 1 => by
    show ((allUp m t k ++ allOne m t k (m k)).map kk).Nodup
    rw [List.map_append]
    refine List.nodup_append.2 ⟨nodup_allUp m t k, ?_, ?_⟩
    · unfold allOne
      rw [List.map_map]
      refine List.nodup_iff_pairwise_ne.2 ?_
      refine List.pairwise_map.2 (List.Pairwise.imp ?_ List.nodup_range)
      intro a b hab h
      have h' : (a : Int) = (b : Int) := by simpa [kk, mkD] using h
      exact hab (by omega)
    · intro a ha b hb
      obtain ⟨d, hd, rfl⟩ := List.mem_map.1 ha
      obtain ⟨e, he, rfl⟩ := List.mem_map.1 hb
      obtain ⟨l, p, h1, _, rfl⟩ := mem_allUp.1 hd
      obtain ⟨q, _, rfl⟩ := mem_allOne.1 he
      intro h
      have : l = k := by simpa [kk, mkD] using congrArg Prod.fst h
      omega
theorem count_allUp (m : Nat → Nat) (t : Int) (l : Nat) : ∀ k, ((allUp m t k).filter fun d => d.layer == l).length = if l < k then m l else 0
  | 0 => rfl
  | k + 1 => by
    show ((allUp m t k ++ allOne m t k (m k)).filter fun d => d.layer == l).length = _
    rw [List.filter_append, List.length_append, count_allUp m t l k]
    by_cases e : l = k
    · subst e
      rw [if_neg (by omega), if_pos (by omega), List.filter_eq_self.2 (fun d hd => by obtain ⟨p, _, rfl⟩ := mem_allOne.1 hd; simp [mkD]), allOne_len]; omega
    · rw [show (allOne m t k (m k)).filter (fun d => d.layer == l) = [] from List.filter_eq_nil_iff.2 (fun d hd => by obtain ⟨p, _, rfl⟩ := mem_allOne.1 hd; simpa [mkD] using fun h => e h.symm)]
      by_cases e2 : l < k
      · rw [if_pos e2, if_pos (by omega)]; rfl
      · rw [if_neg e2, if_neg (by omega)]; rfl
/-- New among those ahead of it. -/
theorem new_of_nodup {H : Nat → Bool} {m : Nat → Nat} {F : List Dat} (hF : (F.map kk).Nodup) {i : Nat} {d : Dat} (hi : F[i]? = some d) : d.place ∉ (lay H m (F.take i) d.layer).pl := by
  intro h
  obtain ⟨x, hx, h1, h2⟩ := (mem_pl H m (F.take i) d.layer d.place).1 h
  obtain ⟨j, hj, hxj⟩ := List.mem_iff_getElem.1 hx
  have hlt : i < F.length := (List.getElem?_eq_some_iff.1 hi).1
  have hji : j < i := by have := hj; rw [List.length_take] at this; omega
  have e1 : (F.map kk)[j]? = some (kk d) := by
    rw [List.getElem?_map]
    have : F[j]? = some x := by
      rw [← hxj, List.getElem_take, List.getElem?_eq_getElem]
    rw [this]
    show some (kk x) = some (kk d)
    unfold kk
    rw [h1, h2]
  have e2 : (F.map kk)[i]? = some (kk d) := by rw [List.getElem?_map, hi]; rfl
  exact absurd ((List.getElem?_inj (by simpa using Nat.lt_trans hji hlt) hF).1 (e1.trans e2.symm)) (by omega)
theorem any_of_count {l : Nat} {F : List Dat} (h : 0 < (F.filter fun d => d.layer == l).length) : F.any (fun d => d.layer == l) = true := by
  obtain ⟨d, hd⟩ := List.exists_mem_of_length_pos h
  obtain ⟨h1, h2⟩ := List.mem_filter.1 hd
  exact List.any_eq_true.2 ⟨d, h1, h2⟩
theorem whole_mark (H : Nat → Bool) (m : Nat → Nat) (hm : ∀ l, 1 ≤ m l) (lv T : Int) (h0 : 0 ≤ lv) (F : List Dat) (hF : ∀ l : Nat, (l : Int) ≤ lv → (F.filter fun d => d.layer == l).length = m l) : (st H m lv T F).mark = ⟨true, false, false, -1⟩ := by
  have hb := markUp_burst (st H m lv T F).L ⟨true, false, false, -1⟩ (lv + 1).toNat
  have h1 := markUp_full (st H m lv T F).L ⟨true, false, false, -1⟩ (lv + 1).toNat (fun i hi => by
    show (H i || F.any (fun d => d.layer == i)) = true
    rw [any_of_count (by rw [hF i (by omega)]; exact hm i), Bool.or_true])
  have h2 := markUp_kept (st H m lv T F).L ⟨true, false, false, -1⟩ (lv + 1).toNat (fun i hi => by
    have ha := any_of_count (F := F) (l := i) (by rw [hF i (by omega)]; exact hm i)
    show ((lay H m F i).heard && ((lay H m F i).many == 0 || decide (((lay H m F i).pl.length : Int) < (lay H m F i).many))) = false
    have e1 : (lay H m F i).many = (m i : Int) := if_pos ha
    have e2 : (lay H m F i).pl.length = m i := by show ((F.filter fun d => d.layer == i).map (·.place)).length = m i; rw [List.length_map, hF i (by omega)]
    have := hm i
    rw [e1, e2, show ((m i : Int) == 0) = false from beq_eq_false_iff_ne.2 (by omega), show decide ((m i : Int) < (m i : Int)) = false from decide_eq_false (by omega)]
    cases (lay H m F i).heard <;> rfl)
  show markUp (st H m lv T F).L ⟨true, false, false, -1⟩ (lv + 1).toNat = _
  obtain ⟨b1, b2⟩ := hb
  generalize markUp (st H m lv T F).L ⟨true, false, false, -1⟩ (lv + 1).toNat = z at h1 h2 b1 b2
  obtain ⟨z1, z2, z3, z4⟩ := z
  simp only at h1 h2 b1 b2
  rw [h1, h2, b1, b2]
theorem lacks_mark (H : Nat → Bool) (m : Nat → Nat) (hm : ∀ l, 1 ≤ m l) (lv T : Int) (F : List Dat) (l : Nat) (hl : (l : Int) ≤ lv) (hH : H l = true) (hF : (F.filter fun d => d.layer == l).length < m l) : (st H m lv T F).mark.lost = true := by
  refine markUp_lost (st H m lv T F).L ⟨true, false, false, -1⟩ (lv + 1).toNat (.inr ⟨l, by omega, ?_⟩)
  show ((H l || F.any (fun d => d.layer == l)) && ((lay H m F l).many == 0 || decide (((lay H m F l).pl.length : Int) < (lay H m F l).many))) = true
  rw [hH, Bool.true_or, Bool.true_and]
  have e2 : (lay H m F l).pl.length = (F.filter fun d => d.layer == l).length := by show ((F.filter fun d => d.layer == l).map (·.place)).length = _; rw [List.length_map]
  by_cases ha : F.any (fun d => d.layer == l) = true
  · rw [show (lay H m F l).many = (m l : Int) from if_pos ha, e2, decide_eq_true (by omega), Bool.or_true]
  · rw [show (lay H m F l).many = 0 from if_neg ha]; rfl
theorem bg_mark (H : Nat → Bool) (lv T : Int) (b : Bool) (s : Int) : (bg H lv T b s).mark.lost = true :=
  markUp_lost (bg H lv T b s).L ⟨true, false, true, -1⟩ (lv + 1).toNat (.inl rfl)
/-! ### a row turned round -/
def turn (F : List Dat) (B : Nat) : List Dat := F.drop B ++ F.take B
theorem turn_perm (F : List Dat) (B : Nat) : (turn F B).Perm F := by
  unfold turn
  exact (List.perm_append_comm).trans (by rw [List.take_append_drop])
theorem turn_len (F : List Dat) (B : Nat) : (turn F B).length = F.length := (turn_perm F B).length_eq
theorem turn_at (F : List Dat) (B i : Nat) (hB : B < F.length) (hi : i < F.length) : (turn F B)[i]? = F[(i + B) % F.length]? := by
  unfold turn
  by_cases h : i < F.length - B
  · rw [List.getElem?_append_left (by rw [List.length_drop]; exact h), List.getElem?_drop, Nat.mod_eq_of_lt (by omega), Nat.add_comm]
  · rw [List.getElem?_append_right (by rw [List.length_drop]; omega), List.length_drop, List.getElem?_take, if_pos (by omega), Nat.mod_eq_sub_mod (by omega), Nat.mod_eq_of_lt (by omega)]
    congr 1; omega
/-! ### one after the other -/
def accAt (m : Nat → Nat) (lv T : Int) (S : List Dat) : Nat → Acc
  | 0 => acc0.setLevel lv
  | i + 1 => st (fun _ => false) m lv T (S.take (i + 1))
theorem accAt_step (m : Nat → Nat) (lv T : Int) (S : List Dat) (hS : ∀ d ∈ S, Of m T d) (hN : (S.map kk).Nodup) (i : Nat) (d : Dat) (hi : S[i]? = some d) :
    (accAt m lv T S i).data d = accAt m lv T S (i + 1) ∧ ((accAt m lv T S i).come d).2 = [] ∧ (accAt m lv T S i).fresh d = true ∧ ((accAt m lv T S i).has = true → (accAt m lv T S i).tick ≤ d.tick) := by
  have hd := hS d (List.mem_of_getElem? hi)
  cases i with
  | zero =>
    have hc := come_begin lv d
    rw [hd.tick] at hc
    obtain ⟨h1, h2⟩ := bg_first (fun _ => false) m lv T false 0 (acc0.setLevel lv) [] d hd hc
    refine ⟨?_, ?_, h2, fun h => by cases h⟩
    · show (acc0.setLevel lv).data d = st (fun _ => false) m lv T (S.take 1)
      rw [h1, List.take_one, List.head?_eq_getElem?, hi]; rfl
    · show ((acc0.setLevel lv).come d).2 = []
      rw [hc]
  | succ i =>
    obtain ⟨h1, h2, h3⟩ := st_new (fun _ => false) m lv T (S.take (i + 1)) d hd (new_of_nodup hN hi)
    refine ⟨?_, ?_, h3, fun _ => Int.le_of_eq hd.tick.symm⟩
    · show (st (fun _ => false) m lv T (S.take (i + 1))).data d = st (fun _ => false) m lv T (S.take (i + 1 + 1))
      have e : S.take (i + 1 + 1) = S.take (i + 1) ++ [d] := by
        rw [List.take_add_one (i := i + 1), hi]; rfl
      rw [h2, e]
    · show ((st (fun _ => false) m lv T (S.take (i + 1))).come d).2 = []
      rw [h1]
theorem good_st (H : Nat → Bool) (m : Nat → Nat) (lv T : Int) (S : List Dat) (n : Nat) (hl : 0 ≤ lv ∧ lv ≤ 7) (hT : 0 ≤ T ∧ T ≤ 1099511627776) (hS : S.length ≤ n) : Good n (st H m lv T S) :=
  ⟨hl.1, hl.2, hT.1, hT.2, fun i => by
    show ((S.filter fun d => d.layer == i).map (·.place)).length ≤ n
    rw [List.length_map]
    exact Nat.le_trans (List.length_filter_le _ _) hS⟩
theorem good_set (lv : Int) (n : Nat) (hl : 0 ≤ lv ∧ lv ≤ 7) : Good n (acc0.setLevel lv) :=
  ⟨hl.1, hl.2, Int.le_refl _, by show (0 : Int) ≤ 1099511627776; omega, fun i => by
    show (if lv < (i : Int) then lay0 else lay0).pl.length ≤ n
    split <;> exact Nat.zero_le _⟩
theorem good_at (m : Nat → Nat) (lv T : Int) (S : List Dat) (n : Nat) (hl : 0 ≤ lv ∧ lv ≤ 7) (hT : 0 ≤ T ∧ T ≤ 1099511627776) (hS : S.length ≤ n) (i : Nat) : Good n (accAt m lv T S i) := by
  cases i with
  | zero => exact good_set lv n hl
  | succ i => exact good_st _ m lv T _ n hl hT (by rw [List.length_take]; omega)
theorem level_at (m : Nat → Nat) (lv T : Int) (S : List Dat) (i : Nat) : (accAt m lv T S i).level = lv := by cases i <;> rfl
theorem allUp_ok {m : Nat → Nat} (hm : ∀ l, 1 ≤ m l ∧ m l ≤ 4) {T : Int} (hT : 0 ≤ T ∧ T < 1099511627776) {lv : Int} (hl : 0 ≤ lv ∧ lv ≤ 7) {d : Dat} (h : d ∈ allUp m T (lv + 1).toNat) : Dat.Ok d ∧ (d.layer : Int) ≤ lv := by
  obtain ⟨l, p, h1, h2, rfl⟩ := mem_allUp.1 h
  have := (hm l).2
  exact ⟨dataOk l T p (m l) (by omega) hT ⟨by omega, by omega⟩ (by omega), by show (l : Int) ≤ lv; omega⟩
theorem allUp_pos {m : Nat → Nat} (hm : ∀ l, 1 ≤ m l) (T : Int) (k : Nat) : 0 < (allUp m T (k + 1)).length := by
  have := hm k
  show 0 < (allUp m T k ++ allOne m T k (m k)).length
  rw [List.length_append, allOne_len]; omega
theorem many_bounds (x : Nat → Int) (hx : ∀ i, 0 ≤ x i ∧ x i < 256) (l : Nat) : 1 ≤ manyOf x l ∧ manyOf x l ≤ 4 := by unfold manyOf; have := hx l; omega
/-- The cells of packets in their row. -/
def PkAt (w : World) (b : Nat) (F : List Dat) : Prop := ∀ i m, F[i]? = some m → ∀ j v, (pkCells m)[j]? = some v → w.cell? ⟨b, i * 20 + j, none⟩ = some v
theorem Pks.at {w : World} {B b c N : Nat} {F : List Dat} (h : Pks w B (.slice (some ⟨b, 0, none⟩) N c) F) : PkAt w b F := by
  intro i m hi j v hv
  obtain ⟨b', c', e, _, _, _, hc⟩ := h.cells (Nat.lt_of_le_of_lt (Nat.zero_le i) (List.getElem?_eq_some_iff.1 hi).1)
  cases e
  exact hc i m hi j v hv
end Go.Proofs.Ytbjojkocmmcpgaa.Acc
