/- Plain: the table of traces of a prime: rises, is a mirror, sums up. -/
import Derived.Test.YtilgeeaobdebhaaTbl
namespace Go.Proofs.Ytilgeeaobdebhaa
open Go.RowKit

theorem len_le : ∀ (L M : List (Int × Int)), L.Nodup → (∀ x ∈ L, x ∈ M) → L.length ≤ M.length
  | [], _, _, _ => Nat.zero_le _
  | x :: L, M, hn, hs => by
    have hx := hs x (by simp)
    have hn' := List.nodup_cons.1 hn
    have h1 := len_le L (M.erase x) hn'.2 (fun y hy => (List.mem_erase_of_ne (by rintro rfl; exact hn'.1 hy)).2 (hs y (by simp [hy])))
    have h2 := List.length_erase_of_mem hx
    have h3 : 0 < M.length := List.length_pos_of_mem hx
    simp only [List.length_cons]; omega
theorem srt_nodup {L : List (Int × Int)} (h : Srt L) : L.Nodup := h.imp (fun {a b} (h : ltP a b) (e : a = b) => ltP.irr b (e ▸ h))
theorem map_nodup {f : Int × Int → Int × Int} : ∀ (L : List (Int × Int)), L.Nodup → (∀ x ∈ L, ∀ y ∈ L, f x = f y → x = y) → (L.map f).Nodup
  | [], _, _ => by simp
  | x :: L, hn, hi => by
    have hn' := List.nodup_cons.1 hn
    rw [List.map_cons, List.nodup_cons]
    refine ⟨fun h => ?_, map_nodup L hn'.2 (fun a ha b hb => hi a (by simp [ha]) b (by simp [hb]))⟩
    obtain ⟨y, hy, e⟩ := List.mem_map.1 h
    have := hi x (by simp) y (by simp [hy]) e.symm
    exact hn'.1 (this ▸ hy)
/-- the twist of a curve of the table -/
def twP (p : Int) (c : Int × Int) : Int × Int := (twA p c.1, twB p c.2)
theorem tw_mem {p : Int} (hp : tabP p = true) {c : Int × Int} (h : c ∈ tabL p) : twP p c ∈ tabL p ∧ trC p (twP p c) = -trC p c := by
  obtain ⟨hA, hB, hok⟩ := tabL_mem h
  obtain ⟨h1, h2, _⟩ := cv_facts hp hA hB hok
  have h5 := tabP_of hp
  exact ⟨tabL_mk ⟨Int.emod_nonneg _ (by omega), by have := Int.emod_lt_of_pos (c.1 * nr p * nr p) (show 0 < p by omega); unfold twA; omega⟩
    ⟨Int.emod_nonneg _ (by omega), by have := Int.emod_lt_of_pos (c.2 * nr p * nr p * nr p) (show 0 < p by omega); unfold twB; omega⟩ h1, h2⟩
theorem cnt_le {p : Int} (hp : tabP p = true) (t : Int) : cntT p (tabL p) t ≤ cntT p (tabL p) (-t) := by
  unfold cntT
  have hn := (srt_nodup (tabL_srt p)).filter (fun c => trC p c == t)
  have h1 := map_nodup (f := twP p) _ hn (fun x hx y hy e => by
    obtain ⟨a1, a2, _⟩ := tabL_mem (List.mem_filter.1 hx).1
    obtain ⟨b1, b2, _⟩ := tabL_mem (List.mem_filter.1 hy).1
    unfold twP at e
    simp only [Prod.mk.injEq] at e
    obtain ⟨q1, q2⟩ := tw_inj hp a1 a2 b1 b2 e.1 e.2
    exact Prod.ext q1 q2)
  have h2 := len_le _ ((tabL p).filter fun c => trC p c == -t) h1 (fun x hx => by
    obtain ⟨y, hy, rfl⟩ := List.mem_map.1 hx
    obtain ⟨m1, m2⟩ := List.mem_filter.1 hy
    obtain ⟨k1, k2⟩ := tw_mem hp m1
    have m3 : trC p y = t := by simpa using m2
    refine List.mem_filter.2 ⟨k1, ?_⟩
    rw [k2, m3]; simp)
  rw [List.length_map] at h2
  omega
theorem cnt_neg {p : Int} (hp : tabP p = true) (t : Int) : cntT p (tabL p) (-t) = cntT p (tabL p) t := by
  have h1 := cnt_le hp t
  have h2 := cnt_le hp (-t)
  rw [Int.neg_neg] at h2
  omega
/-! rows -/
theorem rows_mem (f : Int → Int) (lo : Int) : ∀ (k : Nat) (c : Int × Int), c ∈ rowsTo f lo k ↔ ∃ i : Nat, i < k ∧ c = (lo + i, f (lo + i)) ∧ 0 < f (lo + i)
  | 0, c => by simp [rowsTo]
  | k + 1, c => by
    by_cases h : 0 < f (lo + k)
    · rw [rowsTo_yes h, List.mem_append, rows_mem f lo k c, List.mem_singleton]
      constructor
      · rintro (⟨i, h1, h2, h3⟩ | rfl)
        · exact ⟨i, by omega, h2, h3⟩
        · exact ⟨k, by omega, rfl, h⟩
      · rintro ⟨i, h1, h2, h3⟩
        rcases Nat.lt_or_ge i k with h4 | h4
        · exact .inl ⟨i, h4, h2, h3⟩
        · obtain rfl : i = k := by omega
          exact .inr h2
    · rw [rowsTo_no h, rows_mem f lo k c]
      constructor
      · rintro ⟨i, h1, h2, h3⟩
        exact ⟨i, by omega, h2, h3⟩
      · rintro ⟨i, h1, h2, h3⟩
        rcases Nat.lt_or_ge i k with h4 | h4
        · exact ⟨i, h4, h2, h3⟩
        · obtain rfl : i = k := by omega
          exact absurd h3 h
theorem rows_asc (f : Int → Int) (lo : Int) : ∀ k : Nat, (rowsTo f lo k).Pairwise (fun x y => x.1 < y.1)
  | 0 => by simp [rowsTo]
  | k + 1 => by
    by_cases h : 0 < f (lo + k)
    · rw [rowsTo_yes h, List.pairwise_append]
      refine ⟨rows_asc f lo k, by simp, fun x hx y hy => ?_⟩
      obtain ⟨i, h1, rfl, _⟩ := (rows_mem f lo k x).1 hx
      obtain rfl := List.mem_singleton.1 hy
      show lo + (i : Int) < lo + k
      omega
    · rw [rowsTo_no h]; exact rows_asc f lo k
theorem asc_srt {L : List (Int × Int)} (h : L.Pairwise (fun x y => x.1 < y.1)) : Srt L := h.imp (fun h => .inl h)
def neg1 (c : Int × Int) : Int × Int := (-c.1, c.2)
theorem rows_mirror {f : Int → Int} {n : Nat} (hf : ∀ t, f (-t) = f t) : rowsTo f (-(n : Int)) (2 * n + 1) = ((rowsTo f (-(n : Int)) (2 * n + 1)).map neg1).reverse := by
  refine srt_ext (asc_srt (rows_asc _ _ _)) (asc_srt ?_) (fun c => ?_)
  · rw [List.pairwise_reverse, List.pairwise_map]
    exact (rows_asc _ _ _).imp (fun {a b} h => by show -b.1 < -a.1; omega)
  · rw [List.mem_reverse, List.mem_map, rows_mem]
    constructor
    · rintro ⟨i, h1, rfl, h3⟩
      refine ⟨(-(-(n : Int) + i), f (-(n : Int) + i)), (rows_mem _ _ _ _).2 ⟨2 * n - i, by omega, ?_, ?_⟩, ?_⟩
      · have e : (-(n : Int) + ((2 * n - i : Nat) : Int)) = -(-(n : Int) + i) := by omega
        rw [e, hf]
      · have e : (-(n : Int) + ((2 * n - i : Nat) : Int)) = -(-(n : Int) + i) := by omega
        rw [e, hf]; exact h3
      · unfold neg1; simp
    · rintro ⟨c', hc', rfl⟩
      obtain ⟨i, h1, rfl, h3⟩ := (rows_mem _ _ _ _).1 hc'
      refine ⟨2 * n - i, by omega, ?_, ?_⟩
      · have e : (-(n : Int) + ((2 * n - i : Nat) : Int)) = -(-(n : Int) + i) := by omega
        rw [e, hf]; rfl
      · have e : (-(n : Int) + ((2 * n - i : Nat) : Int)) = -(-(n : Int) + i) := by omega
        rw [e, hf]; exact h3
/-! sums -/
def sumR (L : List (Int × Int)) : Int := (L.map (·.2)).sum
theorem sumR_snoc (L : List (Int × Int)) (c : Int × Int) : sumR (L ++ [c]) = sumR L + c.2 := by unfold sumR; simp
def zR (L : List (Int × Int)) : Int := L.foldl (fun z c => if c.1 = 0 then c.2 else z) 0
theorem zR_snoc (L : List (Int × Int)) (c : Int × Int) : zR (L ++ [c]) = if c.1 = 0 then c.2 else zR L := by unfold zR; simp
def sumF (f : Int → Int) (lo : Int) : Nat → Int
  | 0 => 0
  | k + 1 => sumF f lo k + f (lo + k)
theorem rows_sum {f : Int → Int} (h0 : ∀ t, 0 ≤ f t) (lo : Int) : ∀ k : Nat, sumR (rowsTo f lo k) = sumF f lo k
  | 0 => rfl
  | k + 1 => by
    by_cases h : 0 < f (lo + k)
    · rw [rowsTo_yes h, sumR_snoc, rows_sum h0 lo k]; rfl
    · rw [rowsTo_no h, rows_sum h0 lo k]
      have := h0 (lo + k)
      show sumF f lo k = sumF f lo k + f (lo + k)
      omega
theorem rows_zero {f : Int → Int} (h0 : ∀ t, 0 ≤ f t) (lo : Int) : ∀ k : Nat, zR (rowsTo f lo k) = if lo ≤ 0 ∧ 0 < lo + k then f 0 else 0
  | 0 => by rw [if_neg (by omega)]; rfl
  | k + 1 => by
    have ih := rows_zero h0 lo k
    by_cases h : 0 < f (lo + k)
    · rw [rowsTo_yes h, zR_snoc, ih]
      by_cases e : lo + (k : Int) = 0
      · rw [if_pos e, if_pos ⟨by omega, by omega⟩, e]
      · rw [if_neg e]
        by_cases g : lo ≤ 0 ∧ 0 < lo + (k : Int)
        · rw [if_pos g, if_pos ⟨by omega, by omega⟩]
        · rw [if_neg g, if_neg (by omega)]
    · rw [rowsTo_no h, ih]
      by_cases g : lo ≤ 0 ∧ 0 < lo + (k : Int)
      · rw [if_pos g, if_pos ⟨by omega, by omega⟩]
      · rw [if_neg g]
        by_cases e : lo + (k : Int) = 0
        · rw [if_pos ⟨by omega, by omega⟩]
          have := h0 0
          rw [e] at h; omega
        · rw [if_neg (by omega)]
theorem sum_one (c : Int × Int) (p lo : Int) : ∀ (k : Nat) (L : List (Int × Int)), sumF (cntT p (c :: L)) lo k = sumF (cntT p L) lo k + if lo ≤ trC p c ∧ trC p c < lo + k then 1 else 0
  | 0, L => by rw [if_neg (by omega)]; rfl
  | k + 1, L => by
    have ih := sum_one c p lo k L
    have e : cntT p (c :: L) (lo + k) = cntT p L (lo + k) + if trC p c = lo + k then 1 else 0 := by
      unfold cntT
      by_cases h : trC p c = lo + k
      · rw [List.filter_cons_of_pos (by simpa using h), if_pos h]; simp
      · rw [List.filter_cons_of_neg (by simpa using h), if_neg h]; simp
    show sumF (cntT p (c :: L)) lo k + cntT p (c :: L) (lo + k) = sumF (cntT p L) lo k + cntT p L (lo + k) + _
    rw [ih, e]
    by_cases h : trC p c = lo + k
    · rw [if_pos h, if_neg (by omega), if_pos (by omega)]; omega
    · rw [if_neg h]
      by_cases g : lo ≤ trC p c ∧ trC p c < lo + (k : Int)
      · rw [if_pos g, if_pos (by omega)]; omega
      · rw [if_neg g, if_neg (by omega)]; omega
theorem sum_all (p lo : Int) (k : Nat) : ∀ (L : List (Int × Int)), (∀ c ∈ L, lo ≤ trC p c ∧ trC p c < lo + k) → sumF (cntT p L) lo k = L.length
  | [], _ => by
    have : ∀ j : Nat, sumF (cntT p []) lo j = 0 := fun j => by
      induction j with
      | zero => rfl
      | succ j ih => show sumF (cntT p []) lo j + cntT p [] (lo + j) = 0; rw [ih]; rfl
    rw [this]; rfl
  | c :: L, h => by
    rw [sum_one, sum_all p lo k L (fun x hx => h x (by simp [hx])), if_pos (h c (by simp))]
    simp
theorem ttL_eq {p : Int} (hp : tabP p = true) : ttL p = rowsTo (cntT p (tabL p)) (-((2 * p).toNat : Int)) (2 * (2 * p).toNat + 1) := by
  have h5 := tabP_of hp
  have h1 := ttL_one hp
  unfold ttL
  rw [if_pos hp, ← h1]
  rw [show (-((2 * p).toNat : Int)) = -2 * p by omega, show 2 * (2 * p).toNat + 1 = (4 * p).toNat + 1 by omega]
theorem cnt_pos {p : Int} (t : Int) : 0 ≤ cntT p (tabL p) t := (cntT_bd p (tabL p) t).1
/-- the rows of the table: small traces, some curves each -/
theorem tt_row {p : Int} (hp : tabP p = true) {c : Int × Int} (h : c ∈ ttL p) : c.1 * c.1 ≤ 4 * p ∧ (-62 ≤ c.1 ∧ c.1 ≤ 62) ∧ 1 ≤ c.2 ∧ c.2 ≤ 961 := by
  have h5 := tabP_of hp
  rw [ttL_eq hp] at h
  obtain ⟨i, h1, rfl, h3⟩ := (rows_mem _ _ _ _).1 h
  have hb := (cntT_bd p (tabL p) (-((2 * p).toNat : Int) + i)).2
  have hl := tabL_len (p := p) (by omega)
  refine ⟨?_, ⟨by show -62 ≤ -((2 * p).toNat : Int) + i; omega, by show -((2 * p).toNat : Int) + i ≤ 62; omega⟩, h3, by show cntT p (tabL p) (-((2 * p).toNat : Int) + i) ≤ 961; omega⟩
  show (-((2 * p).toNat : Int) + i) * (-((2 * p).toNat : Int) + i) ≤ 4 * p
  generalize (-((2 * p).toNat : Int) + i) = t at h3
  have h4 : (tabL p).filter (fun c => trC p c == t) ≠ [] := by
    intro e
    unfold cntT at h3
    rw [e] at h3
    simp at h3
  obtain ⟨d, hd⟩ := List.exists_mem_of_ne_nil _ h4
  obtain ⟨m1, m2⟩ := List.mem_filter.1 hd
  have m3 : trC p d = t := by simpa using m2
  obtain ⟨a1, a2, a3⟩ := tabL_mem m1
  have := (cv_facts hp a1 a2 a3).2.2
  rw [← m3]; exact this
theorem tt_asc {p : Int} (hp : tabP p = true) (i : Nat) (h0 : 0 < i) (h : i < (ttL p).length) : ((ttL p)[i - 1]'(by omega)).1 < (ttL p)[i].1 := by
  have ha : (ttL p).Pairwise (fun x y => x.1 < y.1) := by rw [ttL_eq hp]; exact rows_asc _ _ _
  exact (List.pairwise_iff_getElem.1 ha) (i - 1) i (by omega) h (by omega)
theorem tt_mirror {p : Int} (hp : tabP p = true) (i : Nat) (h : i < (ttL p).length) :
    (ttL p)[i].1 = -((ttL p)[(ttL p).length - 1 - i]'(by omega)).1 ∧ (ttL p)[i].2 = ((ttL p)[(ttL p).length - 1 - i]'(by omega)).2 := by
  have hm : ttL p = ((ttL p).map neg1).reverse := by rw [ttL_eq hp]; exact rows_mirror (fun t => cnt_neg hp t)
  have he : (ttL p)[i] = (((ttL p).map neg1).reverse)[i]'(by simpa using h) := by
    have : (ttL p)[i]? = (((ttL p).map neg1).reverse)[i]? := by rw [← hm]
    rw [List.getElem?_eq_getElem h, List.getElem?_eq_getElem (by simpa using h)] at this
    exact Option.some.inj this
  rw [List.getElem_reverse, List.getElem_map] at he
  simp only [List.length_map] at he
  rw [he]
  exact ⟨rfl, rfl⟩
theorem tt_sum {p : Int} (hp : tabP p = true) : sumR (ttL p) = p * (p - 1) := by
  have h5 := tabP_of hp
  rw [ttL_eq hp, rows_sum (fun t => cnt_pos t)]
  rw [sum_all p _ _ (tabL p) (fun c hc => by have := tr_bd hp (c := c); omega)]
  obtain ⟨q, m, rfl, hq, _, _, hl⟩ := tab_cases hp
  rw [hl]
  rw [show ((q : Int) - 1) = ((q - 1 : Nat) : Int) by omega]
  push_cast; rfl
theorem tt_zero {p : Int} (hp : tabP p = true) : zR (ttL p) = ((cwT p 0).length : Int) := by
  have h5 := tabP_of hp
  rw [ttL_eq hp, rows_zero (fun t => cnt_pos t), if_pos (by omega)]
  unfold cwT
  rw [if_pos hp]
  rfl
theorem tt_sum_bd {p : Int} (hp : tabP p = true) : ∀ k : Nat, 0 ≤ sumR ((ttL p).take k) ∧ sumR ((ttL p).take k) ≤ k * 961 := by
  intro k
  induction k with
  | zero => simp [sumR]
  | succ k ih =>
    by_cases h : k < (ttL p).length
    · rw [List.take_succ_eq_append_getElem h, sumR_snoc]
      have := tt_row hp (List.getElem_mem h)
      omega
    · rw [List.take_of_length_le (by omega)] at ih ⊢
      omega
theorem tt_zero_bd {p : Int} (hp : tabP p = true) : ∀ k : Nat, 0 ≤ zR ((ttL p).take k) ∧ zR ((ttL p).take k) ≤ 961 := by
  intro k
  induction k with
  | zero => simp [zR]
  | succ k ih =>
    by_cases h : k < (ttL p).length
    · rw [List.take_succ_eq_append_getElem h, zR_snoc]
      have := tt_row hp (List.getElem_mem h)
      split <;> omega
    · rw [List.take_of_length_le (by omega)] at ih ⊢
      exact ih
end Go.Proofs.Ytilgeeaobdebhaa
