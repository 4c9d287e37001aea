/- Walks: slices.DeleteFunc over a table, curves with a trace or an invariant. -/
import Derived.Test.YtidnifogjeaigaaTab
import Derived.Test.YtidnifogjeaigaaCls
import Derived.Laws.IdiomCopy
import Derived.Shelf.Abstract
namespace Go.Proofs.Ytidnifogjeaigaa
open Go.RowKit

abbrev at2 (L : List (Int × Int)) (i : Nat) : Int × Int := L[i]?.getD (0, 0)
/-- where i elements are kept of the first j -/
def DelR (pd : Int × Int → Bool) (L M : List (Int × Int)) (i j : Nat) : Prop := M.length = L.length ∧ i < j ∧ j ≤ L.length ∧ M.take i = (L.take j).filter (fun c => !pd c) ∧ M.drop j = L.drop j
theorem DelR.start {pd : Int × Int → Bool} {L : List (Int × Int)} {k : Nat} (hk : k < L.length) (h1 : pd (at2 L k) = true) (h0 : ∀ j, j < k → pd (at2 L j) = false) : DelR pd L L k (k + 1) := by
  have e : at2 L k = L[k] := by simp [at2, hk]
  refine ⟨rfl, by omega, by omega, ?_, rfl⟩
  rw [List.take_succ_eq_append_getElem hk, List.filter_append]
  have e2 : List.filter (fun c => !pd c) [L[k]] = [] := by rw [e] at h1; simp [h1]
  rw [e2, List.append_nil, eq_comm, List.filter_eq_self]
  intro a ha
  obtain ⟨j, hj, rfl⟩ := List.mem_take_iff_getElem.1 ha
  have := h0 j (by omega)
  have e3 : at2 L j = L[j] := by simp [at2, show j < L.length by omega]
  rw [e3] at this
  simp [this]
theorem DelR.at {pd : Int × Int → Bool} {L M : List (Int × Int)} {i j : Nat} (h : DelR pd L M i j) (hj : j < L.length) : ∃ (hm : j < M.length), M[j] = L[j] := by
  obtain ⟨h1, h2, h3, h4, h5⟩ := h
  have hm : j < M.length := by omega
  refine ⟨hm, ?_⟩
  have := congrArg (fun l => l[0]?) h5
  simpa [hm, hj] using this
theorem DelR.skip {pd : Int × Int → Bool} {L M : List (Int × Int)} {i j : Nat} (h : DelR pd L M i j) (hj : j < L.length) (hp : pd L[j] = true) : DelR pd L M i (j + 1) := by
  obtain ⟨h1, h2, h3, h4, h5⟩ := h
  refine ⟨h1, by omega, by omega, ?_, ?_⟩
  · rw [List.take_succ_eq_append_getElem hj, List.filter_append, h4]; simp [hp]
  · rw [← List.drop_drop, h5, List.drop_drop]
theorem DelR.keep {pd : Int × Int → Bool} {L M : List (Int × Int)} {i j : Nat} (h : DelR pd L M i j) (hj : j < L.length) (hp : pd L[j] = false) : DelR pd L (M.set i L[j]) (i + 1) (j + 1) := by
  obtain ⟨h1, h2, h3, h4, h5⟩ := h
  have hi : i < M.length := by omega
  refine ⟨by simpa using h1, by omega, by omega, ?_, ?_⟩
  · rw [List.take_succ_eq_append_getElem hj, List.filter_append, List.take_succ_eq_append_getElem (by simpa using hi), List.take_set_of_le (Nat.le_refl _), h4]; simp [hp]
  · rw [List.drop_set_of_lt (by omega), ← List.drop_drop, h5, List.drop_drop]
theorem DelR.done {pd : Int × Int → Bool} {L M : List (Int × Int)} {i : Nat} (h : DelR pd L M i L.length) : M.take i = L.filter (fun c => !pd c) := by
  have := h.2.2.2.1
  rwa [List.take_length] at this
theorem cellsP_set (L : List (Int × Int)) : ∀ (i : Nat) (_ : i < L.length) (c : Int × Int), cellsP (L.set i c) = ((cellsP L).set (i * 2) (.int .i64 c.1)).set (i * 2 + 1) (.int .i64 c.2) := by
  induction L with
  | nil => intro i h; simp at h
  | cons p r ih =>
    intro i h c
    cases i with
    | zero => simp [cellsP]
    | succ i =>
      have := ih i (by simpa using h) c
      rw [List.set_cons_succ, cellsP_cons, this, cellsP_cons, show (i + 1) * 2 = i * 2 + 2 by omega, show i * 2 + 2 + 1 = i * 2 + 1 + 2 by omega]
      rfl
theorem OwnsC.store {wr : World} {base g n cap i : Nat} {M : List (Int × Int)} (ho : OwnsC wr base (.slice (some ⟨g, 0, none⟩) n cap) M) (hn : n = M.length) (hi : i < n) (c : Int × Int) :
    OwnsC ((wr.setCell ⟨g, i * 2, none⟩ (.int .i64 c.1)).setCell ⟨g, i * 2 + 1, none⟩ (.int .i64 c.2)) base (.slice (some ⟨g, 0, none⟩) n cap) (M.set i c) := by
  subst hn
  unfold OwnsC OwnsP at ho ⊢
  rw [List.length_set, cellsP_set _ _ hi]
  exact own_set (own_set ho rfl _ _) rfl _ _
theorem cellsP_take (L : List (Int × Int)) : ∀ i, cellsP (L.take i) = (cellsP L).take (i * 2) := by
  induction L with
  | nil => intro i; simp [cellsP]
  | cons p r ih =>
    intro i
    cases i with
    | zero => simp [cellsP]
    | succ i =>
      rw [List.take_succ_cons, cellsP_cons, ih i, cellsP_cons, show (i + 1) * 2 = i * 2 + 2 by omega]
      rfl
theorem OwnsC.short {wr : World} {base g n cap i : Nat} {M : List (Int × Int)} (ho : OwnsC wr base (.slice (some ⟨g, 0, none⟩) n cap) M) (hn : n = M.length) (hi : i ≤ n) :
    OwnsC wr base (.slice (some ⟨g, 0, none⟩) i cap) (M.take i) := by
  subst hn
  refine ⟨by rw [cellsP_length], ?_⟩
  rcases ho.2 with ⟨h0, _⟩ | ⟨g', cap', cur, hv, hg, hh, hnc, hcm, hcs, ht⟩
  · cases h0
  · have el : (M.take i).length = i := by simp; omega
    injection hv with e1 _ e3
    injection e1 with e1
    injection e1 with e1
    subst e1 e3
    refine .inr ⟨g, _, cur, by rw [el], hg, hh, by omega, hcm, hcs, ?_⟩
    rw [el, cellsP_take, ← ht, List.take_take, Nat.min_eq_left (by omega)]
theorem setCells_own {base g n cap e size : Nat} (L : List Value) : ∀ (vs : List Value) (o k : Nat) (w : World), k ≤ o → w.ownsRow base e size (.slice (some ⟨g, 0, none⟩) n cap) n L → ∃ L', (w.setCells g o vs).ownsRow base e size (.slice (some ⟨g, 0, none⟩) n cap) n L' ∧ L'.take k = L.take k := by
  intro vs
  induction vs generalizing L with
  | nil => intro o k w _ h; exact ⟨L, h, rfl⟩
  | cons v r ih =>
    intro o k w hk h
    obtain ⟨L', h1, h2⟩ := ih (L.set o v) (o + 1) k _ (by omega) (own_set h rfl o v)
    exact ⟨L', h1, by rw [h2, List.take_set_of_le hk]⟩
theorem setCells_grown {a : World} {g : Nat} : ∀ (vs : List Value) (o : Nat) (w : World), a.grownBy w (some g) → a.grownBy (w.setCells g o vs) (some g)
  | [], _, _, h => h
  | _ :: r, o, _, h => setCells_grown r (o + 1) _ (grown_setCell h _ _)
theorem run_clearC {wr : World} {base g n cap i : Nat} {M : List (Int × Int)} (ho : OwnsC wr base (.slice (some ⟨g, 0, none⟩) n cap) M) (hn : n = M.length) (hi : i < n) (c : Nat) :
    ∃ w', (∀ ty, (Builtin.clear_ #[32] ty #[.slice (some ⟨g, i * 2, none⟩) (n - i) c]).run Try.prog wr = .ok (.tuple #[]) w') ∧ OwnsC w' base (.slice (some ⟨g, 0, none⟩) i cap) (M.take i) ∧ wr.grownBy w' (some g) := by
  subst hn
  have hv := Try.zeroValue35
  have hz : (Builtin.zeroCells (Value.agg #[.int .i64 0, .int .i64 0]).cells (M.length - i)).toList.length = (M.length - i) * 2 := by
    simp [Builtin.zeroCells, Value.cells]
  have h1 : ∀ v ∈ (Builtin.zeroCells (Value.agg #[.int .i64 0, .int .i64 0]).cells (M.length - i)).toList, v.oneCell' = true := by
    intro v hv
    simp [Builtin.zeroCells, Value.cells] at hv
    obtain ⟨x, _, rfl⟩ := hv
    rcases Nat.mod_two_eq_zero_or_one x with h | h <;> rw [h] <;> rfl
  have ht : Try.prog.underlying 32 = some (.slice 35) := Try.underlying32
  obtain ⟨a, cap', hv', hf⟩ := OwnsP.form ho
  obtain ⟨rfl, rfl⟩ : a = some ⟨g, 0, none⟩ ∧ cap = cap' := by simp only [Value.slice.injEq] at hv'; exact ⟨hv'.1.symm, hv'.2.2⟩
  clear hv'
  generalize hzs : (Builtin.zeroCells (Value.agg #[.int .i64 0, .int .i64 0]).cells (M.length - i)).toList = zs at hz h1
  have hcell : ∀ j, j < zs.length → (wr.cell? ⟨g, i * 2 + j, none⟩).isSome = true := by
    intro j hj
    obtain ⟨g', e, q1, q2, _⟩ := hf ((i * 2 + j) / 2) (by omega)
    obtain rfl : g = g' := by simpa using e
    rcases Nat.mod_two_eq_zero_or_one (i * 2 + j) with hm | hm
    · rw [show i * 2 + j = (i * 2 + j) / 2 * 2 by omega, q1]; rfl
    · rw [show i * 2 + j = (i * 2 + j) / 2 * 2 + 1 by omega, q2]; rfl
  have hfr : ∀ j, j < zs.length → wr.frozen? ⟨g, i * 2 + j, none⟩ = false := by
    intro j hj
    obtain ⟨g', e, _, _, q3, _⟩ := hf i hi
    obtain rfl : g = g' := by simpa using e
    exact q3 _
  have hst := run_storeCells_cells (P := Try.prog) g (i * 2) zs 0 wr (by simpa using hcell) (by simpa using hfr) h1
  simp only [Nat.add_zero] at hst
  obtain ⟨L', o1, o2⟩ := setCells_own (cellsP M) zs (i * 2) (i * 2) wr (Nat.le_refl _) ho
  refine ⟨wr.setCells g (i * 2) zs, fun ty => ?_, ?_, setCells_grown _ _ _ ⟨rfl, rfl, rfl, Nat.le_refl _, fun _ _ _ => rfl⟩⟩
  · obtain ⟨m, hm⟩ : ∃ m, M.length - i = m + 1 := ⟨M.length - i - 1, by omega⟩
    rw [hm] at hzs ⊢
    simp [Builtin.clear_, run_underlying ht, hv, hzs, hst]
  · refine ⟨by rw [cellsP_length], ?_⟩
    have el : (M.take i).length = i := by simp; omega
    rcases o1.2 with ⟨h0, _⟩ | ⟨g', cap', cur, hv, hg, hh, hnc, hcm, hcs, ht⟩
    · cases h0
    · injection hv with e1 _ e3
      injection e1 with e1
      injection e1 with e1
      subst e1 e3
      refine .inr ⟨g, _, cur, by rw [el], hg, hh, by omega, hcm, hcs, ?_⟩
      rw [el, cellsP_take, ← o2, ← ht, List.take_take, Nat.min_eq_left (by omega)]
/-- what a closure over two ints says of each element -/
def Says (G : Nat) (b1 b2 : Nat) (p t : Int) (pd : Int × Int → Bool) (L : List (Int × Int)) : Prop := ∀ (W : World) (x y : Int), (x, y) ∈ L → Blk b1 #[.int .i64 p] 3 W → Blk b2 #[.int .i64 t] 3 W →
  Calls Try.prog G #[.agg #[.int .i64 x, .int .i64 y], .pointer (some ⟨b1, 0, none⟩), .pointer (some ⟨b2, 0, none⟩)] W fun e w' => e = .returned (.bool (pd (x, y))) ∧ Below W.heap.size W w'
end Go.Proofs.Ytidnifogjeaigaa
