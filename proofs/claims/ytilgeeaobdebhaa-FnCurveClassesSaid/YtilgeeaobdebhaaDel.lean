/- Walks: slices.DeleteFunc over a table, curves with a trace or an invariant. -/
import Derived.Test.YtilgeeaobdebhaaTab
import Derived.Test.YtilgeeaobdebhaaCls
import Derived.Laws.IdiomCopy
import Derived.Shelf.Abstract
namespace Go.Proofs.Ytilgeeaobdebhaa
open Go.RowKit

abbrev at2 (L : List (Int × Int)) (i : Nat) : Int × Int := L[i]?.getD (0, 0)
/-- where i elements are kept of the first j -/
def DelR (pd : Int × Int → Bool) (L M : List (Int × Int)) (i j : Nat) : Prop := M.length = L.length ∧ i < j ∧ j ≤ L.length ∧ M.take i = (L.take j).filter (fun c => !pd c) ∧ M.drop j = L.drop j
theorem DelR.start {pd : Int × Int → Bool} {L : List (Int × Int)} {k : Nat} (hk : k < L.length) (h1 : pd (at2 L k) = true) (h0 : ∀ j, j < k → pd (at2 L j) = false) : DelR pd L L k (k + 1) := by
  have e : at2 L k = L[k] := by simp [at2, hk]
  refine ⟨rfl, by omega, by omega, ?_, rfl⟩
  rw [List.take_succ_eq_append_getElem hk, List.filter_append]
  have e2 : List.filter (fun c => !pd c) [L[k]] = [] := by rw [e] at h1; simp [h1]
  rw [e2, List.append_nil, eq_comm, List.filter_eq_self]
  intro a ha
  obtain ⟨j, hj, rfl⟩ := List.mem_take_iff_getElem.1 ha
  have := h0 j (by omega)
  have e3 : at2 L j = L[j] := by simp [at2, show j < L.length by omega]
  rw [e3] at this
  simp [this]
theorem DelR.at {pd : Int × Int → Bool} {L M : List (Int × Int)} {i j : Nat} (h : DelR pd L M i j) (hj : j < L.length) : ∃ (hm : j < M.length), M[j] = L[j] := by
  obtain ⟨h1, h2, h3, h4, h5⟩ := h
  have hm : j < M.length := by omega
  refine ⟨hm, ?_⟩
  have := congrArg (fun l => l[0]?) h5
  simpa [hm, hj] using this
theorem DelR.skip {pd : Int × Int → Bool} {L M : List (Int × Int)} {i j : Nat} (h : DelR pd L M i j) (hj : j < L.length) (hp : pd L[j] = true) : DelR pd L M i (j + 1) := by
  obtain ⟨h1, h2, h3, h4, h5⟩ := h
  refine ⟨h1, by omega, by omega, ?_, ?_⟩
  · rw [List.take_succ_eq_append_getElem hj, List.filter_append, h4]; simp [hp]
  · rw [← List.drop_drop, h5, List.drop_drop]
theorem DelR.keep {pd : Int × Int → Bool} {L M : List (Int × Int)} {i j : Nat} (h : DelR pd L M i j) (hj : j < L.length) (hp : pd L[j] = false) : DelR pd L (M.set i L[j]) (i + 1) (j + 1) := by
  obtain ⟨h1, h2, h3, h4, h5⟩ := h
  have hi : i < M.length := by omega
  refine ⟨by simpa using h1, by omega, by omega, ?_, ?_⟩
  · rw [List.take_succ_eq_append_getElem hj, List.filter_append, List.take_succ_eq_append_getElem (by simpa using hi), List.take_set_of_le (Nat.le_refl _), h4]; simp [hp]
  · rw [List.drop_set_of_lt (by omega), ← List.drop_drop, h5, List.drop_drop]
theorem DelR.done {pd : Int × Int → Bool} {L M : List (Int × Int)} {i : Nat} (h : DelR pd L M i L.length) : M.take i = L.filter (fun c => !pd c) := by
  have := h.2.2.2.1
  rwa [List.take_length] at this
theorem cellsP_set (L : List (Int × Int)) : ∀ (i : Nat) (_ : i < L.length) (c : Int × Int), cellsP (L.set i c) = ((cellsP L).set (i * 2) (.int .i64 c.1)).set (i * 2 + 1) (.int .i64 c.2) := by
  induction L with
  | nil => intro i h; simp at h
  | cons p r ih =>
    intro i h c
    cases i with
    | zero => simp [cellsP]
    | succ i =>
      have := ih i (by simpa using h) c
      rw [List.set_cons_succ, cellsP_cons, this, cellsP_cons, show (i + 1) * 2 = i * 2 + 2 by omega, show i * 2 + 2 + 1 = i * 2 + 1 + 2 by omega]
      rfl
theorem OwnsC.store {wr : World} {base g n cap i : Nat} {M : List (Int × Int)} (ho : OwnsC wr base (.slice (some ⟨g, 0, none⟩) n cap) M) (hn : n = M.length) (hi : i < n) (c : Int × Int) :
    OwnsC ((wr.setCell ⟨g, i * 2, none⟩ (.int .i64 c.1)).setCell ⟨g, i * 2 + 1, none⟩ (.int .i64 c.2)) base (.slice (some ⟨g, 0, none⟩) n cap) (M.set i c) := by
  subst hn
  unfold OwnsC OwnsP at ho ⊢
  rw [List.length_set, cellsP_set _ _ hi]
  exact own_set (own_set ho rfl _ _) rfl _ _
theorem cellsP_take (L : List (Int × Int)) : ∀ i, cellsP (L.take i) = (cellsP L).take (i * 2) := by
  induction L with
  | nil => intro i; simp [cellsP]
  | cons p r ih =>
    intro i
    cases i with
    | zero => simp [cellsP]
    | succ i =>
      rw [List.take_succ_cons, cellsP_cons, ih i, cellsP_cons, show (i + 1) * 2 = i * 2 + 2 by omega]
      rfl
theorem OwnsC.short {wr : World} {base g n cap i : Nat} {M : List (Int × Int)} (ho : OwnsC wr base (.slice (some ⟨g, 0, none⟩) n cap) M) (hn : n = M.length) (hi : i ≤ n) :
    OwnsC wr base (.slice (some ⟨g, 0, none⟩) i cap) (M.take i) := by
  subst hn
  refine ⟨by rw [cellsP_length], ?_⟩
  rcases ho.2 with ⟨h0, _⟩ | ⟨g', cap', cur, hv, hg, hh, hnc, hcm, hcs, ht⟩
  · cases h0
  · have el : (M.take i).length = i := by simp; omega
    injection hv with e1 _ e3
    injection e1 with e1
    injection e1 with e1
    subst e1 e3
    refine .inr ⟨g, _, cur, by rw [el], hg, hh, by omega, hcm, hcs, ?_⟩
    rw [el, cellsP_take, ← ht, List.take_take, Nat.min_eq_left (by omega)]
theorem setCells_own {base g n cap e size : Nat} (L : List Value) : ∀ (vs : List Value) (o k : Nat) (w : World), k ≤ o → w.ownsRow base e size (.slice (some ⟨g, 0, none⟩) n cap) n L → ∃ L', (w.setCells g o vs).ownsRow base e size (.slice (some ⟨g, 0, none⟩) n cap) n L' ∧ L'.take k = L.take k := by
  intro vs
  induction vs generalizing L with
  | nil => intro o k w _ h; exact ⟨L, h, rfl⟩
  | cons v r ih =>
    intro o k w hk h
    obtain ⟨L', h1, h2⟩ := ih (L.set o v) (o + 1) k _ (by omega) (own_set h rfl o v)
    exact ⟨L', h1, by rw [h2, List.take_set_of_le hk]⟩
theorem setCells_grown {a : World} {g : Nat} : ∀ (vs : List Value) (o : Nat) (w : World), a.grownBy w (some g) → a.grownBy (w.setCells g o vs) (some g)
  | [], _, _, h => h
  | _ :: r, o, _, h => setCells_grown r (o + 1) _ (grown_setCell h _ _)
theorem run_clearC {wr : World} {base g n cap i : Nat} {M : List (Int × Int)} (ho : OwnsC wr base (.slice (some ⟨g, 0, none⟩) n cap) M) (hn : n = M.length) (hi : i < n) (c : Nat) :
    ∃ w', (∀ ty, (Builtin.clear_ #[28] ty #[.slice (some ⟨g, i * 2, none⟩) (n - i) c]).run Try.prog wr = .ok (.tuple #[]) w') ∧ OwnsC w' base (.slice (some ⟨g, 0, none⟩) i cap) (M.take i) ∧ wr.grownBy w' (some g) := by
  subst hn
  have hv := Try.zeroValue38
  have hz : (Builtin.zeroCells (Value.agg #[.int .i64 0, .int .i64 0]).cells (M.length - i)).toList.length = (M.length - i) * 2 := by
    simp [Builtin.zeroCells, Value.cells]
  have h1 : ∀ v ∈ (Builtin.zeroCells (Value.agg #[.int .i64 0, .int .i64 0]).cells (M.length - i)).toList, v.oneCell' = true := by
    intro v hv
    simp [Builtin.zeroCells, Value.cells] at hv
    obtain ⟨x, _, rfl⟩ := hv
    rcases Nat.mod_two_eq_zero_or_one x with h | h <;> rw [h] <;> rfl
  have ht : Try.prog.underlying 28 = some (.slice 38) := Try.underlying28
  obtain ⟨a, cap', hv', hf⟩ := OwnsP.form ho
  obtain ⟨rfl, rfl⟩ : a = some ⟨g, 0, none⟩ ∧ cap = cap' := by simp only [Value.slice.injEq] at hv'; exact ⟨hv'.1.symm, hv'.2.2⟩
  clear hv'
  generalize hzs : (Builtin.zeroCells (Value.agg #[.int .i64 0, .int .i64 0]).cells (M.length - i)).toList = zs at hz h1
  have hcell : ∀ j, j < zs.length → (wr.cell? ⟨g, i * 2 + j, none⟩).isSome = true := by
    intro j hj
    obtain ⟨g', e, q1, q2, _⟩ := hf ((i * 2 + j) / 2) (by omega)
    obtain rfl : g = g' := by simpa using e
    rcases Nat.mod_two_eq_zero_or_one (i * 2 + j) with hm | hm
    · rw [show i * 2 + j = (i * 2 + j) / 2 * 2 by omega, q1]; rfl
    · rw [show i * 2 + j = (i * 2 + j) / 2 * 2 + 1 by omega, q2]; rfl
  have hfr : ∀ j, j < zs.length → wr.frozen? ⟨g, i * 2 + j, none⟩ = false := by
    intro j hj
    obtain ⟨g', e, _, _, q3, _⟩ := hf i hi
    obtain rfl : g = g' := by simpa using e
    exact q3 _
  have hst := run_storeCells_cells (P := Try.prog) g (i * 2) zs 0 wr (by simpa using hcell) (by simpa using hfr) h1
  simp only [Nat.add_zero] at hst
  obtain ⟨L', o1, o2⟩ := setCells_own (cellsP M) zs (i * 2) (i * 2) wr (Nat.le_refl _) ho
  refine ⟨wr.setCells g (i * 2) zs, fun ty => ?_, ?_, setCells_grown _ _ _ ⟨rfl, rfl, rfl, Nat.le_refl _, fun _ _ _ => rfl⟩⟩
  · obtain ⟨m, hm⟩ : ∃ m, M.length - i = m + 1 := ⟨M.length - i - 1, by omega⟩
    rw [hm] at hzs ⊢
    simp [Builtin.clear_, run_underlying ht, hv, hzs, hst]
  · refine ⟨by rw [cellsP_length], ?_⟩
    have el : (M.take i).length = i := by simp; omega
    rcases o1.2 with ⟨h0, _⟩ | ⟨g', cap', cur, hv, hg, hh, hnc, hcm, hcs, ht⟩
    · cases h0
    · injection hv with e1 _ e3
      injection e1 with e1
      injection e1 with e1
      subst e1 e3
      refine .inr ⟨g, _, cur, by rw [el], hg, hh, by omega, hcm, hcs, ?_⟩
      rw [el, cellsP_take, ← o2, ← ht, List.take_take, Nat.min_eq_left (by omega)]
/-- what a closure over two ints says of each element -/
def Says (G : Nat) (b1 b2 : Nat) (p t : Int) (pd : Int × Int → Bool) (L : List (Int × Int)) : Prop := ∀ (W : World) (x y : Int), (x, y) ∈ L → Blk b1 #[.int .i64 p] 3 W → Blk b2 #[.int .i64 t] 3 W →
  Calls Try.prog G #[.agg #[.int .i64 x, .int .i64 y], .pointer (some ⟨b1, 0, none⟩), .pointer (some ⟨b2, 0, none⟩)] W fun e w' => e = .returned (.bool (pd (x, y))) ∧ Below W.heap.size W w'
set_option maxHeartbeats 1000000 in
theorem c_indexF (G : Nat) (eg : ∀ args w, (callFunc G args).run Try.prog w = .ok (.enter G args) w) (b1 b2 : Nat) (p t : Int) (pd : Int × Int → Bool) (base : Nat) (v : Value) (L : List (Int × Int)) (hL : L.length ≤ 100000) (w : World)
    (hs : Says G b1 b2 p t pd L) (h1 : Blk b1 #[.int .i64 p] 3 w) (h2 : Blk b2 #[.int .i64 t] 3 w) (hown : OwnsC w base v L) :
    Calls Try.prog 71 #[v, .func (.func G) #[] #[.pointer (some ⟨b1, 0, none⟩), .pointer (some ⟨b2, 0, none⟩)]] w fun e w' => ∃ r : Int, e = .returned (.int .i64 r) ∧ ((r = -1 ∧ ∀ j, j < L.length → pd (at2 L j) = false) ∨ ∃ k : Nat, k < L.length ∧ r = k ∧ pd (at2 L k) = true ∧ ∀ j, j < k → pd (at2 L j) = false) ∧ Below w.heap.size w w' := by
  obtain ⟨a, cap, rfl, hform⟩ := OwnsP.form hown
  have HF := Lib.hid hform
  have HS := Lib.hid hs
  clear hform hown hs
  go_enter Try.func71, Try.ntmps71
  go_wp2
  go_loopw [8] (fun i wr => ∃ k : Nat, k ≤ L.length ∧ i = .int .i64 k ∧ Hid (∀ j, j < k → pd (at2 L j) = false) ∧ Below w.heap.size w wr) (fun i _ => L.length - (intOf i).toNat)
  case atStart => exact ⟨0, Nat.zero_le _, rfl, fun j hj => by omega, Below.refl _ _⟩
  case round =>
    obtain ⟨k, hk, rfl, HN, hb⟩ := hrel
    have hsz := hb.size
    by_cases hlt : k < L.length
    · obtain ⟨g, rfl, q1, q2, _, hg, _⟩ := HF.out k hlt
      have d1 : wr.cell? ⟨g, k * 2, none⟩ = _ := (hb.cell (p := ⟨g, k * 2, none⟩) hg).trans q1
      have d2 : wr.cell? ⟨g, k * 2 + 1, none⟩ = _ := (hb.cell (p := ⟨g, k * 2 + 1, none⟩) hg).trans q2
      have HM : Hid (L[k] ∈ L) := List.getElem_mem hlt
      have HA : Hid (at2 L k = L[k]) := by show _ = _; simp [at2, hlt]
      clear q1 q2
      generalize L[k] = c at d1 d2 HM HA
      obtain ⟨x, y⟩ := c
      have hc := HS.out wr x y HM.out (h1.next hb) (h2.next hb)
      cases hq : pd (x, y)
      · rw [hq] at hc
        have HC := Lib.hid hc
        clear hc
        go_wp2_with (go_at_fn G; refine HC.out.mono ?_; rintro e w2 ⟨rfl, hb2⟩)
        have hb3 := below_step hb2 hsz hb
        go_roundw
        case rel =>
          refine ⟨k + 1, by omega, by go_num, ?_, hb3⟩
          intro j hj
          rcases Nat.lt_or_ge j k with h | h
          · exact HN.out j h
          · obtain rfl : j = k := by omega
            rw [HA.out, hq]
        case measure => simp [intOf]; omega
      · rw [hq] at hc
        have HC := Lib.hid hc
        clear hc
        go_wp2_with (go_at_fn G; refine HC.out.mono ?_; rintro e w2 ⟨rfl, hb2⟩)
        have hb3 := below_step hb2 hsz hb
        go_ret
        exact ⟨_, rfl, .inr ⟨k, hlt, rfl, by rw [HA.out, hq], HN.out⟩, hb3⟩
    · obtain rfl : k = L.length := by omega
      go_wp2
      go_ret
      exact ⟨_, rfl, .inl ⟨rfl, HN.out⟩, hb⟩
set_option maxHeartbeats 2000000 in
theorem c_deleteF (G : Nat) (eg : ∀ args w, (callFunc G args).run Try.prog w = .ok (.enter G args) w) (b1 b2 : Nat) (p t : Int) (pd : Int × Int → Bool) (base : Nat) (v : Value) (L : List (Int × Int)) (hL : L.length ≤ 100000) (w : World)
    (hs : Says G b1 b2 p t pd L) (h1 : Blk b1 #[.int .i64 p] 3 w) (h2 : Blk b2 #[.int .i64 t] 3 w) (hl1 : b1 < base) (hl2 : b2 < base) (hown : OwnsC w base v L) :
    Calls Try.prog 45 #[v, .func (.func G) #[] #[.pointer (some ⟨b1, 0, none⟩), .pointer (some ⟨b2, 0, none⟩)]] w fun e w' => ∃ v', e = .returned v' ∧ OwnsC w' base v' (L.filter fun c => !pd c) ∧ w.grownBy w' v.ownBlock := by
  have hi := fun W => c_indexF G eg b1 b2 p t pd base v L hL W hs
  have HI := Lib.hid (hi w h1 h2 hown)
  have HS := Lib.hid hs
  clear hi hs
  obtain ⟨a, cap, rfl, hform⟩ := OwnsP.form hown
  have HF := Lib.hid hform
  clear hform
  go_enter Try.func45, Try.ntmps45
  go_wp2_with fail
  refine HI.out.mono ?_
  rintro e w1 ⟨r, rfl, hr, hb1⟩
  clear HI
  have hown := OwnsP.below hown hb1
  have k1 := h1.next hb1
  have k2 := h2.next hb1
  have hg1 : w.grownBy w1 (Value.slice a L.length cap).ownBlock := ⟨hb1.os, hb1.tape, hb1.output, hb1.size, fun k hk _ => hb1.block k hk⟩
  rcases hr with ⟨rfl, hall⟩ | ⟨k, hk, rfl, hp, hno⟩
  · have e : (L.filter fun c => !pd c) = L := by
      rw [List.filter_eq_self]
      intro c hc
      obtain ⟨j, hj, rfl⟩ := List.mem_iff_getElem.1 hc
      have := hall j hj
      have e3 : at2 L j = L[j] := by simp [at2, hj]
      rw [e3] at this
      simp [this]
    have E := Lib.hid e
    clear hall e
    go_wp2
    go_ret
    rw [E.out]
    exact ⟨_, rfl, hown, hg1⟩
  · obtain ⟨g, rfl, _, _, _, hg, hgb⟩ := HF.out k hk
    have HD := Lib.hid (DelR.start hk hp hno)
    clear hp hno HF
    have hsz := hb1.size
    clear h1 h2
    go_wp2
    go_loopw [5, 6, 7] (fun ii jj _ wr => ∃ (i j : Nat) (M : List (Int × Int)), ii = .int .i64 i ∧ jj = .int .i64 j ∧ (i < j ∧ j ≤ L.length ∧ M.length = L.length) ∧ Hid (DelR pd L M i j) ∧ OwnsC wr base (.slice (some ⟨g, 0, none⟩) L.length cap) M ∧ Blk b1 #[.int .i64 p] 3 wr ∧ Blk b2 #[.int .i64 t] 3 wr ∧ w.grownBy wr (some g)) (fun _ jj _ _ => L.length - (intOf jj).toNat)
    case atStart => exact ⟨k, k + 1, L, rfl, by go_num, ⟨by omega, by omega, rfl⟩, HD, hown, k1, k2, hg1⟩
    case round =>
      clear hown k1 k2 hg1 HD hb1
      obtain ⟨i, j, M, rfl, rfl, ⟨hij, hj, hM⟩, HD, ho, k1, k2, hgr⟩ := hrel
      have hsr := hgr.size
      by_cases hlt : j < L.length
      · obtain ⟨a', cap', hv', hf⟩ := OwnsP.form ho
        rw [hM] at hv'
        obtain ⟨rfl, rfl⟩ : a' = some ⟨g, 0, none⟩ ∧ cap = cap' := by simp only [Value.slice.injEq] at hv'; exact ⟨hv'.1.symm, hv'.2.2⟩
        obtain ⟨hm, he⟩ := HD.out.at hlt
        obtain ⟨g', e1, q1, q2, _, hgs, _⟩ := hf j hm
        obtain rfl : g = g' := by simpa using e1
        rw [he] at q1 q2
        obtain ⟨_, e2, r1, r2, _⟩ := hf i (by omega)
        have e3 := Option.some.inj e2
        injection e3 with e3
        subst e3
        clear hv' hf e1 e2 he hm
        have HM : Hid (L[j] ∈ L) := List.getElem_mem hlt
        have HK : Hid (pd L[j] = false → DelR pd L (M.set i L[j]) (i + 1) (j + 1)) := fun h => HD.out.keep hlt h
        have HN : Hid (pd L[j] = true → DelR pd L M i (j + 1)) := fun h => HD.out.skip hlt h
        generalize L[j] = c at q1 q2 HM HK HN
        generalize (M[i]'(by omega)) = old at r1 r2
        obtain ⟨x, y⟩ := c
        obtain ⟨u, v⟩ := old
        have hc := fun W => HS.out W x y HM.out
        cases hq : pd (x, y)
        · simp only [hq] at hc
          have HC := Lib.hid hc
          clear hc
          go_wp2_with fail
          go_at_fn G
          refine (HC.out _ (k1.alloc _) (k2.alloc _)).mono ?_
          rintro e w2 ⟨rfl, hb2⟩
          have ho2 := OwnsP.below (OwnsP.below ho (Below.alloc (Below.refl _ _) (Nat.le_refl _) _)) hb2
          have k12 := (k1.alloc _).next hb2
          have k22 := (k2.alloc _).next hb2
          have c0 := ((Blk.new wr #[.int .i64 x, .int .i64 y] 38).next hb2)
          have hbb : Below wr.heap.size wr w2 := below_step hb2 (by simp) ((Below.refl _ _).alloc (Nat.le_refl _) _)
          obtain ⟨hc2, hf2⟩ := bcell hbb
          have s1 := (hc2 g (i * 2) hgs).trans r1
          have s2 := (hc2 g (i * 2 + 1) hgs).trans r2
          have hg2 : w.grownBy w2 (some g) := ⟨hbb.os.trans hgr.os, hbb.tape.trans hgr.tape, hbb.output.trans hgr.output, Nat.le_trans hgr.size hbb.size, fun q hq hn => (hbb.block q (Nat.lt_of_lt_of_le hq hgr.size)).trans (hgr.block q hq hn)⟩
          obtain ⟨a', cap', hv', hf⟩ := OwnsP.form ho2
          rw [hM] at hv'
          obtain ⟨rfl, rfl⟩ : a' = some ⟨g, 0, none⟩ ∧ cap = cap' := by simp only [Value.slice.injEq] at hv'; exact ⟨hv'.1.symm, hv'.2.2⟩
          obtain ⟨_, e2, _, _, r3, _⟩ := hf i (by omega)
          have e3 := Option.some.inj e2
          injection e3 with e3
          subst e3
          have f1 := r3 (i * 2)
          have f2 := r3 (i * 2 + 1)
          have ho3 := OwnsC.store ho2 hM.symm (show i < L.length by omega) (x, y)
          have k13 := (k12.far (p := ⟨g, i * 2, none⟩) (by show b1 ≠ g; omega) (.int .i64 x)).far (p := ⟨g, i * 2 + 1, none⟩) (by show b1 ≠ g; omega) (.int .i64 y)
          have k23 := (k22.far (p := ⟨g, i * 2, none⟩) (by show b2 ≠ g; omega) (.int .i64 x)).far (p := ⟨g, i * 2 + 1, none⟩) (by show b2 ≠ g; omega) (.int .i64 y)
          have hg3 := grown_setCell (grown_setCell hg2 (i * 2) (.int .i64 x)) (i * 2 + 1) (.int .i64 y)
          have HR := Lib.hid (And.intro ho3 (And.intro k13 (And.intro k23 hg3)))
          clear ho3 k13 k23 hg3 hf hv' e2 r3 hf2
          have c00 : (w2).cell? ⟨wr.heap.size, 0, none⟩ = some (.int .i64 x) := c0.cell 0; have c01 : (w2).cell? ⟨wr.heap.size, 1, none⟩ = some (.int .i64 y) := c0.cell 1; have c0l : wr.heap.size < (w2).heap.size := c0.lt
          clear q1 q2 r1 r2 hc2
          go_wp2
          go_roundw
          case rel =>
            refine ⟨_, _, _, _, _, _, _, _, _, _, _, _, _, _, _, _, _, _, _, _, _, _, _, ?_, rfl⟩
            exact ⟨i + 1, j + 1, M.set i (x, y), by go_num, by go_num, ⟨by omega, by omega, by simpa using hM⟩, HK.out hq, HR.out.1, HR.out.2.1, HR.out.2.2.1, HR.out.2.2.2⟩
          case measure => simp [intOf]; omega
        · simp only [hq] at hc
          have HC := Lib.hid hc
          clear hc
          go_wp2_with fail
          go_at_fn G
          refine (HC.out _ (k1.alloc _) (k2.alloc _)).mono ?_
          rintro e w2 ⟨rfl, hb2⟩
          have ho2 := OwnsP.below (OwnsP.below ho (Below.alloc (Below.refl _ _) (Nat.le_refl _) _)) hb2
          have k12 := (k1.alloc _).next hb2
          have k22 := (k2.alloc _).next hb2
          have hbb : Below wr.heap.size wr w2 := below_step hb2 (by simp) ((Below.refl _ _).alloc (Nat.le_refl _) _)
          have hg2 : w.grownBy w2 (some g) := ⟨hbb.os.trans hgr.os, hbb.tape.trans hgr.tape, hbb.output.trans hgr.output, Nat.le_trans hgr.size hbb.size, fun q hq hn => (hbb.block q (Nat.lt_of_lt_of_le hq hgr.size)).trans (hgr.block q hq hn)⟩
          go_wp2
          go_roundw
          case rel =>
            refine ⟨_, _, _, _, _, _, _, _, _, _, _, _, _, _, _, _, _, _, _, _, _, _, _, ?_, rfl⟩
            exact ⟨i, j + 1, M, rfl, by go_num, ⟨by omega, by omega, hM⟩, HN.out hq, ho2, k12, k22, hg2⟩
          case measure => simp [intOf]; omega
      · obtain rfl : j = L.length := by omega
        obtain ⟨w3, hcl, ho3, hg3⟩ := run_clearC ho hM.symm hij (cap - i)
        rw [HD.out.done] at ho3
        have hcap : L.length ≤ cap := by
          rcases ho.2 with ⟨h0, _⟩ | ⟨g', cap', cur, hv, _, _, hnc, _⟩
          · cases h0
          · simp only [Value.slice.injEq] at hv; omega
        have hg4 : w.grownBy w3 (some g) := ⟨hg3.os.trans hgr.os, hg3.tape.trans hgr.tape, hg3.output.trans hgr.output, Nat.le_trans hgr.size hg3.size, fun q hq hn => (hg3.block q (Nat.lt_of_lt_of_le hq hgr.size) hn).trans (hgr.block q hq hn)⟩
        go_wp2
        go_ret
        exact ⟨_, rfl, ho3, hg4⟩
end Go.Proofs.Ytilgeeaobdebhaa
