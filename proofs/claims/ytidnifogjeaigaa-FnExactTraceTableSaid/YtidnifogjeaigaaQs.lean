/- Slices of slices of two ints that a call makes itself: the predicate, append, eq, mark, held. -/
import Derived.Test.YtidnifogjeaigaaEqI
import Derived.Test.YtidnifogjeaigaaPairPlain
import Derived.Test.YtidnifogjeaigaaChain
namespace Go.Proofs.Ytidnifogjeaigaa
open Go.RowKit

theorem Try.infoQ : (Try.prog.info? 40).map (fun i => (i.zero, i.size, i.bytes)) = some (some (.slice none 0 0), 1, 24) := by kernel_rfl
def hdQ (gs : List Nat) : List Value := gs.map fun g => Value.slice (some ⟨g, 0, none⟩) 2 2
/-- the inner blocks gs hold the pairs L -/
structure InnQ (w : World) (base : Nat) (gs : List Nat) (L : List (Int × Int)) : Prop where
  len : gs.length = L.length
  nodup : gs.Nodup
  ge : ∀ g ∈ gs, base ≤ g
  blk : ∀ i (h : i < gs.length) (h' : i < L.length), Blk gs[i] #[.int .i64 L[i].1, .int .i64 L[i].2] 3 w
def OwnsQ (w : World) (base : Nat) (v : Value) (gs : List Nat) (L : List (Int × Int)) : Prop := w.ownsRow base 40 1 v gs.length (hdQ gs) ∧ InnQ w base gs L
theorem OwnsQ.nil (w : World) (base : Nat) : OwnsQ w base (.slice none 0 0) [] [] := ⟨World.ownsRow_nil _ _ _ _, ⟨rfl, List.nodup_nil, fun g hg => by simp at hg, fun i h => by simp at h⟩⟩
theorem row_below {w w1 : World} {base size n : Nat} {e : TypeId} {v : Value} {xs : List Value} (h : w.ownsRow base e size v n xs) (hb : Below w.heap.size w w1) : w1.ownsRow base e size v n xs := by
  refine ⟨h.1, ?_⟩
  rcases h.2 with h0 | ⟨g, cap, cur, hv, hg, hh, r⟩
  · exact .inl h0
  · exact .inr ⟨g, cap, cur, hv, hg, (hb.block g (Array.getElem?_eq_some_iff.1 hh).1).trans hh, r⟩
theorem OwnsQ.below {w w1 : World} {base : Nat} {v : Value} {gs : List Nat} {L : List (Int × Int)} (h : OwnsQ w base v gs L) (hb : Below w.heap.size w w1) : OwnsQ w1 base v gs L :=
  ⟨row_below h.1 hb, h.2.len, h.2.nodup, h.2.ge, fun i h1 h2 => Blk.closed _ _ _ _ _ (h.2.blk i h1 h2) hb⟩
theorem OwnsQ.le {w : World} {base base' : Nat} {v : Value} {gs : List Nat} {L : List (Int × Int)} (h : OwnsQ w base v gs L) (hb : base' ≤ base) : OwnsQ w base' v gs L :=
  ⟨⟨h.1.1, h.1.2.elim Or.inl (fun ⟨g, cap, cur, hv, hg, r⟩ => Or.inr ⟨g, cap, cur, hv, Nat.le_trans hb hg, r⟩)⟩, h.2.len, h.2.nodup, fun g hg => Nat.le_trans hb (h.2.ge g hg), h.2.blk⟩
/-- the outer block is no inner one: their types differ -/
theorem OwnsQ.apart {w : World} {base : Nat} {v : Value} {gs : List Nat} {L : List (Int × Int)} (h : OwnsQ w base v gs L) : ∀ g ∈ gs, v.ownBlock ≠ some g := by
  intro g hg e
  obtain ⟨i, hi, rfl⟩ := List.mem_iff_getElem.1 hg
  have hk := h.2.blk i hi (by rw [← h.2.len]; exact hi)
  rcases h.1.2 with ⟨hv, _⟩ | ⟨g', cap, cur, hv, _, hh, _⟩
  · rw [hv] at e; cases e
  · rw [hv] at e
    have e' : g' = gs[i] := by simpa [Value.ownBlock] using e
    rw [e'] at hh
    unfold Blk at hk
    rw [hh] at hk
    simp at hk
theorem InnQ.grown {w w1 : World} {base : Nat} {gs : List Nat} {L : List (Int × Int)} {row : Option Nat} (h : InnQ w base gs L) (hg : w.grownBy w1 row) (hne : ∀ g ∈ gs, row ≠ some g) : InnQ w1 base gs L :=
  ⟨h.len, h.nodup, h.ge, fun i h1 h2 => (hg.block gs[i] (h.blk i h1 h2).lt (fun e => hne gs[i] (List.getElem_mem h1) e.symm)).trans (h.blk i h1 h2)⟩
theorem InnQ.lt {w : World} {base : Nat} {gs : List Nat} {L : List (Int × Int)} (h : InnQ w base gs L) : ∀ g ∈ gs, g < w.heap.size := by
  intro g hg
  obtain ⟨i, hi, rfl⟩ := List.mem_iff_getElem.1 hg
  exact (h.blk i hi (by rw [← h.len]; exact hi)).lt
theorem InnQ.snoc {w : World} {base g : Nat} {gs : List Nat} {L : List (Int × Int)} {c : Int × Int} (h : InnQ w base gs L) (hg : base ≤ g) (hn : g ∉ gs) (hk : Blk g #[.int .i64 c.1, .int .i64 c.2] 3 w) : InnQ w base (gs ++ [g]) (L ++ [c]) := by
  refine ⟨by simp [h.len], ?_, ?_, ?_⟩
  · rw [List.nodup_append]
    exact ⟨h.nodup, by simp, fun a ha b hb => by simp at hb; subst hb; rintro rfl; exact hn ha⟩
  · intro x hx
    rcases List.mem_append.1 hx with hx | hx
    · exact h.ge x hx
    · simp at hx; omega
  · intro i h1 h2
    by_cases hi : i < gs.length
    · have hi2 : i < L.length := by rw [← h.len]; exact hi
      rw [List.getElem_append_left hi]
      simp only [List.getElem_append_left hi2]
      exact h.blk i hi hi2
    · have hi' : i = gs.length := by simp at h1; omega
      subst hi'
      have e1 : (gs ++ [g])[gs.length]'h1 = g := by simp
      have e2 : (L ++ [c])[gs.length]'h2 = c := by
        rw [List.getElem_append_right (by rw [h.len]; exact Nat.le_refl _)]
        simp
      rw [e1, e2]
      exact hk
theorem wpList_appQ {ops : Array Oper} {rest : List Oper} {o : Oper} {a : Act} {Q : Exit → Act → World → Prop} {wr : World} {c d : Int} (hgd : o.guard = none) (s x : Operand)
    (ho : o.op = .call { callee := .builtin .append, args := #[s, x], argTypes := #[22, 22] })
    (base : Nat) (v : Value) (gs : List Nat) (L : List (Int × Int)) (hs : a.eval s = v) (hown : OwnsQ wr base v gs L) (hx : a.eval x = .slice (some ⟨wr.heap.size + 1, 0, none⟩) 1 1)
    (hlen : L.length < 1000000) (hbase : base ≤ wr.heap.size)
    (h : ∀ v' w1, OwnsQ w1 base v' (gs ++ [wr.heap.size]) (L ++ [(c, d)]) → Below base wr w1 → wpList Try.prog ops Q rest (a.put o.dst v') w1) :
    wpList Try.prog ops Q (o :: rest) a ((wr.alloc (.cells #[.int .i64 c, .int .i64 d] 3)).alloc (.cells #[.slice (some ⟨wr.heap.size, 0, none⟩) 2 2] 40)) := by
  obtain ⟨i0, hi, hz0, hz1, hz2⟩ := info_parts Try.infoQ
  have hlen2 := hown.2.len
  have hin : InnQ ((wr.alloc (.cells #[.int .i64 c, .int .i64 d] 3)).alloc (.cells #[.slice (some ⟨wr.heap.size, 0, none⟩) 2 2] 40)) base (gs ++ [wr.heap.size]) (L ++ [(c, d)]) := by
    have hb2 : Below wr.heap.size wr ((wr.alloc (.cells #[.int .i64 c, .int .i64 d] 3)).alloc (.cells #[.slice (some ⟨wr.heap.size, 0, none⟩) 2 2] 40)) := ((Below.refl _ _).alloc (Nat.le_refl _) _).alloc (by simp) _
    exact (hown.below hb2).2.snoc hbase (fun hm => by have := hown.2.lt _ hm; omega) ((Blk.new wr #[.int .i64 c, .int .i64 d] 3).alloc _)
  refine wpList_append_own _ hgd s x 22 ho base 40 i0 (.slice none 0 0) 1 24 Try.underlying22 hi hz0 hz1 hz2 rfl (by decide) v gs.length (hdQ gs) hs (World.ownsRow.alloc (World.ownsRow.alloc hown.1 _) _) ⟨wr.heap.size + 1, 0, none⟩ 1 1 [.slice (some ⟨wr.heap.size, 0, none⟩) 2 2] hx rfl ?_ ?_ ?_ ?_ ?_ ?_
  · intro j u hj
    match j, hj with
    | 0, hj => simp at hj; subst hj; simp [Addr.add]
  · intro u hu; simp at hu; subst hu; rfl
  · unfold maxLen; omega
  · omega
  · simp; omega
  · intro v' w1 hown' hgrow _
    have hap : ∀ g ∈ gs ++ [wr.heap.size], v.ownBlock ≠ some g := by
      intro g hg
      rcases List.mem_append.1 hg with hg | hg
      · exact hown.apart g hg
      · simp at hg
        subst hg
        intro e
        have := (World.ownsRow.lt hown.1 _ e).2
        omega
    refine h v' w1 ⟨?_, hin.grown hgrow hap⟩ ?_
    · have e : hdQ (gs ++ [wr.heap.size]) = hdQ gs ++ [.slice (some ⟨wr.heap.size, 0, none⟩) 2 2] := by simp [hdQ]
      rw [e, List.length_append]
      exact hown'
    · have hb2 : Below base wr ((wr.alloc (.cells #[.int .i64 c, .int .i64 d] 3)).alloc (.cells #[.slice (some ⟨wr.heap.size, 0, none⟩) 2 2] 40)) := ((Below.refl base wr).alloc hbase _).alloc (by simp; omega) _
      exact hb2.grown hgrow (by simp; omega) (fun k hk => (World.ownsRow.lt hown.1 k hk).1)
theorem OwnsQ.form {w : World} {base : Nat} {v : Value} {gs : List Nat} {L : List (Int × Int)} (h : OwnsQ w base v gs L) :
    ∃ (a : Option Addr) (cap : Nat), v = .slice a L.length cap ∧ ∀ i (_ : i < L.length), ∃ g k, a = some ⟨g, 0, none⟩ ∧ gs[i]? = some k ∧ w.cell? ⟨g, i, none⟩ = some (.slice (some ⟨k, 0, none⟩) 2 2) ∧ g < w.heap.size ∧ Blk k #[.int .i64 L[i].1, .int .i64 L[i].2] 3 w := by
  have hl := h.2.len
  rcases h.1.2 with ⟨hv, hn⟩ | ⟨g, cap, cur, hv, hg, hh, hnc, hcm, hcs, ht⟩
  · exact ⟨none, 0, by rw [hv, ← hl, hn], fun i hi => by omega⟩
  · refine ⟨some ⟨g, 0, none⟩, cap, by rw [hv, hl], fun i hi => ⟨g, gs[i]'(by omega), rfl, List.getElem?_eq_getElem (by omega), ?_, (Array.getElem?_eq_some_iff.1 hh).1, h.2.blk i (by omega) hi⟩⟩
    have h4 : (cur.toList.take (gs.length * 1))[i]? = cur.toList[i]? := List.getElem?_take_of_lt (by omega)
    have h5 : (hdQ gs)[i]? = some (.slice (some ⟨gs[i]'(by omega), 0, none⟩) 2 2) := by simp [hdQ, show i < gs.length by omega]
    rw [ht, h5, Array.getElem?_toList] at h4
    show (match w.heap[g]? with | some (.cells cs _ _) => _ | _ => _) = _
    rw [hh]; exact h4.symm
theorem rd2 {w : World} {k : Nat} {x y : Int} (h : Blk k #[.int .i64 x, .int .i64 y] 3 w) : RdI w (.slice (some ⟨k, 0, none⟩) 2 2) [x, y] :=
  ⟨some ⟨k, 0, none⟩, 2, rfl, fun i hi => ⟨k, 0, rfl, by
    have hi' : i < 2 := by simpa using hi
    rcases (show i = 0 ∨ i = 1 by omega) with rfl | rfl
    · exact h.cell 0
    · exact h.cell 1, h.lt⟩⟩
/-- one inner block is written -/
theorem OwnsQ.upd {w w1 : World} {base : Nat} {v : Value} {gs : List Nat} {L : List (Int × Int)} {j k : Nat} {c : Int × Int} (h : OwnsQ w base v gs L) (hj : j < L.length) (hk : gs[j]? = some k) (ho : Over [k] w w1) (hb : Blk k #[.int .i64 c.1, .int .i64 c.2] 3 w1) :
    OwnsQ w1 base v gs (L.set j c) := by
  have hl := h.2.len
  have hgk : gs[j]'(by omega) = k := by
    rw [List.getElem?_eq_getElem (by omega)] at hk
    exact Option.some.inj hk
  have hmem : k ∈ gs := by rw [← hgk]; exact List.getElem_mem _
  refine ⟨⟨h.1.1, ?_⟩, by rw [List.length_set]; exact hl, h.2.nodup, h.2.ge, ?_⟩
  · rcases h.1.2 with h0 | ⟨g, cap, cur, hv, hg, hh, r⟩
    · exact .inl h0
    · refine .inr ⟨g, cap, cur, hv, hg, (ho.block g (Array.getElem?_eq_some_iff.1 hh).1 ?_).trans hh, r⟩
      intro hm
      have e : g = k := by simpa using hm
      exact h.apart k hmem (by rw [hv, e]; rfl)
  · intro i h1 h2
    have h2' : i < L.length := by simpa using h2
    by_cases hij : i = j
    · subst hij
      rw [List.getElem_set_self, hgk]
      exact hb
    · rw [List.getElem_set_ne (fun e => hij e.symm)]
      have hne : gs[i] ≠ k := by
        rw [← hgk]
        intro e
        exact hij ((List.getElem_inj h.2.nodup).1 e)
      exact (ho.block _ (h.2.blk i h1 h2').lt (by simpa using hne)).trans (h.2.blk i h1 h2')
theorem mixL_upd (L : List (Int × Int)) (k : Nat) (h : k < L.length) : (mixL L k).set k (1 + 2 * (k : Int), 1 + 2 * (k : Int) + 1) = mixL L (k + 1) := by
  have e1 : mixL L (k + 1) = markL k ++ ((1 + 2 * (k : Int), 1 + 2 * (k : Int) + 1) :: L.drop (k + 1)) := by
    simp [mixL, markL, List.range_succ]
  have e2 : mixL L k = markL k ++ (L[k] :: L.drop (k + 1)) := by
    unfold mixL; rw [List.drop_eq_getElem_cons h]
  rw [e1, e2, List.set_append_right _ _ (by rw [markL_length]; exact Nat.le_refl _), markL_length, Nat.sub_self]
  rfl
set_option maxHeartbeats 1000000 in
theorem c_mark2 (g : Nat) (x y k : Int) (hk : 0 ≤ k ∧ k ≤ 1000000) (w : World) (h : Blk g #[.int .i64 x, .int .i64 y] 3 w) :
    Calls Try.prog 26 #[.slice (some ⟨g, 0, none⟩) 2 2, .int .i64 k] w fun e w' => e = .returned (.int .i64 (k + 2)) ∧ Over [g] w w' ∧ Blk g #[.int .i64 k, .int .i64 (k + 1)] 3 w' := by
  go_enter Try.func26, Try.ntmps26
  go_wp2
  go_loopw [1, 5] (fun m i wr => ∃ j : Nat, j ≤ 2 ∧ m = .int .i64 (k + j) ∧ i = .int .i64 j ∧ Over [g] w wr ∧ Blk g #[.int .i64 (if 1 ≤ j then k else x), .int .i64 (if 2 ≤ j then k + 1 else y)] 3 wr) (fun _ i _ => 2 - (intOf i).toNat)
  case atStart => exact ⟨0, Nat.zero_le _, by simp, rfl, Over.refl _ _, h⟩
  case round =>
    obtain ⟨j, hj, rfl, rfl, ho, hb⟩ := hrel
    rcases (show j = 0 ∨ j = 1 ∨ j = 2 by omega) with rfl | rfl | rfl
    · have hb' : Blk g #[.int .i64 x, .int .i64 y] 3 wr := hb
      have c0 := hb'.cell 0
      have f0 := hb'.frozen 0
      have hb2 := hb'.set 0 (.int .i64 k)
      have ho2 := ho.setCell (p := ⟨g, 0, none⟩) (.inr (by simp)) (.int .i64 k)
      simp only [List.setIfInBounds_toArray, List.set_cons_zero] at hb2
      have HR := Lib.hid (And.intro ho2 hb2)
      clear hb hb' ho2 hb2
      simp only [List.getElem?_toArray, List.getElem?_cons_zero] at c0
      go_wp2
      go_roundw
      case rel => exact ⟨1, by omega, by go_num, by go_num, by simpa using HR.out.1, by simpa using HR.out.2⟩
      case measure => simp [intOf]
    · have hb' : Blk g #[.int .i64 k, .int .i64 y] 3 wr := hb
      have c1 := hb'.cell 1
      have f1 := hb'.frozen 1
      have hb2 := hb'.set 1 (.int .i64 (k + 1))
      have ho2 := ho.setCell (p := ⟨g, 1, none⟩) (.inr (by simp)) (.int .i64 (k + 1))
      simp only [List.setIfInBounds_toArray, List.set_cons_zero, List.set_cons_succ] at hb2
      have HR := Lib.hid (And.intro ho2 hb2)
      clear hb hb' ho2 hb2
      simp only [List.getElem?_toArray, List.getElem?_cons_zero, List.getElem?_cons_succ] at c1
      go_wp2
      go_roundw
      case rel => exact ⟨2, by omega, by go_num, by go_num, by simpa using HR.out.1, by simpa using HR.out.2⟩
      case measure => simp [intOf]
    · have HR := Lib.hid (And.intro ho hb)
      clear hb
      go_wp2
      go_ret
      exact ⟨by simp, HR.out.1, HR.out.2⟩
set_option maxHeartbeats 1000000 in
theorem c_held2 (g : Nat) (k : Int) (hk : 0 ≤ k ∧ k ≤ 1000000) (w : World) (h : Blk g #[.int .i64 k, .int .i64 (k + 1)] 3 w) :
    Calls Try.prog 27 #[.slice (some ⟨g, 0, none⟩) 2 2, .int .i64 k] w fun e w' => e = .returned (.int .i64 (k + 2)) ∧ w = w' := by
  have c0 := h.cell 0
  have c1 := h.cell 1
  simp only [List.getElem?_toArray, List.getElem?_cons_zero, List.getElem?_cons_succ] at c0 c1
  clear h
  go_enter Try.func27, Try.ntmps27
  go_wp2
  go_loop [1, 5] (fun m i => ∃ j : Nat, j ≤ 2 ∧ m = .int .i64 (k + j) ∧ i = .int .i64 j) (fun _ i => 2 - (intOf i).toNat)
  case atStart => exact ⟨0, Nat.zero_le _, by simp, rfl⟩
  case round =>
    obtain ⟨j, hj, rfl, rfl⟩ := hrel
    rcases (show j = 0 ∨ j = 1 ∨ j = 2 by omega) with rfl | rfl | rfl
    · go_wp2
      go_round
      case rel => exact ⟨1, by omega, by go_num, by go_num⟩
      case measure => simp [intOf]
    · go_wp2
      go_round
      case rel => exact ⟨2, by omega, by go_num, by go_num⟩
      case measure => simp [intOf]
    · go_wp2
      go_ret
      exact ⟨by simp, rfl⟩
set_option maxHeartbeats 1000000 in
theorem c_markIntSS (base : Nat) (v : Value) (gs : List Nat) (L : List (Int × Int)) (hL : L.length ≤ 1000) (w : World) (hbw : base ≤ w.heap.size) (hown : OwnsQ w base v gs L) :
    Calls Try.prog 9 #[v, .int .i64 1] w fun e w' => e = .returned (.int .i64 (1 + 2 * (L.length : Int))) ∧ OwnsQ w' base v gs (markL L.length) ∧ Below base w w' := by
  obtain ⟨a, cap, rfl, _⟩ := hown.form
  go_enter Try.func9, Try.ntmps9
  go_wp2
  go_loopw [1, 5] (fun m i wr => ∃ j : Nat, j ≤ L.length ∧ m = .int .i64 (1 + 2 * (j : Int)) ∧ i = .int .i64 j ∧ OwnsQ wr base (.slice a L.length cap) gs (mixL L j) ∧ Below base w wr) (fun _ i _ => L.length - (intOf i).toNat)
  case atStart => exact ⟨0, Nat.zero_le _, by simp, rfl, by simpa [mixL, markL] using hown, Below.refl _ _⟩
  case round =>
    clear hown
    obtain ⟨j, hj, rfl, rfl, ho, hb⟩ := hrel
    have hml := mixL_length L j hj
    have hsz := hb.size
    by_cases hlt : j < L.length
    · obtain ⟨a', cap', hv', hf⟩ := ho.form
      rw [hml] at hv'
      obtain ⟨rfl, rfl⟩ : a = a' ∧ cap = cap' := by simp only [Value.slice.injEq] at hv'; exact ⟨hv'.1, hv'.2.2⟩
      obtain ⟨g, k, rfl, hk, hc, hg, hbk⟩ := hf j (by omega)
      clear hf hv'
      have hge : base ≤ k := ho.2.ge k (List.mem_iff_getElem?.2 ⟨j, hk⟩)
      have hm := c_mark2 k _ _ (1 + 2 * (j : Int)) (by omega) wr hbk
      have HM := Lib.hid hm
      clear hm hbk
      go_wp2_with fail
      refine HM.out.mono ?_
      rintro e w1 ⟨rfl, ho1, hb1⟩
      have ho2 := ho.upd (c := (1 + 2 * (j : Int), 1 + 2 * (j : Int) + 1)) (by omega) hk ho1 hb1
      rw [mixL_upd L j hlt] at ho2
      have hb2 : Below base w w1 := ⟨ho1.os.trans hb.os, ho1.tape.trans hb.tape, ho1.output.trans hb.output, Nat.le_trans hb.size ho1.size, fun q hq => (ho1.block q (by omega) (by simp; omega)).trans (hb.block q hq)⟩
      have HR := Lib.hid (And.intro ho2 hb2)
      clear ho2 hb2 ho1 hb1 hc ho
      go_wp2
      go_roundw
      case rel => exact ⟨j + 1, by omega, by go_num, by go_num, HR.out.1, HR.out.2⟩
      case measure => simp [intOf]; omega
    · obtain rfl : j = L.length := by omega
      have e : mixL L L.length = markL L.length := by simp [mixL]
      rw [e] at ho
      have HR := Lib.hid (And.intro ho hb)
      clear ho hb
      go_wp2
      go_ret
      exact ⟨rfl, HR.out.1, HR.out.2⟩
set_option maxHeartbeats 1000000 in
theorem c_heldIntSS (base : Nat) (v : Value) (gs : List Nat) (n : Nat) (hL : n ≤ 1000) (w : World) (hown : OwnsQ w base v gs (markL n)) :
    Calls Try.prog 10 #[v, .int .i64 1] w fun e w' => e = .returned (.int .i64 (1 + 2 * (n : Int))) ∧ w = w' := by
  obtain ⟨a, cap, rfl, hf⟩ := hown.form
  have HF := Lib.hid hf
  rw [markL_length]
  clear hf hown
  go_enter Try.func10, Try.ntmps10
  go_wp2
  go_loop [1, 5] (fun m i => ∃ j : Nat, j ≤ n ∧ m = .int .i64 (1 + 2 * (j : Int)) ∧ i = .int .i64 j) (fun _ i => n - (intOf i).toNat)
  case atStart => exact ⟨0, Nat.zero_le _, by simp, rfl⟩
  case round =>
    obtain ⟨j, hj, rfl, rfl⟩ := hrel
    by_cases hlt : j < n
    · obtain ⟨g, k, rfl, hk, hc, hg, hbk⟩ := HF.out j (by rw [markL_length]; exact hlt)
      rw [markL_get] at hbk
      have hm := c_held2 k (1 + 2 * (j : Int)) (by omega) w hbk
      have HM := Lib.hid hm
      clear hm hbk
      go_wp2_with fail
      refine HM.out.mono ?_
      rintro e w' ⟨rfl, rfl⟩
      go_wp2
      go_round
      case rel => exact ⟨j + 1, by omega, by go_num, by go_num⟩
      case measure => simp [intOf]; omega
    · obtain rfl : j = n := by omega
      go_wp2
      go_ret
      exact ⟨rfl, rfl⟩
set_option maxHeartbeats 1000000 in
theorem c_eqIntSS (b1 b2 : Nat) (v v' : Value) (gs gs' : List Nat) (L : List (Int × Int)) (hL : L.length ≤ 1000) (w : World) (h1 : OwnsQ w b1 v gs L) (h2 : OwnsQ w b2 v' gs' L) :
    Calls Try.prog 8 #[v, v'] w fun e w' => e = .returned (.bool true) ∧ Below w.heap.size w w' := by
  obtain ⟨a, cap, rfl, hf⟩ := h1.form
  obtain ⟨a', cap', rfl, hf'⟩ := h2.form
  have HF := Lib.hid hf
  have HF' := Lib.hid hf'
  clear hf hf' h1 h2
  go_enter Try.func8, Try.ntmps8
  go_wp2
  go_loopw [5] (fun i wr => ∃ j : Nat, j ≤ L.length ∧ i = .int .i64 j ∧ Below w.heap.size w wr) (fun i _ => L.length - (intOf i).toNat)
  case atStart => exact ⟨0, Nat.zero_le _, rfl, Below.refl _ _⟩
  case round =>
    obtain ⟨j, hj, rfl, hb⟩ := hrel
    have hsz := hb.size
    by_cases hlt : j < L.length
    · obtain ⟨g, k, rfl, _, hc, hg, hbk⟩ := HF.out j hlt
      obtain ⟨g', k', rfl, _, hc', hg', hbk'⟩ := HF'.out j hlt
      have d1 := (hb.cell (p := ⟨g, j, none⟩) hg).trans hc
      have d2 := (hb.cell (p := ⟨g', j, none⟩) hg').trans hc'
      have e1 := Blk.closed _ _ _ _ _ hbk hb
      have e2 := Blk.closed _ _ _ _ _ hbk' hb
      clear hc hc' hbk hbk'
      generalize L[j] = c at e1 e2
      have hgr : g < wr.heap.size := by omega
      have hgr' : g' < wr.heap.size := by omega
      have i0 : (0 : Int) ≤ (j : Int) := by omega
      have i1 : (j : Int) < (L.length : Int) := by omega
      have hm : ∀ w1, Below wr.heap.size wr w1 → Calls Try.prog 25 #[.slice (some ⟨k, 0, none⟩) 2 2, .slice (some ⟨k', 0, none⟩) 2 2] w1 fun e w' => e = .returned (.bool true) ∧ Below w1.heap.size w1 w' := fun w1 hb1 =>
        c_eqIntS _ _ [c.1, c.2] (by simp) w1 (rd2 (Blk.closed _ _ _ _ _ e1 hb1)) (rd2 (Blk.closed _ _ _ _ _ e2 hb1))
      have HM := Lib.hid hm
      clear hm e1 e2
      go_wp2
      (refine wp_region_clq (by kernel_rfl) (by kernel_rfl) ?_; (repeat (go_big_quiet_step ((go_at_call 25; exact Calls.quiet_cls Closed.true _ (HM.out _ (Cls.over _).below))))); refine wpQuiet_nil ?_; intro w1 hb1; obtain ⟨hc1, hf1⟩ := bcell hb1; have hz1 := hb1.size; (try simp only [World.size_alloc] at hz1))
      have hb2 := below_step hb1 hsz hb
      clear hc1 hf1 d1 d2
      go_wp2
      go_roundw
      case rel => exact ⟨j + 1, by omega, by go_num, hb2⟩
      case measure => simp [intOf]; omega
    · obtain rfl : j = L.length := by omega
      go_wp2
      go_ret
      exact ⟨rfl, hb⟩
end Go.Proofs.Ytidnifogjeaigaa
