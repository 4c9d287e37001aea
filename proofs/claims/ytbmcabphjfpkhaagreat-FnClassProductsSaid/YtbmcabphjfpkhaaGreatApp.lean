/- Appending a number in a region that draws its order. -/
import Derived.Test.YtbmcabphjfpkhaaGreatList
import Derived.Test.YtbmcabphjfpkhaaGreatCls
import Derived.Deep.RegionLawGrows
namespace Go.Proofs.YtbmcabphjfpkhaaGreat
open Go.RowKit

theorem OwnsI.closed (base : Nat) (v : Value) (xs : List Int) : Closed (fun w => OwnsI w base v xs) := fun _ _ h hb => h.below hb
theorem OwnsI.over {ex : List Nat} {w w' : World} {base : Nat} {v : Value} {xs : List Int} (h : OwnsI w base v xs) (ho : Over ex w w') (hn : ∀ g, v.ownBlock = some g → g ∉ ex) : OwnsI w' base v xs := by
  refine ⟨h.1, ?_⟩
  rcases h.2 with h0 | ⟨g, cap, cur, hv, hg, hh, r⟩
  · exact .inl h0
  · exact .inr ⟨g, cap, cur, hv, hg, (ho.block g (Array.getElem?_eq_some_iff.1 hh).1 (hn g (by rw [hv]; rfl))).trans hh, r⟩
theorem OwnsI.cell {w : World} {base : Nat} {xs : List Int} {g n cap : Nat} (h : OwnsI w base (.slice (some ⟨g, 0, none⟩) n cap) xs) {i : Nat} (hi : i < xs.length) : w.cell? ⟨g, i, none⟩ = some (.int .i64 (xs[i]?.getD 0)) := by
  obtain ⟨a, cap', hv, hc⟩ := h.form
  obtain ⟨g', ha, h1, _⟩ := hc i hi
  injection hv with e1 _ _
  rw [ha] at e1
  injection e1 with e1
  injection e1 with e1
  rw [e1]
  exact h1
/-- what is appended lies behind what was there, which stays -/
theorem run_app1 {w : World} {base r ty : Nat} {v : Value} {xs : List Int} {y : Int} (hown : OwnsI w base v xs) (hbase : base ≤ w.heap.size) (hx : Blk r #[.int .i64 y] 3 w) (hlen : xs.length < 1000000000000) :
    ∃ v' w1, (Builtin.append_ #[29, 29] ty #[v, .slice (some ⟨r, 0, none⟩) 1 1]).run Tryz.prog w = .ok v' w1 ∧ OwnsI w1 base v' (xs ++ [y]) ∧ OwnsI w1 base v xs ∧ Over v.ownBlock.toList w w1 := by
  obtain ⟨i0, hi, hz0, hz1, hz2⟩ := info_parts Tryz.infoI
  have hnews : ∀ j u, [Value.int .i64 y][j]? = some u → w.cell? ((⟨r, 0, none⟩ : Addr).add j) = some u := by
    intro j u hj
    match j, hj with
    | 0, hj => simp at hj; subst hj; exact hx.cell 0
  have hone : ∀ u ∈ [Value.int .i64 y], u.oneCell' = true := by intro u hu; simp at hu; subst hu; rfl
  have hmap : (xs ++ [y]).map (Value.int .i64) = xs.map (Value.int .i64) ++ [.int .i64 y] := by simp
  rcases hown.2 with ⟨hv, hn⟩ | ⟨g, cap, cur, hv, hg, hh, hnc, hcm, hcs, ht⟩
  · obtain ⟨v', w1, hr, ho, hgr, _⟩ := run_append_own (P := Tryz.prog) w base 29 ty 3 i0 (.int .i64 0) 1 8 Tryz.underlying29 hi hz0 hz1 hz2 rfl (by decide) v xs.length (xs.map (Value.int .i64)) hown ⟨r, 0, none⟩ 1 1 [.int .i64 y] rfl hnews hone (by unfold maxLen; omega) (by omega) hbase
    refine ⟨v', w1, hr, ?_, ⟨hown.1, .inl ⟨hv, hn⟩⟩, ?_⟩
    · show w1.ownsRow _ _ _ _ _ _
      rw [List.length_append, hmap]; exact ho
    · rw [hv] at hgr ⊢
      exact ⟨hgr.os, hgr.tape, hgr.output, hgr.size, fun k hk _ => hgr.block k hk (by simp [Value.ownBlock])⟩
  · by_cases hroom : xs.length + 1 ≤ cap
    · have hown' : w.ownsRow base 3 1 (.slice (some ⟨g, 0, none⟩) xs.length cap) xs.length (xs.map (Value.int .i64)) := by rw [← hv]; exact hown
      obtain ⟨w1, hr, ho, hgr⟩ := run_append_fits (P := Tryz.prog) w base 29 ty 3 i0 1 Tryz.underlying29 hi hz1 g xs.length cap (xs.map (Value.int .i64)) hown' ⟨r, 0, none⟩ 1 1 [.int .i64 y] rfl hnews hone hroom
      refine ⟨_, w1, by rw [hv]; exact hr, ?_, ?_, ?_⟩
      · show w1.ownsRow _ _ _ _ _ _
        rw [List.length_append, hmap]; exact ho
      · refine ⟨hown.1, .inr ?_⟩
        rcases ho.2 with ⟨h0, _⟩ | ⟨g2, cap2, cur2, hv2, hg2, hh2, hnc2, hcm2, hcs2, ht2⟩
        · cases h0
        · injection hv2 with e1 _ e3
          injection e1 with e1
          injection e1 with e1
          subst e1 e3
          refine ⟨g, cap, cur2, hv, hg, hh2, by omega, hcm2, hcs2, ?_⟩
          have h5 : List.take (xs.length * 1) cur2.toList = List.take xs.length (List.take ((xs.length + 1) * 1) cur2.toList) := by rw [List.take_take, Nat.min_eq_left (by omega), Nat.mul_one]
          rw [h5, ht2, List.take_append_of_le_length (by simp)]
          exact List.take_of_length_le (by simp)
      · rw [hv]
        exact ⟨hgr.os, hgr.tape, hgr.output, hgr.size, fun k hk hn => hgr.block k hk (by simpa [Value.ownBlock] using hn)⟩
    · have holds : ∀ j u, (xs.map (Value.int .i64))[j]? = some u → w.cell? ((⟨g, 0, none⟩ : Addr).add j) = some u := by
        intro j u hj
        have hlt : j < xs.length := by have := (List.getElem?_eq_some_iff.1 hj).1; simpa using this
        have h2 : (cur.toList.take (xs.length * 1))[j]? = cur.toList[j]? := List.getElem?_take_of_lt (by omega)
        rw [ht, hj, Array.getElem?_toList] at h2
        have e : (⟨g, 0, none⟩ : Addr).add j = ⟨g, j, none⟩ := by cases j <;> simp [Addr.add]
        rw [e]
        simp only [World.cell?, hh]
        simpa using h2.symm
      obtain ⟨v', w1, hr, ho, hgr⟩ := run_append_arg_grows (P := Tryz.prog) w 29 ty 3 i0 (.int .i64 0) 1 8 Tryz.underlying29 hi hz0 hz1 hz2 rfl (by decide) ⟨g, 0, none⟩ xs.length cap (xs.map (Value.int .i64)) (by simp) holds ⟨r, 0, none⟩ 1 1 [.int .i64 y] rfl hnews (by omega) (by unfold maxLen; omega) (by omega)
      have hB : Below w.heap.size w w1 := ⟨hgr.os, hgr.tape, hgr.output, hgr.size, fun k hk => hgr.block k hk (by simp)⟩
      refine ⟨v', w1, by rw [hv]; exact hr, ?_, hown.below hB, .of_below hB⟩
      refine OwnsI.le (base := w.heap.size) ?_ hbase
      show w1.ownsRow _ _ _ _ _ _
      rw [List.length_append, hmap]; exact ho
section
variable {ops : Array Oper} {Q : Exit → Act → World → Prop} {ex : List Nat} {W : World} {R : Nat → Bool} {N D : World → Prop}
/-- a slice of one number is made -/
theorem stepF_bslice {a : Act} {listed : Array Bool} {f i d : Nat} {o : Oper} {y : Int} (ho : ops[i]? = some o) (hw : Region.wanted o (yielded ops a.tmps) = true) (hd : o.dst = some d)
    (hrun : ∀ w, (execOp a.eval o).run Tryz.prog w = .ok (.value (.slice (some ⟨w.heap.size, 0, none⟩) 1 1)) (w.alloc (.cells #[.int .i64 y] 3))) (hD : Closed D) (hN : ∀ w, D w → N w)
    (h : ∀ r, (∃ w, Over ex W w ∧ D w ∧ Blk r #[.int .i64 y] 3 w) → wpAnyF Tryz.prog ops Q ex W R f (listed.setIfInBounds i true) (a.put (some d) (.slice (some ⟨r, 0, none⟩) 1 1)) N (fun w => D w ∧ Blk r #[.int .i64 y] 3 w)) : StepF Tryz.prog ops Q ex W R f listed a N D i := fun w hO hd' => by
  unfold wpOp
  simp only [ho, hw, if_true]
  refine .inl ?_
  unfold Oper.wp
  rw [hrun w]
  simp only [Oper.upon, hd]
  have h1 : D (w.alloc (.cells #[.int .i64 y] 3)) := hD _ _ hd' ((Below.refl _ _).alloc (Nat.le_refl _) _)
  exact ⟨N, fun u => D u ∧ Blk w.heap.size #[.int .i64 y] 3 u, hD.and (Blk.closed _ _ _), fun u hu => hN u hu.1, fun _ => rfl, hO.alloc _, ⟨h1, Blk.new w _ _⟩, h w.heap.size ⟨_, hO.alloc _, h1, Blk.new w _ _⟩⟩
/-- it is appended -/
theorem stepF_app {a : Act} {listed : Array Bool} {f i d r base : Nat} {o : Oper} {s x : Operand} {v : Value} {xs : List Int} {y : Int} (C : World → Prop) (ho : ops[i]? = some o) (hw : Region.wanted o (yielded ops a.tmps) = true) (hd : o.dst = some d)
    (hop : o.op = .call { callee := .builtin .append, args := #[s, x], argTypes := #[29, 29] }) (hs : a.eval s = v) (hx : a.eval x = .slice (some ⟨r, 0, none⟩) 1 1)
    (hC : Closed C) (hCg : ∀ u u', C u → OwnsI u base v xs → Over v.ownBlock.toList u u' → C u') (hbase : base ≤ W.heap.size) (hlen : xs.length < 1000000000000) (hex : ∀ g, v.ownBlock = some g → g ∈ ex)
    (hDC : ∀ u, D u → C u ∧ OwnsI u base v xs ∧ Blk r #[.int .i64 y] 3 u) (hCN : ∀ u, C u → OwnsI u base v xs → N u)
    (h : ∀ v', (∃ w, Over ex W w ∧ (C w ∧ OwnsI w base v xs) ∧ OwnsI w base v' (xs ++ [y])) → wpAnyF Tryz.prog ops Q ex W R f (listed.setIfInBounds i true) (a.put (some d) v') N (fun w => (C w ∧ OwnsI w base v xs) ∧ OwnsI w base v' (xs ++ [y]))) : StepF Tryz.prog ops Q ex W R f listed a N D i := fun w hO hd' => by
  unfold wpOp
  simp only [ho, hw, if_true]
  refine .inl ?_
  obtain ⟨c1, c2, c3⟩ := hDC w hd'
  obtain ⟨v', w1, hr, o1, o2, o3⟩ := run_app1 (ty := o.type) c2 (Nat.le_trans hbase hO.size) c3 hlen
  unfold Oper.wp execOp
  simp only [hop, resolve, invoke, builtin, Sem.run_bind, Sem.run_pure, Result.andThen_ok, List.map_toArray, List.map_cons, List.map_nil, hs, hx, hr, Oper.upon, hd]
  have hO' : Over ex W w1 := ⟨o3.os.trans hO.os, o3.tape.trans hO.tape, o3.output.trans hO.output, Nat.le_trans hO.size o3.size, fun k hk hn => (o3.block k (Nat.lt_of_lt_of_le hk hO.size) (fun hm => hn (hex k (by simpa using hm)))).trans (hO.block k hk hn)⟩
  have hfin : (C w1 ∧ OwnsI w1 base v xs) ∧ OwnsI w1 base v' (xs ++ [y]) := ⟨⟨hCg _ _ c1 c2 o3, o2⟩, o1⟩
  exact ⟨N, _, (hC.and (OwnsI.closed _ _ _)).and (OwnsI.closed _ _ _), fun u hu => hCN u hu.1.1 hu.1.2, fun _ => rfl, hO', hfin, h v' ⟨w1, hO', hfin⟩⟩
/-- a value of one cell is stored into a block known whole -/
theorem stepF_store1 {a : Act} {listed : Array Bool} {f i r : Nat} {o : Oper} {x y : Operand} {v old : Value} {T : TypeId} (N' D' : World → Prop) (ho : ops[i]? = some o) (hw : Region.wanted o (yielded ops a.tmps) = true)
    (hop : o.op = .store T x y) (hdst : o.dst = none) (hx : a.eval x = .pointer (some ⟨r, 0, none⟩)) (hy : a.eval y = v) (hsz : ∀ w, (sizeOf T).run Tryz.prog w = .ok 1 w) (hc : v.cells = #[v]) (hv : one1 v = true)
    (hB : ∀ u, D u → Blk r #[old] T u) (hr : W.heap.size ≤ r ∨ r ∈ ex) (hD' : Closed D') (hN' : ∀ u, D' u → N' u) (hR : R i = false → N' = N) (hstep : ∀ u u', D u → Over [r] u u' → Blk r #[v] T u' → D' u')
    (h : (∃ w, Over ex W w ∧ D' w) → wpAnyF Tryz.prog ops Q ex W R f (listed.setIfInBounds i true) a N' D') : StepF Tryz.prog ops Q ex W R f listed a N D i := fun w hO hd => by
  unfold wpOp
  simp only [ho, hw, if_true]
  refine .inl ?_
  obtain ⟨w', h1, h2, h3⟩ := run_store_blk (P := Tryz.prog) (v := v) (zs := #[old]) hsz (by rw [hc]; rfl) (by rw [hc]; intro u hu; simp at hu; subst hu; exact hv) (hB w hd)
  have hrun : (execOp a.eval o).run Tryz.prog w = .ok .skip w' := by
    unfold execOp
    rw [hop]
    simp only [hx, hy]
    simp [h1]
  unfold Oper.wp
  rw [hrun]
  simp only [Oper.upon, hdst, Act.put]
  have hO' : Over ex W w' := ⟨h2.os.trans hO.os, h2.tape.trans hO.tape, h2.output.trans hO.output, Nat.le_trans hO.size h2.size, fun k hk hn => (h2.block k (Nat.lt_of_lt_of_le hk hO.size) (by
    intro hkr
    rw [List.mem_singleton] at hkr
    subst hkr
    rcases hr with hr | hr
    · omega
    · exact hn hr)).trans (hO.block k hk hn)⟩
  rw [hc] at h3
  have hd' := hstep w w' hd h2 h3
  exact ⟨N', D', hD', hN', hR, hO', hd', h ⟨w', hO', hd'⟩⟩
end
theorem OwnsI.ofBlk {w : World} {base g : Nat} {xs : List Int} {n : Nat} (hn : n = xs.length) (h : Blk g (xs.map (Value.int .i64)).toArray 3 w) (hb : base ≤ g) (hm : n ≤ 1000) : OwnsI w base (.slice (some ⟨g, 0, none⟩) n n) xs := by
  subst hn
  exact ⟨by simp, .inr ⟨g, xs.length, _, rfl, hb, h, Nat.le_refl _, by unfold maxLen; omega, by simp, by
    rw [Nat.mul_one]
    exact List.take_of_length_le (by simp)⟩⟩
/-- a row of numbers is no variable that holds a slice -/
theorem OwnsI.ne {w : World} {base g n cap b : Nat} {xs : List Int} {v : Value} (h : OwnsI w base (.slice (some ⟨g, 0, none⟩) n cap) xs) (hb : Blk b #[v] 29 w) : b ≠ g := by
  rintro rfl
  rcases h.2 with ⟨h0, _⟩ | ⟨g', cap', cur, hv, hg, hh, _⟩
  · cases h0
  · injection hv with e1 _ _
    injection e1 with e1
    injection e1 with e1
    subst e1
    unfold Blk at hb
    rw [hb] at hh
    simp at hh
theorem OwnsI.ge {w : World} {base g n cap : Nat} {xs : List Int} (h : OwnsI w base (.slice (some ⟨g, 0, none⟩) n cap) xs) : base ≤ g ∧ g < w.heap.size := by
  rcases h.2 with ⟨h0, _⟩ | ⟨g', cap', cur, hv, hg, hh, _⟩
  · cases h0
  · injection hv with e1 _ _
    injection e1 with e1
    injection e1 with e1
    subst e1
    exact ⟨hg, (Array.getElem?_eq_some_iff.1 hh).1⟩
end Go.Proofs.YtbmcabphjfpkhaaGreat
