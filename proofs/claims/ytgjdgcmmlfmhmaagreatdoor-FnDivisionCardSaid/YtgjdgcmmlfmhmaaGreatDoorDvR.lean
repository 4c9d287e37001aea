/- Walks: the row of division values, the roots. -/
import Derived.Test.YtgjdgcmmlfmhmaaGreatDoorDvA
import Derived.Test.YtgjdgcmmlfmhmaaGreatDoorPairI
import Derived.Lib.SliceRun
namespace Go.Proofs.YtgjdgcmmlfmhmaaGreatDoor
open Go.RowKit

/-- all elements of a slice into a fresh one -/
theorem wpList_app_all {ops : Array Oper} {rest : List Oper} {o : Oper} {a : Act} {Q : Exit → Act → World → Prop} {wr : World} (hgd : o.guard = none) (s x : Operand)
    (ho : o.op = .call { callee := .builtin .append, args := #[s, x], argTypes := #[29, 29] })
    (ys : List Int) (g off cap : Nat) (hs : a.eval s = .slice (some ⟨wr.heap.size, 0, none⟩) 0 0) (hx : a.eval x = .slice (some ⟨g, off, none⟩) ys.length cap)
    (hc : ∀ i, i < ys.length → wr.cell? ⟨g, off + i, none⟩ = some (.int .i64 (ys[i]?.getD 0)) ∧ g < wr.heap.size)
    (hlen : ys.length < 1000000000000)
    (h : ∀ v' w1, OwnsI w1 wr.heap.size v' ys → Below wr.heap.size wr w1 → wpList Tryz.prog ops Q rest (a.put o.dst v') w1) :
    wpList Tryz.prog ops Q (o :: rest) a (wr.alloc (.cells #[] 3)) := by
  obtain ⟨i0, hi, hz0, hz1, hz2⟩ := info_parts Tryz.infoI
  have hown : (wr.alloc (.cells #[] 3)).ownsRow wr.heap.size 3 1 (.slice (some ⟨wr.heap.size, 0, none⟩) 0 0) 0 [] := World.ownsRow_lit wr #[] 0 (Nat.le_refl _) (by unfold maxLen; omega) rfl
  refine wpList_append_own _ hgd s x 29 ho wr.heap.size 3 i0 (.int .i64 0) 1 8 Tryz.underlying29 hi hz0 hz1 hz2 rfl (by decide) _ 0 [] hs hown ⟨g, off, none⟩ ys.length cap (ys.map (Value.int .i64)) hx (by simp) ?_ ?_ ?_ ?_ ?_ ?_
  · intro j u hj
    have hlt : j < ys.length := by have := (List.getElem?_eq_some_iff.1 hj).1; simpa using this
    obtain ⟨h1, h2⟩ := hc j hlt
    rw [List.getElem?_map, List.getElem?_eq_getElem hlt] at hj
    rw [List.getElem?_eq_getElem hlt] at h1
    have e : (⟨g, off, none⟩ : Addr).add j = ⟨g, off + j, none⟩ := by cases j <;> simp [Addr.add]
    rw [e]
    have := ((Below.refl wr.heap.size wr).alloc (Nat.le_refl _) (.cells #[] 3)).cell (p := ⟨g, off + j, none⟩) h2
    rw [this, h1, ← hj]; rfl
  · intro u hu; simp at hu; obtain ⟨y, _, rfl⟩ := hu; rfl
  · unfold maxLen; omega
  · omega
  · simp
  · intro v' w1 hown' hgrow _
    refine h v' w1 ?_ ?_
    · show w1.ownsRow _ _ _ _ _ _
      simpa using hown'
    · refine ((Below.refl wr.heap.size wr).alloc (Nat.le_refl _) _).grown hgrow (by simp) (fun k hk => ?_)
      simp [Value.ownBlock] at hk; omega
theorem c_cloneI (v : Value) (xs : List Int) (hx : xs ≠ []) (hL : xs.length ≤ 100000000) (w : World) (hr : RdI w v xs) :
    Calls Tryz.prog 39 #[v] w fun e w' => ∃ v', e = .returned v' ∧ OwnsI w' w.heap.size v' xs ∧ Below w.heap.size w w' := by
  obtain ⟨a, cap, rfl, hc⟩ := hr
  obtain ⟨g, o, rfl, _, _⟩ := hc 0 (List.length_pos_iff.2 hx)
  have hc' : ∀ i, i < xs.length → w.cell? ⟨g, o + i, none⟩ = some (.int .i64 (xs[i]?.getD 0)) ∧ g < w.heap.size := by
    intro i hi
    obtain ⟨g', o', e, h1, h2⟩ := hc i hi
    injection e with e
    injection e with e1 e2
    subst e1 e2
    exact ⟨h1, h2⟩
  have HC := Lib.hid hc'
  clear hc hc'
  have q22 : ∀ (w : World) (a : Option Addr) (n c n' c' : Nat), (binOp .eql 29 (.slice a n c) (.slice none n' c')).run Tryz.prog w = .ok (.bool a.isNone) w := fun w a n c n' c' => Lib.run_eql_slice_nil w _ _ a n c n' c' Tryz.underlying29
  go_enter Tryz.func39, Tryz.ntmps39
  go_wp2_with (at_builtin; refine wpList_app_all rfl _ _ rfl xs g o cap rfl rfl HC.out (by omega) ?_; intro v' w1 hown1 hb1)
  go_wp2
  go_ret
  exact ⟨_, rfl, hown1, hb1⟩
/-- d(1), ..., d(n) -/
def dvR (A B p x : Int) (N : Nat) : List Int := (List.range N).map fun i => dvE A B p x (i + 1)
theorem dvR_len (A B p x : Int) (N : Nat) : (dvR A B p x N).length = N := by simp [dvR]
theorem dvR_get (A B p x : Int) (N i : Nat) (h : i < N) : (dvR A B p x N)[i]?.getD 0 = dvE A B p x (i + 1) := by
  have e : (dvR A B p x N)[i]? = some (dvE A B p x (i + 1)) := by simp [dvR, h]
  rw [e]; rfl
noncomputable def drRes (A B p x n : Int) : List Int := if dvOk A B p x n then dvR A B p x n.toNat else []
theorem drRes_len (A B p x n : Int) : (drRes A B p x n).length ≤ 40 := by
  unfold drRes
  split
  · rename_i h
    have := (dvOk_of h).2
    rw [dvR_len]; omega
  · simp
/-- the part of a row that lies behind its head -/
theorem row_part {w : World} {base : Nat} {v : Value} {A B p x : Int} {j N : Nat} (ho : OwnsI w base v (dvL A B p x j)) (hN : N < 5 + j) (_ : 1 ≤ N) :
    ∃ g cap, v = .slice (some ⟨g, 0, none⟩) (5 + j) cap ∧ 5 + j ≤ cap ∧ (∀ c, RdI w (.slice (some ⟨g, 1, none⟩) N c) (dvR A B p x N)) ∧ base ≤ g ∧ g < w.heap.size := by
  have hl := dvL_len A B p x j
  rcases ho.2 with ⟨hv, hn⟩ | ⟨g, cap, cur, hv, hg, hh, hnc, hcm, hcs, ht⟩
  · omega
  · rw [hl] at hv hnc
    refine ⟨g, cap, hv, hnc, fun c => ⟨_, c, by rw [dvR_len], fun i hi => ?_⟩, hg, (Array.getElem?_eq_some_iff.1 hh).1⟩
    rw [dvR_len] at hi
    obtain ⟨g', cap', hv', h9⟩ := row_at (n := i + 1) ho (by omega)
    rw [hv] at hv'
    injection hv' with e1 _ _
    injection e1 with e1
    injection e1 with e1
    subst e1
    exact ⟨g, 1, rfl, by rw [Nat.add_comm 1 i, h9, dvR_get _ _ _ _ _ _ hi], (Array.getElem?_eq_some_iff.1 hh).1⟩
set_option maxHeartbeats 1000000 in
theorem c_sDivisionRow (A B p x n : Int) (w : World) :
    Calls Tryz.prog 10 #[.agg #[.int .i64 A, .int .i64 B], .int .i64 p, .int .i64 x, .int .i64 n] w (ReadPost w (drRes A B p x n) (dvOk A B p x n)) := by
  have h1 := c_dpAsked A B p x n
  have kC : Blk w.heap.size #[.int .i64 A, .int .i64 B] 24 (w.alloc (.cells #[.int .i64 A, .int .i64 B] 24)) := Blk.new _ _ _
  unfold drRes
  cases ho : dvOk A B p x n
  · have hq : (fitB A B p x && inB n 1 40) = false := ho
    rw [hq] at h1
    have H1 := Lib.hid h1
    clear h1 hq
    go_enter Tryz.func10, Tryz.ntmps10
    go_wp2_with ((go_at_call 33; refine (H1.out _).mono ?_; rintro e w1 ⟨rfl, hb1⟩; obtain ⟨hc1, hf1⟩ := bcell hb1; have hz1 := hb1.size; (try simp only [World.size_alloc] at hz1); (try (have hy1 : w.heap.size < w1.heap.size := by omega)); (try (have hx1 := Nat.lt_of_succ_le hz1)); (try (have hv1 := Nat.lt_of_succ_le (Nat.le_of_lt hx1)))))
    go_ret2
    refine ⟨_, rfl, (OwnsI.nil _ 0).rd, by intro g hg; simp [Value.ownBlock] at hg, ?_⟩
    (repeat' (first | (with_reducible exact Below.refl _ _) | (with_reducible refine below_step (by assumption) ?_ ?_) | (with_reducible refine Below.alloc ?_ ?_ _) | (with_reducible refine Below.setCell ?_ ?_ _) | (with_reducible refine below_drewN ?_ _) | (with_reducible refine Below.drew ?_) | omega | (simp; omega) | (simp; done)))
  · have hq : (fitB A B p x && inB n 1 40) = true := ho
    rw [hq] at h1
    have H1 := Lib.hid h1
    clear h1 hq
    obtain ⟨hf, hn⟩ := dvOk_of ho
    obtain ⟨N, rfl⟩ := Int.eq_ofNat_of_zero_le (show 0 ≤ n by omega)
    rw [if_pos rfl, Int.toNat_natCast]
    go_enter Tryz.func10, Tryz.ntmps10
    go_wp2_with fail
    (go_at_call 33; refine (H1.out _).mono ?_; rintro e w1 ⟨rfl, hb1⟩; obtain ⟨hc1, hf1⟩ := bcell hb1; have hz1 := hb1.size; (try simp only [World.size_alloc] at hz1); (try (have hy1 : w.heap.size < w1.heap.size := by omega)); (try (have hx1 := Nat.lt_of_succ_le hz1)); (try (have hv1 := Nat.lt_of_succ_le (Nat.le_of_lt hx1))))
    have kC1 := kC.next hb1
    have hB1 : Below w.heap.size w w1 := below_step hb1 (by simp) ((Below.refl _ _).alloc (Nat.le_refl _) _)
    have hs1 := hB1.size
    clear hc1 hf1 hz1 hb1 kC
    have kC10 : (w1).cell? ⟨w.heap.size, 0, none⟩ = some (.int .i64 A) := kC1.cell 0; have kC11 : (w1).cell? ⟨w.heap.size, 1, none⟩ = some (.int .i64 B) := kC1.cell 1; have kC1l : w.heap.size < (w1).heap.size := kC1.lt
    go_wp2_with fail
    (go_at_call 35; refine (c_dpRow A B p x N hf (by omega) _).mono ?_; rintro e w2 ⟨v, rfl, ho2, hb2⟩)
    obtain ⟨g, cap, rfl, hcap, hR, hg, hg2⟩ := row_part (N := N) ho2 (by omega) (by omega)
    have i1 : (N : Int) + 1 ≤ ((5 + (N - 3) : Nat) : Int) := by omega
    have i2 : (N : Int) + 1 ≤ (cap : Int) := by omega
    have i3 : (0 : Int) ≤ (N : Int) + 1 := by omega
    have i4 : (1 : Int) ≤ (N : Int) + 1 := by omega
    generalize 5 + (N - 3) = len at i1 hcap ⊢
    go_wp2
    go_ret2
    refine ⟨_, rfl, ?_, ?_, below_step hb2 hs1 hB1⟩
    · exact hR _
    · intro g' hg'
      simp [Value.ownBlock] at hg'; omega
set_option maxHeartbeats 1000000 in
theorem c_iDivisionRow (A B p x n : Int) (w : World) :
    Calls Tryz.prog 9 #[.agg #[.int .i64 A, .int .i64 B], .int .i64 p, .int .i64 x, .int .i64 n] w (IntsPost w (drRes A B p x n) (dvOk A B p x n)) := by
  have kC : Blk w.heap.size #[.int .i64 A, .int .i64 B] 24 (w.alloc (.cells #[.int .i64 A, .int .i64 B] 24)) := Blk.new _ _ _
  unfold drRes
  cases h1 : fitB A B p x
  · have hq : dvOk A B p x n = false := by unfold dvOk; rw [h1]; rfl
    rw [hq]
    go_enter Tryz.func9, Tryz.ntmps9
    go_wp2_with ((go_at_call 26; refine (c_divisionFits _ _ _ _ _).mono ?_; rintro e w1 ⟨rfl, hb1⟩; obtain ⟨hc1, hf1⟩ := bcell hb1; have hz1 := hb1.size; (try simp only [World.size_alloc] at hz1); (try (have hy1 : w.heap.size < w1.heap.size := by omega)); (try (have hx1 := Nat.lt_of_succ_le hz1)); (try (have hv1 := Nat.lt_of_succ_le (Nat.le_of_lt hx1)))))
    go_ret2
    refine ⟨_, rfl, OwnsI.nil _ _, ?_⟩
    (repeat' (first | (with_reducible exact Below.refl _ _) | (with_reducible refine below_step (by assumption) ?_ ?_) | (with_reducible refine Below.alloc ?_ ?_ _) | (with_reducible refine Below.setCell ?_ ?_ _) | (with_reducible refine below_drewN ?_ _) | (with_reducible refine Below.drew ?_) | omega | (simp; omega) | (simp; done)))
  · cases h2 : inB n 1 40
    · have hq : dvOk A B p x n = false := by unfold dvOk; rw [h1, h2]; rfl
      rw [hq]
      go_enter Tryz.func9, Tryz.ntmps9
      go_wp2_with (first | ((go_at_call 26; refine (c_divisionFits _ _ _ _ _).mono ?_; rintro e w1 ⟨rfl, hb1⟩; obtain ⟨hc1, hf1⟩ := bcell hb1; have hz1 := hb1.size; (try simp only [World.size_alloc] at hz1); (try (have hy1 : w.heap.size < w1.heap.size := by omega)); (try (have hx1 := Nat.lt_of_succ_le hz1)); (try (have hv1 := Nat.lt_of_succ_le (Nat.le_of_lt hx1))))) | (go_at_call 27; refine (c_inside _ _ _ _).mono ?_; rintro e w' ⟨rfl, rfl⟩))
      go_ret2
      refine ⟨_, rfl, OwnsI.nil _ _, ?_⟩
      (repeat' (first | (with_reducible exact Below.refl _ _) | (with_reducible refine below_step (by assumption) ?_ ?_) | (with_reducible refine Below.alloc ?_ ?_ _) | (with_reducible refine Below.setCell ?_ ?_ _) | (with_reducible refine below_drewN ?_ _) | (with_reducible refine Below.drew ?_) | omega | (simp; omega) | (simp; done)))
    · have hn := inB_true h2
      have hq : dvOk A B p x n = true := by unfold dvOk; rw [h1, h2]; rfl
      rw [hq, if_pos rfl]
      obtain ⟨N, rfl⟩ := Int.eq_ofNat_of_zero_le (show 0 ≤ n by omega)
      rw [Int.toNat_natCast]
      go_enter Tryz.func9, Tryz.ntmps9
      go_wp2_with fail
      (go_at_call 26; refine (c_divisionFits _ _ _ _ _).mono ?_; rintro e w1 ⟨rfl, hb1⟩; obtain ⟨hc1, hf1⟩ := bcell hb1; have hz1 := hb1.size; (try simp only [World.size_alloc] at hz1); (try (have hy1 : w.heap.size < w1.heap.size := by omega)); (try (have hx1 := Nat.lt_of_succ_le hz1)); (try (have hv1 := Nat.lt_of_succ_le (Nat.le_of_lt hx1))))
      have kC1 := kC.next hb1
      have hB1 : Below w.heap.size w w1 := below_step hb1 (by simp) ((Below.refl _ _).alloc (Nat.le_refl _) _)
      have hs1 := hB1.size
      clear hc1 hf1 hz1 hb1 kC
      have kC10 : (w1).cell? ⟨w.heap.size, 0, none⟩ = some (.int .i64 A) := kC1.cell 0; have kC11 : (w1).cell? ⟨w.heap.size, 1, none⟩ = some (.int .i64 B) := kC1.cell 1; have kC1l : w.heap.size < (w1).heap.size := kC1.lt
      go_wp2_with ((go_at_call 27; refine (c_inside _ _ _ _).mono ?_; rintro e w' ⟨rfl, rfl⟩))
      (go_at_call 29; refine (c_divisionRow A B p x N h1 (by omega) _).mono ?_; rintro e w2 ⟨v, rfl, ho2, hb2⟩)
      obtain ⟨g, cap, rfl, hcap, hR, hg, hg2⟩ := row_part (N := N) ho2 (by omega) (by omega)
      have i1 : (N : Int) + 1 ≤ ((5 + (N - 4) : Nat) : Int) := by omega
      have i2 : (N : Int) + 1 ≤ (cap : Int) := by omega
      have i3 : (0 : Int) ≤ (N : Int) + 1 := by omega
      have i4 : (1 : Int) ≤ (N : Int) + 1 := by omega
      generalize 5 + (N - 4) = len at i1 hcap ⊢
      have hs2 := hb2.size
      go_wp2_with fail
      (go_at_call 39; refine (c_cloneI _ (dvR A B p x N) (by intro h; have := dvR_len A B p x N; rw [h] at this; simp at this; omega) (by rw [dvR_len]; omega) _ (hR _)).mono ?_; rintro e w3 ⟨v, rfl, ho3, hb3⟩)
      go_wp2
      go_ret2
      refine ⟨_, rfl, ho3.le (by omega), below_step hb3 (by omega) (below_step hb2 hs1 hB1)⟩
/-- the places below k where z holds -/
def zList (z : Nat → Bool) : Nat → List Int
  | 0 => []
  | k + 1 => if z k then zList z k ++ [(k : Int)] else zList z k
theorem zList_len (z : Nat → Bool) : ∀ k, (zList z k).length ≤ k
  | 0 => Nat.le_refl _
  | k + 1 => by
    have := zList_len z k
    unfold zList
    split
    · rw [List.length_append]; simp; omega
    · omega
def rtZ (A B p : Int) (N k : Nat) : Bool := dvE A B p k N == 0
noncomputable def rtRes (A B p n : Int) : List Int := if dvOk A B p 0 n then zList (rtZ A B p n.toNat) p.toNat else []
theorem rtRes_len (A B p n : Int) : (rtRes A B p n).length ≤ 1000 := by
  unfold rtRes
  split
  · rename_i h
    obtain ⟨_, _, hp, _, _⟩ := fit_of (dvOk_of h).1
    have := zList_len (rtZ A B p n.toNat) p.toNat
    omega
  · simp
theorem fit_at {A B p : Int} (h : fitB A B p 0 = true) {x : Int} (h0 : 0 ≤ x) (h1 : x < p) : fitB A B p x = true := by
  unfold fitB at h ⊢
  simp only [Bool.and_eq_true] at h ⊢
  exact ⟨h.1, inB_mk h0 (by omega)⟩
theorem IntsPost.read {w : World} {xs : List Int} {b : Bool} {e : Ending} {w' : World} (h : IntsPost w xs b e w') : ReadPost w xs b e w' := by
  obtain ⟨v, h1, h2, h3⟩ := h
  exact ⟨v, h1, h2.rd, fun g hg => (h2.lt g hg).2, h3⟩
end Go.Proofs.YtgjdgcmmlfmhmaaGreatDoor
