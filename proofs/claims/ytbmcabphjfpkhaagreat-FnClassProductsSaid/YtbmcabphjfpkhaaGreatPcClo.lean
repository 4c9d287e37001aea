/- Walks: slices.Clone at numbers. -/
import Derived.Test.YtbmcabphjfpkhaaGreatPairI
import Derived.Lib.SliceRun
import Derived.Lib.Hide
namespace Go.Proofs.YtbmcabphjfpkhaaGreat
set_option linter.all false
open Go.RowKit

/-- all elements of a slice into a fresh one -/
theorem wpList_app_all {ops : Array Oper} {rest : List Oper} {o : Oper} {a : Act} {Q : Exit → Act → World → Prop} {wr : World} (hgd : o.guard = none) (s x : Operand)
    (ho : o.op = .call { callee := .builtin .append, args := #[s, x], argTypes := #[29, 29] })
    (ys : List Int) (g off cap : Nat) (hs : a.eval s = .slice (some ⟨wr.heap.size, 0, none⟩) 0 0) (hx : a.eval x = .slice (some ⟨g, off, none⟩) ys.length cap)
    (hc : ∀ i, i < ys.length → wr.cell? ⟨g, off + i, none⟩ = some (.int .i64 (ys[i]?.getD 0)) ∧ g < wr.heap.size)
    (hlen : ys.length < 1000000000000)
    (h : ∀ v' w1, OwnsI w1 wr.heap.size v' ys → Below wr.heap.size wr w1 → wpList Tryz.prog ops Q rest (a.put o.dst v') w1) :
    wpList Tryz.prog ops Q (o :: rest) a (wr.alloc (.cells #[] 3)) := by
  obtain ⟨i0, hi, hz0, hz1, hz2⟩ := info_parts Tryz.infoI
  have hown : (wr.alloc (.cells #[] 3)).ownsRow wr.heap.size 3 1 (.slice (some ⟨wr.heap.size, 0, none⟩) 0 0) 0 [] := World.ownsRow_lit wr #[] 0 (Nat.le_refl _) (by unfold maxLen; omega) rfl
  refine wpList_append_own _ hgd s x 29 ho wr.heap.size 3 i0 (.int .i64 0) 1 8 Tryz.underlying29 hi hz0 hz1 hz2 rfl (by decide) _ 0 [] hs hown ⟨g, off, none⟩ ys.length cap (ys.map (Value.int .i64)) hx (by simp) ?_ ?_ ?_ ?_ ?_ ?_
  · intro j u hj
    have hlt : j < ys.length := by have := (List.getElem?_eq_some_iff.1 hj).1; simpa using this
    obtain ⟨h1, h2⟩ := hc j hlt
    rw [List.getElem?_map, List.getElem?_eq_getElem hlt] at hj
    rw [List.getElem?_eq_getElem hlt] at h1
    have e : (⟨g, off, none⟩ : Addr).add j = ⟨g, off + j, none⟩ := by cases j <;> simp [Addr.add]
    rw [e]
    have := ((Below.refl wr.heap.size wr).alloc (Nat.le_refl _) (.cells #[] 3)).cell (p := ⟨g, off + j, none⟩) h2
    rw [this, h1, ← hj]; rfl
  · intro u hu; simp at hu; obtain ⟨y, _, rfl⟩ := hu; rfl
  · unfold maxLen; omega
  · omega
  · simp
  · intro v' w1 hown' hgrow _
    refine h v' w1 ?_ ?_
    · show w1.ownsRow _ _ _ _ _ _
      simpa using hown'
    · refine ((Below.refl wr.heap.size wr).alloc (Nat.le_refl _) _).grown hgrow (by simp) (fun k hk => ?_)
      simp [Value.ownBlock] at hk; omega
theorem c_cloneI (v : Value) (xs : List Int) (hx : xs ≠ []) (hL : xs.length ≤ 100000000) (w : World) (hr : RdI w v xs) :
    Calls Tryz.prog 60 #[v] w fun e w' => ∃ v', e = .returned v' ∧ OwnsI w' w.heap.size v' xs ∧ Below w.heap.size w w' := by
  obtain ⟨a, cap, rfl, hc⟩ := hr
  obtain ⟨g, o, rfl, _, _⟩ := hc 0 (List.length_pos_iff.2 hx)
  have hc' : ∀ i, i < xs.length → w.cell? ⟨g, o + i, none⟩ = some (.int .i64 (xs[i]?.getD 0)) ∧ g < w.heap.size := by
    intro i hi
    obtain ⟨g', o', e, h1, h2⟩ := hc i hi
    injection e with e
    injection e with e1 e2
    subst e1 e2
    exact ⟨h1, h2⟩
  have HC := Lib.hid hc'
  clear hc hc'
  have q22 : ∀ (w : World) (a : Option Addr) (n c n' c' : Nat), (binOp .eql 29 (.slice a n c) (.slice none n' c')).run Tryz.prog w = .ok (.bool a.isNone) w := fun w a n c n' c' => Lib.run_eql_slice_nil w _ _ a n c n' c' Tryz.underlying29
  go_enter Tryz.func60, Tryz.ntmps60
  go_wp2_with (at_builtin; refine wpList_app_all rfl _ _ rfl xs g o cap rfl rfl HC.out (by omega) ?_; intro v' w1 hown1 hb1)
  go_wp2
  go_ret
  exact ⟨_, rfl, hown1, hb1⟩
end Go.Proofs.YtbmcabphjfpkhaaGreat
