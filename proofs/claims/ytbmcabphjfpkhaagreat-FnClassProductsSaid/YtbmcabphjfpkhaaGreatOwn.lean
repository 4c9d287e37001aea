/- Rows of structs of a call's own: cells, append, what is kept. -/
import Derived.Test.YtbmcabphjfpkhaaGreatCls
import Derived.Test.YtbmcabphjfpkhaaGreatNum
import Derived.Deep.RegionHeld3
import Derived.Maps.AppendAt
namespace Go.Proofs.YtbmcabphjfpkhaaGreat
open Go.RowKit

theorem own_below {w w1 : World} {base e size n : Nat} {v : Value} {xs : List Value} (h : w.ownsRow base e size v n xs) (hb : Below w.heap.size w w1) : w1.ownsRow base e size v n xs := by
  refine ⟨h.1, ?_⟩
  rcases h.2 with h0 | ⟨g, cap, cur, hv, hg, hh, r⟩
  · exact .inl h0
  · exact .inr ⟨g, cap, cur, hv, hg, (hb.block g (Array.getElem?_eq_some_iff.1 hh).1).trans hh, r⟩
theorem own_le {w : World} {base base' e size n : Nat} {v : Value} {xs : List Value} (h : w.ownsRow base e size v n xs) (hb : base' ≤ base) : w.ownsRow base' e size v n xs :=
  ⟨h.1, h.2.elim Or.inl (fun ⟨g, cap, cur, hv, hg, r⟩ => Or.inr ⟨g, cap, cur, hv, Nat.le_trans hb hg, r⟩)⟩
theorem own_over {ex : List Nat} {w w1 : World} {base e size n : Nat} {v : Value} {xs : List Value} (h : w.ownsRow base e size v n xs) (ho : Over ex w w1) (hn : ∀ k, v.ownBlock = some k → k ∉ ex) : w1.ownsRow base e size v n xs := by
  refine ⟨h.1, ?_⟩
  rcases h.2 with h0 | ⟨g, cap, cur, hv, hg, hh, r⟩
  · exact .inl h0
  · exact .inr ⟨g, cap, cur, hv, hg, (ho.block g (Array.getElem?_eq_some_iff.1 hh).1 (hn g (by rw [hv]; rfl))).trans hh, r⟩
theorem own_lt {w : World} {base e size n : Nat} {v : Value} {xs : List Value} (h : w.ownsRow base e size v n xs) : ∀ k, v.ownBlock = some k → base ≤ k ∧ k < w.heap.size := World.ownsRow.lt h
/-- the row's form, if it has elements: its block, its cells -/
theorem own_form {w : World} {base e size n : Nat} {v : Value} {xs : List Value} (h : w.ownsRow base e size v n xs) :
    ∃ (a : Option Addr) (cap : Nat), v = .slice a n cap ∧ n ≤ cap ∧ (∀ i (_ : i < n), ∃ g, a = some ⟨g, 0, none⟩ ∧ g < w.heap.size ∧ base ≤ g ∧ (∀ o, w.frozen? ⟨g, o, none⟩ = false) ∧ (∀ k u, k < size → xs[i * size + k]? = some u → w.cell? ⟨g, i * size + k, none⟩ = some u)) := by
  rcases h.2 with ⟨hv, hn⟩ | ⟨g, cap, cur, hv, hg, hh, hnc, hcm, hcs, ht⟩
  · exact ⟨none, 0, by rw [hv, hn], by omega, fun i hi => by omega⟩
  · refine ⟨some ⟨g, 0, none⟩, cap, hv, hnc, fun i hi => ⟨g, rfl, (Array.getElem?_eq_some_iff.1 hh).1, hg, fun o => by simp [World.frozen?, hh], fun k u hk hu => ?_⟩⟩
    have hlt : i * size + k < n * size := by
      have : (i + 1) * size ≤ n * size := Nat.mul_le_mul_right _ (by omega)
      rw [Nat.add_mul] at this
      omega
    have h4 : (cur.toList.take (n * size))[i * size + k]? = cur.toList[i * size + k]? := List.getElem?_take_of_lt hlt
    rw [ht, hu] at h4
    rw [Array.getElem?_toList] at h4
    show (match w.heap[g]? with | some (.cells cs _ _) => _ | _ => _) = _
    rw [hh]; exact h4.symm
/-- the row's block has the elements' type -/
theorem own_blk {w : World} {base e size n : Nat} {v : Value} {xs : List Value} (h : w.ownsRow base e size v n xs) : ∀ k, v.ownBlock = some k → ∃ cur, Blk k cur e w := by
  intro k hk
  rcases h.2 with ⟨hv, _⟩ | ⟨g, cap, cur, hv, hg, hh, _⟩
  · rw [hv] at hk; cases hk
  · rw [hv] at hk
    injection hk with hk
    exact ⟨cur, hk ▸ hh⟩
theorem own_built (w : World) (e size : Nat) (cs : List Value) (hs : cs.length = size) : (w.alloc (.cells cs.toArray e)).ownsRow w.heap.size e size (.slice (some ⟨w.heap.size, 0, none⟩) 1 1) 1 cs := by
  refine ⟨by omega, .inr ⟨w.heap.size, 1, cs.toArray, rfl, Nat.le_refl _, ?_, ?_, ?_, ?_, ?_⟩⟩
  · exact Blk.new w _ _
  · omega
  · unfold maxLen; omega
  · simp [hs]
  · simp [← hs]
/-- append of one element that stands in a block of its own, laid last -/
theorem wpList_appG {ops : Array Oper} {rest : List Oper} {o : Oper} {a : Act} {Q : Exit → Act → World → Prop} {wr : World} (e tS size bytes : Nat) (z : Value) (hgd : o.guard = none) (s x : Operand)
    (ho : o.op = .call { callee := .builtin .append, args := #[s, x], argTypes := #[tS, tS] }) (hinfo : (Tryz.prog.info? e).map (fun i => (i.zero, i.size, i.bytes)) = some (some z, size, bytes)) (ht : Tryz.prog.underlying tS = some (.slice e)) (hzs : z.cells.size = size) (hsz : 0 < size) (hbt : bytes ≤ 1000)
    (base : Nat) (v : Value) (n : Nat) (L : List Value) (hs : a.eval s = v) (hown : wr.ownsRow base e size v n L) (us : List Value) (hul : us.length = size) (h1 : ∀ u ∈ us, u.oneCell' = true) (hx : a.eval x = .slice (some ⟨wr.heap.size, 0, none⟩) 1 1)
    (hlen : n < 1000000) (hbase : base ≤ wr.heap.size)
    (h : ∀ v' w1, w1.ownsRow base e size v' (n + 1) (L ++ us) → Over v.ownBlock.toList wr w1 → Below base wr w1 → (v'.ownBlock = v.ownBlock ∨ ∃ k, v'.ownBlock = some k ∧ wr.heap.size ≤ k) → wpList Tryz.prog ops Q rest (a.put o.dst v') w1) :
    wpList Tryz.prog ops Q (o :: rest) a (wr.alloc (.cells us.toArray e)) := by
  obtain ⟨i0, hi, hz0, hz1, hz2⟩ := info_parts hinfo
  refine wpList_append_own_at _ hgd s x tS ho base e i0 z size bytes ht hi hz0 hz1 hz2 hzs hsz v n L hs (World.ownsRow.alloc hown _) ⟨wr.heap.size, 0, none⟩ 1 1 us hx (by omega) ?_ h1 ?_ ?_ ?_ ?_
  · intro j u hj
    have e1 := (Blk.new wr us.toArray e).cell j
    rw [show (⟨wr.heap.size, 0, none⟩ : Addr).add j = ⟨wr.heap.size, j, none⟩ by simp [Addr.add]; omega]
    rw [e1]
    simpa using hj
  · unfold maxLen; omega
  · have : (n + 1) * bytes ≤ 1000000 * 1000 := Nat.mul_le_mul (by omega) hbt
    omega
  · simp; omega
  · intro v' w1 hown' hgrow _ hat
    refine h v' w1 hown' ?_ ?_ (hat.imp id fun h => ⟨_, h, by simp⟩)
    · have ha := (Below.refl wr.heap.size wr).alloc (Nat.le_refl _) (.cells us.toArray e)
      refine ⟨hgrow.os.trans ha.os, hgrow.tape.trans ha.tape, hgrow.output.trans ha.output, Nat.le_trans ha.size hgrow.size, fun k hk hn => ?_⟩
      refine (hgrow.block k (Nat.lt_of_lt_of_le hk ha.size) ?_).trans (ha.block k hk)
      cases hv : v.ownBlock with
      | none => simp
      | some g => rw [hv] at hn; simpa using hn
    · refine ((Below.refl base wr).alloc hbase _).grown hgrow (by simp; omega) (fun k hk => ?_)
      exact (World.ownsRow.lt hown k hk).1
end Go.Proofs.YtbmcabphjfpkhaaGreat
