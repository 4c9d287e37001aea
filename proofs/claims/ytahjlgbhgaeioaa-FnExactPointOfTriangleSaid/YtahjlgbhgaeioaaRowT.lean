/- The row's ends for a triangle: three fractions, by value. -/
import Derived.Test.YtahjlgbhgaeioaaRow
import Derived.Deep.Strs
namespace Go.Proofs.Ytahjlgbhgaeioaa
open Go.ChangeShapes Go.WideShapes Go.ChangeAt Go.RowKit Go.Joins Go.Deep

theorem list2 {α : Type} {l : List α} (h : l.length = 2) : ∃ a b, l = [a, b] := by
  match l, h with
  | [a, b], _ => exact ⟨a, b, rfl⟩
theorem array6 {α : Type} {l : Array α} (h : l.size = 6) : ∃ a b c d e f, l = #[a, b, c, d, e, f] := by
  obtain ⟨l⟩ := l
  match l, h with
  | [a, b, c, d, e, f], _ => exact ⟨a, b, c, d, e, f, rfl⟩
section
variable {H : Type} {enc : TypeId × Value → H} {W : World} {sp : Nat → Bool} {held : Bool}
theorem cellsFr : Try.prog.cellsOf 23 = 2 := by kernel_rfl
theorem cellsTr : Try.prog.cellsOf 25 = 6 := by kernel_rfl
theorem cellsIn : Try.prog.cellsOf 3 = 1 := by kernel_rfl
theorem open_fr {n : Nat} {cs : List Value} {y : DataW H × List MemPlace} (h : DataW.trod enc Try.prog W 0 sp held n 23 cs = some y) :
    ∃ a b : Int, cs = [.int .i64 a, .int .i64 b] ∧ y = (.agg [.lit (.int .i64 a), .lit (.int .i64 b)], []) ∧ (Lit.int .i64 a).wf = true ∧ (Lit.int .i64 b).wf = true := by
  obtain ⟨y0, y1, m, rfl, hl, h0, h1⟩ := trod_struct2 Try.underlying23 h
  rw [cellsFr] at hl
  obtain ⟨c0, c1, rfl⟩ := list2 hl
  · simp only [cellsIn] at h0 h1
    obtain ⟨a, e0, rfl, wa⟩ := DataW.trod_int Try.underlying3 h0
    obtain ⟨b, e1, rfl, wb⟩ := DataW.trod_int Try.underlying3 h1
    simp at e0 e1
    exact ⟨a, b, by rw [e0, e1], rfl, wa, wb⟩
theorem shut_fr {a b : Int} (wa : (Lit.int .i64 a).wf = true) (wb : (Lit.int .i64 b).wf = true) (m : Nat) : DataW.trod enc Try.prog W 0 sp held (m + 1 + 1) 23 [.int .i64 a, .int .i64 b] = some (.agg [.lit (.int .i64 a), .lit (.int .i64 b)], []) :=
  trod_struct2_mk (y0 := (.lit (.int .i64 a), [])) (y1 := (.lit (.int .i64 b), [])) Try.underlying23 (by rw [cellsFr]; rfl) (by simp only [cellsIn]; exact trod_int_mk m Try.underlying3 wa) (by simp only [cellsIn]; exact trod_int_mk m Try.underlying3 wb)
set_option maxRecDepth 100000 in
theorem open_tri {b0 : Nat} {v : Value} {d : DataW H} {p : List MemPlace} (hv : Value.okWide Try.prog W .any b0 25 v) (h : DataW.Trod enc Try.prog W 0 sp held 25 v d p) :
    ∃ q0 q1 q2 q3 q4 q5 : Int, v = .agg #[.int .i64 q0, .int .i64 q1, .int .i64 q2, .int .i64 q3, .int .i64 q4, .int .i64 q5] ∧
      d = .agg [.agg [.lit (.int .i64 q0), .lit (.int .i64 q1)], .agg [.lit (.int .i64 q2), .lit (.int .i64 q3)], .agg [.lit (.int .i64 q4), .lit (.int .i64 q5)]] ∧ p = [] ∧
      (Lit.int .i64 q0).wf = true ∧ (Lit.int .i64 q1).wf = true ∧ (Lit.int .i64 q2).wf = true ∧ (Lit.int .i64 q3).wf = true ∧ (Lit.int .i64 q4).wf = true ∧ (Lit.int .i64 q5).wf = true := by
  obtain ⟨cs, rfl, hsz⟩ := okWide_struct Try.underlying25 hv
  rw [cellsTr] at hsz
  obtain ⟨fuel, hf⟩ := h
  obtain ⟨y0, y1, y2, n, hx, _, h0, h1, h2⟩ := trod_struct3 Try.underlying25 hf
  obtain ⟨c0, c1, c2, c3, c4, c5, rfl⟩ := array6 hsz
  · simp only [cellsFr, Value.cells] at h0 h1 h2
    obtain ⟨a0, a1, e0, rfl, w0, w1⟩ := open_fr h0
    obtain ⟨a2, a3, e1, rfl, w2, w3⟩ := open_fr h1
    obtain ⟨a4, a5, e2, rfl, w4, w5⟩ := open_fr h2
    simp at e0 e1 e2
    obtain ⟨rfl, rfl⟩ := e0
    obtain ⟨rfl, rfl⟩ := e1
    obtain ⟨rfl, rfl⟩ := e2
    simp only [Prod.mk.injEq] at hx
    exact ⟨a0, a1, a2, a3, a4, a5, rfl, hx.1, hx.2, w0, w1, w2, w3, w4, w5⟩
set_option maxRecDepth 100000 in
theorem shut_tri {q0 q1 q2 q3 q4 q5 : Int} (w0 : (Lit.int .i64 q0).wf = true) (w1 : (Lit.int .i64 q1).wf = true) (w2 : (Lit.int .i64 q2).wf = true) (w3 : (Lit.int .i64 q3).wf = true) (w4 : (Lit.int .i64 q4).wf = true) (w5 : (Lit.int .i64 q5).wf = true) :
    DataW.Trod enc Try.prog W 0 sp held 25 (.agg #[.int .i64 q0, .int .i64 q1, .int .i64 q2, .int .i64 q3, .int .i64 q4, .int .i64 q5]) (.agg [.agg [.lit (.int .i64 q0), .lit (.int .i64 q1)], .agg [.lit (.int .i64 q2), .lit (.int .i64 q3)], .agg [.lit (.int .i64 q4), .lit (.int .i64 q5)]]) [] :=
  ⟨_, trod_struct3_mk (y0 := (.agg [.lit (.int .i64 q0), .lit (.int .i64 q1)], [])) (y1 := (.agg [.lit (.int .i64 q2), .lit (.int .i64 q3)], [])) (y2 := (.agg [.lit (.int .i64 q4), .lit (.int .i64 q5)], [])) Try.underlying25 (by rw [cellsTr]; rfl)
    (by simp only [cellsFr, Value.cells]; exact shut_fr w0 w1 0) (by simp only [cellsFr, Value.cells]; exact shut_fr w2 w3 0) (by simp only [cellsFr, Value.cells]; exact shut_fr w4 w5 0)⟩
end
end Go.Proofs.Ytahjlgbhgaeioaa
