/- The calculator's contracts, by classes. -/
import Derived.Test.YtcnfjapoopdiaaaTri
import Derived.Test.YtcnfjapoopdiaaaCls
namespace Go.Proofs.Ytcnfjapoopdiaaa
open Go.RowKit

theorem mOk_fr {n d : Int} (h : mOk n d = true) : frOk (mkN n d) (mkD n d) = true := by
  unfold mOk mkOk at h
  simp only [Bool.and_eq_true] at h
  exact h.2
/-! the calculator's box -/
def CB (c : Nat) (o : Bool) (w : World) : Prop := w.cell? ⟨c, 0, none⟩ = some (.bool o) ∧ w.frozen? ⟨c, 0, none⟩ = false ∧ c < w.heap.size
theorem CB.closed (c : Nat) (o : Bool) : Closed (CB c o) := fun _ _ ⟨h1, h2, h3⟩ hb => ⟨(hb.cell (p := ⟨c, 0, none⟩) h3).trans h1, (hb.frozen (p := ⟨c, 0, none⟩) h3).trans h2, Nat.lt_of_lt_of_le h3 hb.size⟩
theorem CB.over {c r : Nat} {o : Bool} {w w' : World} (h : CB c o w) (ho : Over [r] w w') (hr : c ≠ r) : CB c o w' := by
  obtain ⟨h1, h2, h3⟩ := h
  exact ⟨(ho.cell (p := ⟨c, 0, none⟩) h3 (by simpa using hr)).trans h1, (ho.frozen (p := ⟨c, 0, none⟩) h3 (by simpa using hr)).trans h2, Nat.lt_of_lt_of_le h3 ho.size⟩
theorem Off.over {c : Nat} {w w' : World} (h : Off c w w') : Over [c] w w' := ⟨h.os, h.tape, h.output, h.size, fun k hk hn => h.block k hk (by simpa using hn)⟩
theorem Over.below1 {c B : Nat} {w w' : World} (h : Over [c] w w') (hc : B ≤ c) (hB : B ≤ w.heap.size) : Below B w w' := ⟨h.os, h.tape, h.output, h.size, fun k hk => h.block k (by omega) (by simp; omega)⟩
/-- a step of the calculator: the box c from o to o', the answer (x, y) -/
def Kq (f : FuncId) (args : List Value) (o : Bool) (x y : Int) (o' : Bool) : Prop := ∀ c w, CB c o w → Calls Try.prog f (.pointer (some ⟨c, 0, none⟩) :: args).toArray w fun r w' => r = .returned (.agg #[.int .i64 x, .int .i64 y]) ∧ Over [c] w w' ∧ CB c o' w'
theorem k_times (n d m e : Int) (o : Bool) (hA : frOk n d = true) (hB : frOk m e = true) : Kq 37 [.agg #[.int .i64 n, .int .i64 d], .agg #[.int .i64 m, .int .i64 e]] o (if o && mOk (n * m) (d * e) then mkN (n * m) (d * e) else 0) (if o && mOk (n * m) (d * e) then mkD (n * m) (d * e) else 1) (o && mOk (n * m) (d * e)) :=
  fun c w ⟨h1, h2, h3⟩ => (c_times c n d m e o hA hB w h1 h2 h3).mono fun _ _ ⟨he, ho, k1, k2⟩ => ⟨he, ho.over, k1, k2, Nat.lt_of_lt_of_le h3 ho.size⟩
theorem k_plus (n d m e : Int) (o : Bool) (hA : frOk n d = true) (hB : frOk m e = true) : Kq 40 [.agg #[.int .i64 n, .int .i64 d], .agg #[.int .i64 m, .int .i64 e]] o (if o && mOk (n * e + m * d) (d * e) then mkN (n * e + m * d) (d * e) else 0) (if o && mOk (n * e + m * d) (d * e) then mkD (n * e + m * d) (d * e) else 1) (o && mOk (n * e + m * d) (d * e)) :=
  fun c w ⟨h1, h2, h3⟩ => (c_plus c n d m e o hA hB w h1 h2 h3).mono fun _ _ ⟨he, ho, k1, k2⟩ => ⟨he, ho.over, k1, k2, Nat.lt_of_lt_of_le h3 ho.size⟩
theorem k_minus (n d m e : Int) (o : Bool) (hA : frOk n d = true) (hB : frOk m e = true) : Kq 38 [.agg #[.int .i64 n, .int .i64 d], .agg #[.int .i64 m, .int .i64 e]] o (if o && mOk (n * e - m * d) (d * e) then mkN (n * e - m * d) (d * e) else 0) (if o && mOk (n * e - m * d) (d * e) then mkD (n * e - m * d) (d * e) else 1) (o && mOk (n * e - m * d) (d * e)) :=
  fun c w ⟨h1, h2, h3⟩ => (c_minus c n d m e o hA hB w h1 h2 h3).mono fun _ _ ⟨he, ho, k1, k2⟩ => ⟨he, ho.over, k1, k2, Nat.lt_of_lt_of_le h3 ho.size⟩
theorem k_over (n d m e : Int) (o : Bool) (hA : frOk n d = true) (hB : frOk m e = true) : Kq 39 [.agg #[.int .i64 n, .int .i64 d], .agg #[.int .i64 m, .int .i64 e]] o (if o && mOk (n * e) (d * m) then mkN (n * e) (d * m) else 0) (if o && mOk (n * e) (d * m) then mkD (n * e) (d * m) else 1) (o && mOk (n * e) (d * m)) :=
  fun c w ⟨h1, h2, h3⟩ => (c_over c n d m e o hA hB w h1 h2 h3).mono fun _ _ ⟨he, ho, k1, k2⟩ => ⟨he, ho.over, k1, k2, Nat.lt_of_lt_of_le h3 ho.size⟩
theorem k_whole (n : Int) (o : Bool) (hn : -4000000000000000000 ≤ n ∧ n ≤ 4000000000000000000) : Kq 36 [.int .i64 n] o (if o && mOk n 1 then mkN n 1 else 0) (if o && mOk n 1 then mkD n 1 else 1) (o && mOk n 1) :=
  fun c w ⟨h1, h2, h3⟩ => (c_whole c n o hn w h1 h2 h3).mono fun _ _ ⟨he, ho, k1, k2⟩ => ⟨he, ho.over, k1, k2, Nat.lt_of_lt_of_le h3 ho.size⟩
end Go.Proofs.Ytcnfjapoopdiaaa
