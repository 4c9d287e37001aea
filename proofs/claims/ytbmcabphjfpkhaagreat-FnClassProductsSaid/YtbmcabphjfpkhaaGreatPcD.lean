/- Walks: classes, drawn (classOf, DrawProductClass). -/
import Derived.Test.YtbmcabphjfpkhaaGreatPcC
import Derived.Test.YtbmcabphjfpkhaaGreatDr
import Derived.Test.YtbmcabphjfpkhaaGreatDrawT
namespace Go.Proofs.YtbmcabphjfpkhaaGreat
open Go.RowKit

theorem clsv_six {v : Int} (h : v ∈ [0, 4, 12, 1000001, -1000001, -999999]) : ClsV v := by
  simp only [List.mem_cons, List.not_mem_nil, or_false] at h
  exact .inr (by omega)
theorem clsv_code {v : Int} (h : v ∈ [1, -1, 2, -3, 5, 6, -10, 30, 7, 510510, 999983, 3, 11]) : ClsV v := by
  simp only [List.mem_cons, List.not_mem_nil, or_false] at h
  rcases h with rfl | rfl | rfl | rfl | rfl | rfl | rfl | rfl | rfl | rfl | rfl | rfl | rfl
  · exact .inl ⟨0, by omega, by decide +kernel⟩
  · exact .inl ⟨256, by omega, by decide +kernel⟩
  · exact .inl ⟨1, by omega, by decide +kernel⟩
  · exact .inl ⟨258, by omega, by decide +kernel⟩
  · exact .inl ⟨4, by omega, by decide +kernel⟩
  · exact .inl ⟨3, by omega, by decide +kernel⟩
  · exact .inl ⟨261, by omega, by decide +kernel⟩
  · exact .inl ⟨7, by omega, by decide +kernel⟩
  · exact .inl ⟨8, by omega, by decide +kernel⟩
  · exact .inl ⟨127, by omega, by decide +kernel⟩
  · exact .inl ⟨128, by omega, by decide +kernel⟩
  · exact .inl ⟨2, by omega, by decide +kernel⟩
  · exact .inl ⟨16, by omega, by decide +kernel⟩
section
variable {B k n : Nat} {v : Value} {xs : List Int} {w0 w : World} {bl : List (Nat × Array Value × TypeId)}
def ClsD (B k : Nat) (v : Value) (xs : List Int) (n : Nat) (w0 : World) (bl : List (Nat × Array Value × TypeId)) (e : Ending) (w' : World) : Prop :=
  ∃ b : Int, e = .returned (.int .i64 b) ∧ ClsV b ∧ Dr B k v xs n w0 bl w'
theorem d_classOf (d : Dr B k v xs n w0 bl w) (hn : n ≤ 800000) : Calls Tryz.prog 23 #[.pointer (some ⟨k, 0, none⟩)] w (ClsD B k v xs (n + 4) w0 bl) := by
  go_enter Tryz.func23, Tryz.ntmps23
  go_wp2_with fail
  refine (d_among d (by omega) [0, 4, 12, 1000001, -1000001, -999999] (by simp)).mono ?_
  rintro e w2 ⟨x, rfl, hx, d2⟩
  go_wp2_with fail
  refine (d_among d2 (by omega) [1, -1, 2, -3, 5, 6, -10, 30, 7, 510510, 999983, x] (by simp)).mono ?_
  rintro e w4 ⟨y, rfl, hy, d4⟩
  have hY : ClsV y := by
    have hx' := clsv_six hx
    simp only [List.mem_cons, List.not_mem_nil, or_false] at hy
    rcases hy with h | h | h | h | h | h | h | h | h | h | h | h
    iterate 11 (· subst h; exact clsv_code (by simp))
    · subst h; exact hx'
  go_wp2
  go_ret
  exact ⟨y, rfl, hY, d4⟩
/-- two classes, drawn by a function -/
def TwoClsP (w : World) (e : Ending) (w' : World) : Prop := ∃ a b : Int, e = .returned (.tuple #[.int .i64 a, .int .i64 b]) ∧ (ClsV a ∧ ClsV b) ∧ Below w.heap.size w w'
theorem d_drawProduct (v : Value) (xs : List Int) (w : World) (h : RdB w w.heap.size v xs) : Calls Tryz.prog 5 #[v] w (TwoClsP w) := by
  have d1 := Dr.make0 h
  obtain ⟨a0, cap, rfl, _⟩ := h
  go_enter Tryz.func5, Tryz.ntmps5
  go_wp2_with fail
  refine (d_classOf d1 (by omega)).mono ?_
  rintro e w2 ⟨a, rfl, ha, d2⟩
  go_wp2_with fail
  refine (d_classOf d2 (by omega)).mono ?_
  rintro e w3 ⟨b, rfl, hb, d3⟩
  go_wp2
  go_ret2
  exact ⟨a, b, rfl, ⟨ha, hb⟩, d3.out⟩
end
end Go.Proofs.YtbmcabphjfpkhaaGreat
