/- Walks: division values as text (DivisionText); its law. -/
import Derived.Test.YtmlfkceafkhlaaaDoorWtx
import Derived.Test.YtmlfkceafkhlaaaDoorDwE
namespace Go.Proofs.YtmlfkceafkhlaaaDoor
open Go.RowKit

noncomputable def dtx (A B x n : Int) : List UInt8 := if dwFine A B x n then wtx (dwVal A B x n) else []
theorem dwVal_len (A B x n : Int) : (dg (dwVal A B x n).natAbs).length ≤ 400 := by
  unfold dwVal
  split
  · rename_i h
    unfold dwFine at h
    rw [Bool.and_eq_true] at h
    simpa [okW] using h.2
  · rw [show dg (Int.natAbs 0) = [] from dg_zero]; simp
theorem wtx_len {K : Int} (h : (dg K.natAbs).length ≤ 400) : (wtx K).length ≤ 2000 := by
  have := wtK_len (dg_Dg K.natAbs).1 (dg K.natAbs).length
  unfold wtx
  split
  · simp
  · split <;> simp <;> omega
theorem dtx_len (A B x n : Int) : (dtx A B x n).length ≤ 2000 := by
  unfold dtx
  split
  · exact wtx_len (dwVal_len A B x n)
  · simp
def DtPost (T : List UInt8) (b : Bool) (w : World) (e : Ending) (w' : World) : Prop := e = .returned (.tuple #[.string ⟨T.toArray⟩, .bool b]) ∧ Below w.heap.size w w'
set_option maxHeartbeats 2000000 in
set_option maxRecDepth 20000 in
theorem c_iDivisionText (A B x n : Int) (w : World) (ht : TabI w) :
    Calls Tryd.prog 6 #[.agg #[.int .i64 A, .int .i64 B], .int .i64 x, .int .i64 n] w (DtPost (dtx A B x n) (dwFine A B x n) w) := by
  have hlV := dwVal_len A B x n
  have HI := Lib.hid (c_iDivisionWhole A B x n)
  have HX : Hid (dtx A B x n = if dwFine A B x n then wtx (dwVal A B x n) else []) := rfl
  generalize dtx A B x n = X at *
  generalize dwVal A B x n = V at *
  generalize dwFine A B x n = fine at *
  have HT := Lib.hid ht
  clear ht
  have kC := Blk.new w #[.int .i64 A, .int .i64 B] 26
  have hb0 : Below w.heap.size w (w.alloc (.cells #[.int .i64 A, .int .i64 B] 26)) := (Below.refl _ _).alloc (Nat.le_refl _) _
  have hsz := hb0.size
  go_enter Tryd.func6, Tryd.ntmps6
  go_upto_region 1 with (fail)
  generalize w.alloc _ = W at *
  have kC0 : (W).cell? ⟨w.heap.size, 0, none⟩ = some (.int .i64 A) := kC.cell 0; have kC1 : (W).cell? ⟨w.heap.size, 1, none⟩ = some (.int .i64 B) := kC.cell 1; have kCl : w.heap.size < (W).heap.size := kC.lt
  go_wp2_with fail
  refine (HI.out _).mono ?_
  rintro e w1 ⟨v1, rfl, hwh, hb1⟩
  obtain ⟨l1, rfl, r1⟩ := hwh
  obtain ⟨s1, p1, rfl, _⟩ := id r1.1
  have hbb1 : Below w.heap.size w w1 := below_step hb1 hsz hb0
  have k2 := Blk.new w1 #[.bool (decide (V < 0)), .slice s1 (dg V.natAbs).length p1] 31
  have hb2 : Below w1.heap.size w1 (w1.alloc (.cells #[.bool (decide (V < 0)), .slice s1 (dg V.natAbs).length p1] 31)) := (Below.refl _ _).alloc (Nat.le_refl _) _
  have r2 := r1.1.below hb2
  have hbb2 : Below w.heap.size w (w1.alloc (.cells #[.bool (decide (V < 0)), .slice s1 (dg V.natAbs).length p1] 31)) := below_step hb2 hbb1.size hbb1
  go_upto_region 2 with (fail)
  generalize w1.alloc _ = w2 at *
  generalize w1.heap.size = r8 at *
  have x0 : w2.cell? ⟨r8, 0, none⟩ = some (.bool (decide (V < 0))) := k2.cell 0
  have x1 : w2.cell? ⟨r8, 1, none⟩ = some (.slice s1 (dg V.natAbs).length p1) := k2.cell 1
  have hs2 := hbb2.size
  cases fine
  · have hx : Hid (X = []) := HX.out.trans (if_neg (by decide))
    go_wp2
    refine bodyPost_ret (v := .tuple #[.string ⟨#[]⟩, .bool false]) (by simp [results, Tryd.results6, go_sem]) rfl ?_
    exact ⟨by rw [hx.out], hbb2⟩
  · have hx : Hid (X = wtx V) := HX.out.trans (if_pos rfl)
    have HW := Lib.hid (c_wholeText V _ (by omega) w2 (HT.out.below hbb2) ⟨_, rfl, r2⟩)
    clear HX HI
    go_wp2_with fail
    refine HW.out.mono ?_
    rintro e w3 ⟨rfl, hb3⟩
    have hbb3 : Below w.heap.size w w3 := below_step hb3 hs2 hbb2
    go_wp2
    refine bodyPost_ret (v := .tuple #[.string ⟨(wtx V).toArray⟩, .bool true]) (by simp [results, Tryd.results6, go_sem]) rfl ?_
    exact ⟨by rw [hx.out], hbb3⟩
set_option maxHeartbeats 2000000 in
set_option maxRecDepth 20000 in
theorem c_sDivisionText (A B x n : Int) (w : World) (ht : TabI w) :
    Calls Tryd.prog 4 #[.agg #[.int .i64 A, .int .i64 B], .int .i64 x, .int .i64 n] w (DtPost (dtx A B x n) (dwFine A B x n) w) := by
  have hlV := dwVal_len A B x n
  have HI := Lib.hid (c_dpExact A B x n)
  have HX : Hid (dtx A B x n = if dwFine A B x n then wtx (dwVal A B x n) else []) := rfl
  generalize dtx A B x n = X at *
  generalize dwVal A B x n = V at *
  generalize dwFine A B x n = fine at *
  have HT := Lib.hid ht
  clear ht
  have kC := Blk.new w #[.int .i64 A, .int .i64 B] 26
  have hb0 : Below w.heap.size w (w.alloc (.cells #[.int .i64 A, .int .i64 B] 26)) := (Below.refl _ _).alloc (Nat.le_refl _) _
  have hsz := hb0.size
  go_enter Tryd.func4, Tryd.ntmps4
  go_upto_region 1 with (fail)
  generalize w.alloc _ = W at *
  have kC0 : (W).cell? ⟨w.heap.size, 0, none⟩ = some (.int .i64 A) := kC.cell 0; have kC1 : (W).cell? ⟨w.heap.size, 1, none⟩ = some (.int .i64 B) := kC.cell 1; have kCl : w.heap.size < (W).heap.size := kC.lt
  go_wp2_with fail
  refine (HI.out _).mono ?_
  rintro e w1 ⟨v1, rfl, hwh, hb1⟩
  obtain ⟨l1, rfl, r1⟩ := hwh
  obtain ⟨s1, p1, rfl, _⟩ := id r1.1
  have hbb1 : Below w.heap.size w w1 := below_step hb1 hsz hb0
  have k2 := Blk.new w1 #[.bool (decide (V < 0)), .slice s1 (dg V.natAbs).length p1] 31
  have hb2 : Below w1.heap.size w1 (w1.alloc (.cells #[.bool (decide (V < 0)), .slice s1 (dg V.natAbs).length p1] 31)) := (Below.refl _ _).alloc (Nat.le_refl _) _
  have r2 := r1.1.below hb2
  have hbb2 : Below w.heap.size w (w1.alloc (.cells #[.bool (decide (V < 0)), .slice s1 (dg V.natAbs).length p1] 31)) := below_step hb2 hbb1.size hbb1
  go_upto_region 2 with (fail)
  generalize w1.alloc _ = w2 at *
  generalize w1.heap.size = r8 at *
  have x0 : w2.cell? ⟨r8, 0, none⟩ = some (.bool (decide (V < 0))) := k2.cell 0
  have x1 : w2.cell? ⟨r8, 1, none⟩ = some (.slice s1 (dg V.natAbs).length p1) := k2.cell 1
  have hs2 := hbb2.size
  cases fine
  · have hx : Hid (X = []) := HX.out.trans (if_neg (by decide))
    go_wp2
    refine bodyPost_ret (v := .tuple #[.string ⟨#[]⟩, .bool false]) (by simp [results, Tryd.results4, go_sem]) rfl ?_
    exact ⟨by rw [hx.out], hbb2⟩
  · have hx : Hid (X = wtx V) := HX.out.trans (if_pos rfl)
    have HW := Lib.hid (c_bgText V _ (by omega) w2 ⟨_, rfl, r2⟩)
    clear HX HI
    go_wp2_with fail
    refine HW.out.mono ?_
    rintro e w3 ⟨rfl, hb3⟩
    have hbb3 : Below w.heap.size w w3 := below_step hb3 hs2 hbb2
    go_wp2
    refine bodyPost_ret (v := .tuple #[.string ⟨(wtx V).toArray⟩, .bool true]) (by simp [results, Tryd.results4, go_sem]) rfl ?_
    exact ⟨by rw [hx.out], hbb3⟩
set_option maxHeartbeats 2000000 in
set_option maxRecDepth 20000 in
theorem walk_FnExactDivisionText (A B x n : Int) (_ : (Lit.int .i64 A).wf = true) (_ : (Lit.int .i64 B).wf = true) (_ : (Lit.int .i64 x).wf = true) (_ : (Lit.int .i64 n).wf = true) (w : World) (ht : TabI w) :
    Calls Tryd.prog 3 #[.agg #[.int .i64 A, .int .i64 B], .int .i64 x, .int .i64 n] w fun e w' => e = .returned (.bool true) ∧ Below w.heap.size w w' := by
  have HS := Lib.hid (c_sDivisionText A B x n)
  have HI := Lib.hid (c_iDivisionText A B x n)
  unfold DtPost at HS HI
  have HT := Lib.hid ht
  clear ht
  generalize (⟨(dtx A B x n).toArray⟩ : ByteArray) = X at *
  generalize dwFine A B x n = fine at *
  have kC := Blk.new w #[.int .i64 A, .int .i64 B] 23
  have hB : Below w.heap.size w (w.alloc (.cells #[.int .i64 A, .int .i64 B] 23)) := (Below.refl _ _).alloc (Nat.le_refl _) _
  go_enter Tryd.func3, Tryd.ntmps3
  go_upto_region 1 with (fail)
  generalize w.alloc _ = W at *
  have hz := hB.size
  have c0 : W.cell? ⟨w.heap.size, 0, none⟩ = some (.int .i64 A) := kC.cell 0
  have c1 : W.cell? ⟨w.heap.size, 1, none⟩ = some (.int .i64 B) := kC.cell 1
  go_wp2_with fail
  refine (c_toCurve _ _ _).mono ?_
  rintro e w1 ⟨rfl, hb1⟩
  replace kC := kC.next hb1
  replace hB := below_step hb1 hz hB
  have hz1 := hB.size
  clear c0 c1 hb1
  go_wp2_with fail
  refine (HS.out w1 (HT.out.below hB)).mono ?_
  rintro e w2 ⟨rfl, hb2⟩
  replace kC := kC.next hb2
  replace hB := below_step hb2 hz1 hB
  have hz2 := hB.size
  have c0 : w2.cell? ⟨w.heap.size, 0, none⟩ = some (.int .i64 A) := kC.cell 0
  have c1 : w2.cell? ⟨w.heap.size, 1, none⟩ = some (.int .i64 B) := kC.cell 1
  clear hb2
  go_wp2_with fail
  refine (c_toCurve _ _ _).mono ?_
  rintro e w3 ⟨rfl, hb3⟩
  replace hB := below_step hb3 hz2 hB
  have hz3 := hB.size
  clear c0 c1 hb3 kC
  go_wp2_with fail
  refine (HI.out w3 (HT.out.below hB)).mono ?_
  rintro e w4 ⟨rfl, hb4⟩
  replace hB := below_step hb4 hz3 hB
  go_wp2
  go_ret
  exact ⟨rfl, hB⟩
end Go.Proofs.YtmlfkceafkhlaaaDoor
