/- The law FnExactClassOfCurve: for every input it returns true, and the input reads as it did. No condition. -/
import Derived.Test.YtidnifogjeaigaaRow
import Derived.Test.YtidnifogjeaigaaClw
namespace Go.Proofs.Ytidnifogjeaigaa.fnExactClassOfCurve
open Go.ChangeShapes Go.WideShapes Go.ChangeAt Go.RowKit Go.Joins
theorem cells31 : Try.prog.cellsOf 31 = 2 := by kernel_rfl
set_option linter.unusedVariables false
set_option maxRecDepth 100000 in
theorem lifted (os : Os) (started : os.Started) (H : Type) (enc : TypeId × Value → H) :
    ReturnsInHanded {} Try.checked os 5 .any (Rows.fnExactClassOfCurveSpec.pre6 enc Try.prog Try.f5 Rows.fnExactClassOfCurveRow.domain false) (Rows.fnExactClassOfCurveSpec.post enc Try.prog Try.f5 false true false false) := by
  refine returnsInHanded_of_change (C := Try.checked) Try.own started (by kernel_rfl) Try.func5
    (ChangeSpec.witness6 (enc := enc) (C := Try.checked) false ⟨#[], #[.int .i64 0, .agg #[.int .i64 0, .int .i64 0]], []⟩ 8 (by kernel_rfl) (by kernel_rfl) (by kernel_rfl) (by kernel_rfl)) ?_
  intro W base args ds gs before hval0 hW hcnd _
  have hval : ∀ (j : Nat) t v, Try.f5.params[j]? = some t → args[j]? = some v → Value.okWide Try.prog W .any base t v := hval0
  have hW' := hW
  obtain ⟨p, q, hA0, hV, rfl, hfz, hnd⟩ := hW
  have hA : DataW.TrodAll enc Try.prog W 0 (fun _ => true) true Try.f5.params.toList args.toList ds p := hA0
  rw [Try.params5] at hA hval
  obtain ⟨v0, vs0, d0, ds0, p0, q0, hargs, rfl, rfl, h0, r0⟩ := trodAll_cons hA
  obtain ⟨v1, vs1, d1, ds1, p1, q1, rfl, rfl, rfl, h1, r1⟩ := trodAll_cons r0
  obtain ⟨rfl, rfl, rfl⟩ := trodAll_nil r1
  obtain rfl : args = #[v0, v1] := by cases args; simp_all
  obtain ⟨rfl, rfl⟩ := trodVars_none hV
  obtain ⟨p, rfl, rfl, rfl, w_p⟩ := open_int Try.underlying3 (hval 0 3 v0 rfl rfl) h0
  obtain ⟨c1_0, c1_1, y1_0, y1_1, m1, rfl, rfl, rfl, hy1_0, hy1_1⟩ := open_agg2 Try.underlying31 (by kernel_rfl) cells31 (hval 1 31 v1 rfl rfl) h1
  obtain ⟨A, e1_0, rfl, w_A⟩ := DataW.trod_int Try.underlying3 hy1_0
  simp at e1_0
  subst e1_0
  obtain ⟨B, e1_1, rfl, w_B⟩ := DataW.trod_int Try.underlying3 hy1_1
  simp at e1_1
  subst e1_1
  clear hA0 hval0
  simp only [List.append_nil] at hW'
  have sh1 : ∀ (W' : World) (sp : Nat → Bool), DataW.Trod enc Try.prog W' 0 sp true 31 (.agg #[.int .i64 A, .int .i64 B]) (.agg [.lit (.int .i64 A), .lit (.int .i64 B)]) [] := fun W' sp =>
    shut_agg2 (y0 := (.lit (.int .i64 A), [])) (y1 := (.lit (.int .i64 B), [])) Try.underlying31 (by kernel_rfl) cells31 ⟨1, by simp [DataW.trod, Try.underlying3, w_A]⟩ ⟨1, by simp [DataW.trod, Try.underlying3, w_B]⟩
  refine (walk_FnExactClassOfCurve p A B w_p w_A w_B W).mono fun e W' ⟨he, hg⟩ => ?_
  subst he
  exact ⟨_, rfl, post_of_below (pa := []) (pv := []) hW' (fun _ _ _ => (trodAll_cons_mk (shut_bool Try.underlying4 _) trodAll_mk0)) (fun sp _ => (trodAll_cons_mk (shut_int Try.underlying3 w_p) (trodAll_cons_mk (sh1 _ sp) trodAll_mk0))) (fun _ _ => rfl) rfl hg (ok_one (by kernel_rfl) rfl (okWide_bool_mk Try.underlying4 _))⟩
theorem over : Rows.fnExactClassOfCurveRow.holds Try.pinned (OpenSpec.ofChange Rows.fnExactClassOfCurveSpec) :=
  OpenClaim.holds_of_wide 5 Try.f5 rfl rfl rfl rfl rfl rfl rfl ⟨rfl, rfl, rfl, rfl, rfl⟩ rfl rfl rfl rfl rfl (by kernel_rfl) Try.func5 (by kernel_rfl)
    (of_decide_eq_true (by kernel_rfl)) (by unfold Func.isWrapper; first | (rw [if_pos (by decide +kernel)]; kernel_rfl) | (rw [if_neg (by decide +kernel)]; exact ⟨rfl, rfl⟩))
    (fun os started H enc _ => lifted os started H enc)
theorem proved : Rows.FnExactClassOfCurveSaid := over
#print axioms proved
end Go.Proofs.Ytidnifogjeaigaa.fnExactClassOfCurve
