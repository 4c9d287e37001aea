/- The law FnExactCheckLog: for every input it returns true, and the input reads as it did. No condition. -/
import Derived.Test.YtmahgnmacakfnaaRow
import Derived.Test.YtmahgnmacakfnaaRowP
import Derived.Test.YtmahgnmacakfnaaChkL
namespace Go.Proofs.Ytmahgnmacakfnaa.fnExactCheckLog
open Go.ChangeShapes Go.WideShapes Go.ChangeAt Go.RowKit Go.Joins
theorem cells31 : Try.prog.cellsOf 31 = 2 := by kernel_rfl
set_option linter.unusedVariables false
set_option maxRecDepth 100000 in
theorem lifted (os : Os) (started : os.Started) (H : Type) (enc : TypeId × Value → H) :
    ReturnsInHanded {} Try.checked os 7 .any (Rows.fnExactCheckLogSpec.pre6 enc Try.prog Try.f7 Rows.fnExactCheckLogRow.domain false) (Rows.fnExactCheckLogSpec.post enc Try.prog Try.f7 false true false false) := by
  refine returnsInHanded_of_change (C := Try.checked) Try.own started (by kernel_rfl) Try.func7
    (ChangeSpec.witness6 (enc := enc) (C := Try.checked) false ⟨#[], #[.agg #[.int .i64 0, .int .i64 0], .slice none 0 0, .agg #[.int .i64 0, .int .i64 0]], []⟩ 8 (by kernel_rfl) (by kernel_rfl) (by kernel_rfl) (by kernel_rfl)) ?_
  intro W base args ds gs before hval0 hW hcnd _
  have hval : ∀ (j : Nat) t v, Try.f7.params[j]? = some t → args[j]? = some v → Value.okWide Try.prog W .any base t v := hval0
  have hW' := hW
  obtain ⟨p, q, hA0, hV, rfl, hfz, hnd⟩ := hW
  have hA : DataW.TrodAll enc Try.prog W 0 (fun _ => true) true Try.f7.params.toList args.toList ds p := hA0
  rw [Try.params7] at hA hval
  obtain ⟨v0, vs0, d0, ds0, p0, q0, hargs, rfl, rfl, h0, r0⟩ := trodAll_cons hA
  obtain ⟨v1, vs1, d1, ds1, p1, q1, rfl, rfl, rfl, h1, r1⟩ := trodAll_cons r0
  obtain ⟨v2, vs2, d2, ds2, p2, q2, rfl, rfl, rfl, h2, r2⟩ := trodAll_cons r1
  obtain ⟨rfl, rfl, rfl⟩ := trodAll_nil r2
  obtain rfl : args = #[v0, v1, v2] := by cases args; simp_all
  obtain ⟨rfl, rfl⟩ := trodVars_none hV
  obtain ⟨c0_0, c0_1, y0_0, y0_1, m0, rfl, rfl, rfl, hy0_0, hy0_1⟩ := open_agg2 Try.underlying31 (by kernel_rfl) cells31 (hval 0 31 v0 rfl rfl) h0
  obtain ⟨A, e0_0, rfl, w_A⟩ := DataW.trod_int Try.underlying3 hy0_0
  simp at e0_0
  subst e0_0
  obtain ⟨B, e0_1, rfl, w_B⟩ := DataW.trod_int Try.underlying3 hy0_1
  simp at e0_1
  subst e0_1
  obtain ⟨L, o_L, w_L⟩ := open_steps (hval 1 22 v1 rfl rfl) h1
  obtain ⟨c2_0, c2_1, y2_0, y2_1, m2, rfl, rfl, rfl, hy2_0, hy2_1⟩ := open_agg2 Try.underlying31 (by kernel_rfl) cells31 (hval 2 31 v2 rfl rfl) h2
  obtain ⟨C, e2_0, rfl, w_C⟩ := DataW.trod_int Try.underlying3 hy2_0
  simp at e2_0
  subst e2_0
  obtain ⟨D, e2_1, rfl, w_D⟩ := DataW.trod_int Try.underlying3 hy2_1
  simp at e2_1
  subst e2_1
  clear hA0 hval0
  have hlt : ∀ x ∈ p1, x.block < W.heap.size := fun x hx => hW'.lt x (by simp [hx])
  have sh0 : ∀ (W' : World) (sp : Nat → Bool), DataW.Trod enc Try.prog W' 0 sp true 31 (.agg #[.int .i64 A, .int .i64 B]) (.agg [.lit (.int .i64 A), .lit (.int .i64 B)]) [] := fun W' sp =>
    shut_agg2 (y0 := (.lit (.int .i64 A), [])) (y1 := (.lit (.int .i64 B), [])) Try.underlying31 (by kernel_rfl) cells31 ⟨1, by simp [DataW.trod, Try.underlying3, w_A]⟩ ⟨1, by simp [DataW.trod, Try.underlying3, w_B]⟩
  have sh2 : ∀ (W' : World) (sp : Nat → Bool), DataW.Trod enc Try.prog W' 0 sp true 31 (.agg #[.int .i64 C, .int .i64 D]) (.agg [.lit (.int .i64 C), .lit (.int .i64 D)]) [] := fun W' sp =>
    shut_agg2 (y0 := (.lit (.int .i64 C), [])) (y1 := (.lit (.int .i64 D), [])) Try.underlying31 (by kernel_rfl) cells31 ⟨1, by simp [DataW.trod, Try.underlying3, w_C]⟩ ⟨1, by simp [DataW.trod, Try.underlying3, w_D]⟩
  refine (walk_FnExactCheckLog A B C D v1 L w_A w_B w_C w_D w_L W o_L).mono fun e W' ⟨he, hg⟩ => ?_
  subst he
  exact ⟨_, rfl, post_of_below (pa := ([] : List MemPlace) ++ (p1 ++ (([] : List MemPlace) ++ []))) (pv := []) hW' (fun _ _ _ => (trodAll_cons_mk (shut_bool Try.underlying4 _) trodAll_mk0)) (fun sp hsp => (trodAll_cons_mk (sh0 _ sp) (trodAll_cons_mk (Go.WideElems.Trod_stays (by kernel_rfl) (by kernel_rfl) (of_decide_eq_true (by kernel_rfl)) h1 (fun x hx => hg.same (hlt x hx)) (fun x hx => hsp x (by simp [hx]))) (trodAll_cons_mk (sh2 _ sp) trodAll_mk0)))) (fun _ _ => rfl) (by simp) hg (ok_one (by kernel_rfl) rfl (okWide_bool_mk Try.underlying4 _))⟩
theorem over : Rows.fnExactCheckLogRow.holds Try.pinned (OpenSpec.ofChange Rows.fnExactCheckLogSpec) :=
  OpenClaim.holds_of_wide 7 Try.f7 rfl rfl rfl rfl rfl rfl rfl ⟨rfl, rfl, rfl, rfl, rfl⟩ rfl rfl rfl rfl rfl (by kernel_rfl) Try.func7 (by kernel_rfl)
    (of_decide_eq_true (by kernel_rfl)) (by unfold Func.isWrapper; first | (rw [if_pos (by decide +kernel)]; kernel_rfl) | (rw [if_neg (by decide +kernel)]; exact ⟨rfl, rfl⟩))
    (fun os started H enc _ => lifted os started H enc)
theorem proved : Rows.FnExactCheckLogSaid := over
#print axioms proved
end Go.Proofs.Ytmahgnmacakfnaa.fnExactCheckLog
