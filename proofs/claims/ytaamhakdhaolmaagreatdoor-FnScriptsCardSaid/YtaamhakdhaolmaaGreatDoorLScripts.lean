/- The law FnScripts: for every input it returns true, and the input reads as it did. No condition. -/
import Derived.Test.YtaamhakdhaolmaaGreatDoorCards
import Derived.Test.YtaamhakdhaolmaaGreatDoorTie
import Derived.ProofKit
import Derived.LaidMore
import Derived.Lib.LaidTab
import Derived.Stop.LaidErr
import Derived.OpenShut
import Derived.Stop.Joined
import Derived.SevenTiedAt
import Derived.Lay
import Derived.Test.YtaamhakdhaolmaaGreatDoorSLz
import Derived.Test.YtaamhakdhaolmaaGreatDoorSLb
import Derived.Test.YtaamhakdhaolmaaGreatDoorSbg
set_option linter.all false
set_option maxHeartbeats 8000000
namespace Go.Proofs.YtaamhakdhaolmaaGreatDoor.fnScripts
open Go.ChangeShapes Go.WideShapes Go.ChangeAt Go.RowKit Go.Joins
theorem tab_of {W:World} (h:laidMetH Tryz.prog Rows.fnScriptsRow.laid W):TabI W:=by
 rw[MakeChecks.laidMetH_plain _ _ _ (by kernel_rfl)] at h
 have h2:laidMet Tryz.prog (("internal/strconv.uint64pow10",Lib.tabData .u64 Lib.pow10Tab)::(Rows.fnScriptsRow.laid).drop 3) W:=laidMet.tail (laidMet.tail (h))
 exact Lib.tabIs_of_head (g:=6) (t:=273) (e:=72) (n:=20) (by kernel_rfl) (by kernel_rfl) (by kernel_rfl) (by kernel_rfl) (by kernel_rfl) (by kernel_rfl) h2
theorem errRow (u:TypeId) (h:Tryz.prog.typeName? 3 u=some "*errors.errorString"):u=269:=
 typeName_ptr_named (nm:= "errors.errorString") (by rw[show "*"++ "errors.errorString"= "*errors.errorString" by decide];kernel_rfl) (by kernel_rfl) (by decide) u (by rw[show "*"++ "errors.errorString"= "*errors.errorString" by decide];exact h)
theorem env_of {W:World} (h:laidMetH Tryz.prog Rows.fnScriptsRow.laid W) (hsh:W.ShapedOpen Tryz.prog):PEnv W:=by
 have ht:=tab_of h
 rw[MakeChecks.laidMetH_plain _ _ _ (by kernel_rfl)] at h
 have hErrRange:laidMet Tryz.prog (("strconv.ErrRange",Rows.laid_strconv_ErrRange)::(Rows.fnScriptsRow.laid).drop 5) W:=laidMet.tail (laidMet.tail (laidMet.tail (laidMet.tail (h))))
 obtain⟨aErrRange,_,vErrRange,_⟩:=laid_sentinel (g:=5) (ti:=154) (te:=271) hErrRange (by kernel_rfl) (by kernel_rfl) Tryz.underlying154 errRow Tryz.underlying269 Tryz.underlying271 rfl rfl Tryz.underlying9 (by kernel_rfl) (by kernel_rfl)
 have hErrSyntax:laidMet Tryz.prog (("strconv.ErrSyntax",Rows.laid_strconv_ErrSyntax)::(Rows.fnScriptsRow.laid).drop 6) W:=laidMet.tail (laidMet.tail (laidMet.tail (laidMet.tail (laidMet.tail (h)))))
 obtain⟨aErrSyntax,_,vErrSyntax,_⟩:=laid_sentinel (g:=4) (ti:=154) (te:=271) hErrSyntax (by kernel_rfl) (by kernel_rfl) Tryz.underlying154 errRow Tryz.underlying269 Tryz.underlying271 rfl rfl Tryz.underlying9 (by kernel_rfl) (by kernel_rfl)
 exact⟨ht,Tryz.laysM220.s1_3 W hsh,⟨_,_,vErrSyntax⟩,⟨_,_,vErrRange⟩⟩
set_option maxRecDepth 100000 in
theorem lifted (os:Go.Os) (started:os.Started) (H:Type) (enc:TypeId×Value->H):
 ReturnsInHanded {} Tryz.checked os 5 .any (λw args=>(Rows.fnScriptsSpec.pre enc Tryz.prog Tryz.f5 [] false w args/\laidMetH Tryz.prog Rows.fnScriptsRow.laid w)/\sizedMet enc Tryz.prog Tryz.f5 (OpenSpec.ofChange Rows.fnScriptsSpec) false w args) (Rows.fnScriptsSpec.post enc Tryz.prog Tryz.f5 false true false false):=by
 refine returnsInHanded_of_change_and_shapedYtaamhakdhaolmaaGreatDoor (C:=Tryz.checked) (X:=λw _=>laidMetH Tryz.prog Rows.fnScriptsRow.laid w) (λ_ _ _ hh h=>h.of_heap hh) Tryz.own started (by kernel_rfl) Tryz.func5
  (ChangeSpec.witness_shaped (enc:=enc) (C:=Tryz.checked) (os:=os) (X:=λw _=>laidMetH Tryz.prog Rows.fnScriptsRow.laid w) false (World.laidAll Tryz.prog os Rows.fnScriptsRow.laid) #[.slice none 0 0,.slice none 0 0] 8 (World.laidAll_os _ _ _) (World.shaped_of_ZipB (by kernel_rfl) (by kernel_rfl)) (by kernel_rfl) (by kernel_rfl) (by kernel_rfl) (by rw[MakeChecks.laidMetH_plain _ _ _ (by kernel_rfl)];exact laidMet_laidAll _ (by kernel_rfl) (by kernel_rfl))) ?_
 intro W base args ds gs before hval0 hW hL hsh
 have hval:∀(j:Nat) t v,Tryz.f5.params[j]?=some t->args[j]?=some v->Value.okWide Tryz.prog W .any base t v:=hval0
 have hW':=hW
 obtain⟨p,q,hA0,hV,rfl,hfz,hnd⟩:=hW
 have hA:DataW.TrodAll enc Tryz.prog W 0 (λ_=>true) true Tryz.f5.params.toList args.toList ds p:=hA0
 rw[Tryz.params5] at hA hval
 obtain⟨v0,vs0,d0,ds0,p0,q0,hargs,rfl,rfl,h0,r0⟩:=trodAll_cons hA
 obtain⟨v1,vs1,d1,ds1,p1,q1,rfl,rfl,rfl,h1,r1⟩:=trodAll_cons r0
 obtain⟨rfl,rfl,rfl⟩:=trodAll_nil r1
 obtain rfl:args=#[v0,v1]:=by cases args;simp_all
 obtain⟨rfl,rfl⟩:=trodVars_none hV
 obtain⟨code,o_code⟩:=open_bytes (hval 0 33 v0 rfl rfl) h0
 obtain⟨more,o_more⟩:=open_bytes (hval 1 33 v1 rfl rfl) h1
 clear hA0 hval0
 have hlt0:∀x∈p0,x.block<W.heap.size:=λx hx=>hW'.lt x (by simp [hx])
 have hlt1:∀x∈p1,x.block<W.heap.size:=λx hx=>hW'.lt x (by simp [hx])
 refine (walk_FnScripts v0 code v1 more W o_code o_more (env_of hL hsh)).mono λe W' ⟨he,hg⟩=>?_
 subst he
 exact⟨_,rfl,post_of_below (pa:=p0++(p1++[])) (pv:=[]) hW' (λ_ _ _=>(trodAll_cons_mk (shut_bool Tryz.underlying4 _) trodAll_mk0)) (λsp hsp=>(trodAll_cons_mk (Go.WideElems.Trod_stays (by kernel_rfl) (by kernel_rfl) (of_decide_eq_true (by kernel_rfl)) h0 (λx hx=>hg.same (hlt0 x hx)) (λx hx=>hsp x (by simp [hx]))) (trodAll_cons_mk (Go.WideElems.Trod_stays (by kernel_rfl) (by kernel_rfl) (of_decide_eq_true (by kernel_rfl)) h1 (λx hx=>hg.same (hlt1 x hx)) (λx hx=>hsp x (by simp [hx]))) trodAll_mk0))) (λ_ _=>rfl) (by simp) hg (ok_one (by kernel_rfl) rfl (okWide_bool_mk Tryz.underlying4 _))⟩
theorem closed:joinedFacts Tryz.pinned.checked.prog 5 Tryz.f5 Rows.fnScriptsSpec Rows.fnScriptsRow=true:=by
 unfold joinedFacts
 repeat' with_reducible refine (Bool.and_eq_true _ _).mpr ⟨?_,?_⟩
 all_goals as_aux_lemma=>kernel_rfl
theorem over:Rows.fnScriptsRow.holds Tryz.pinned (OpenSpec.ofChange Rows.fnScriptsSpec):=
 OpenClaim.holds_of_wide 5 Tryz.f5 rfl rfl rfl rfl rfl rfl rfl ⟨rfl,rfl,rfl,rfl,rfl⟩ rfl rfl rfl rfl rfl (by as_aux_lemma=>kernel_rfl) Tryz.func5 closed
  (of_decide_eq_true (by as_aux_lemma=>kernel_rfl)) (by unfold Func.isWrapper;first|(rw[if_pos (by decide+kernel)];kernel_rfl)|(rw[if_neg (by decide+kernel)];exact⟨rfl,rfl⟩))
  (λos started H enc _=>lifted os started H enc)
theorem proved:Rows.FnScriptsCardSaid:=
 Claim7.holds_tied_plain_at .later [] [.data,.data,.data,.data,.sentinel,.sentinel,.pinned] true (true,"2b62926a484e41f2a742bebe3174920e06650730e767369234f99868094d2753") true
  over (λ_ h=>by cases h) (by as_aux_lemma=>kernel_rfl) (λ_ h=>by cases h) fnScripts_row_tie rfl ⟨rfl,rfl⟩ (by as_aux_lemma=>kernel_rfl) rfl
  (λf fn hf hfn=>by
    obtain rfl:f=5:=Option.some.inj ((show Tryz.prog.funcNamed "loop.example/g01004/laws.FnScripts"=some 5 by as_aux_lemma=>kernel_rfl).symm.trans hf) |>.symm
    obtain rfl:fn=Tryz.f5:=(Option.some.inj (Tryz.func5.symm.trans hfn)).symm
    exact⟨by as_aux_lemma=>kernel_rfl,λj t ht=>by
     rw[Tryz.params5] at ht
     have hm:t∈[33,33]:=by simpa using Array.mem_of_getElem? ht
     have hall:([33,33].all λu=>!Tryz.prog.wantsStandIn u)=true:=by as_aux_lemma=>kernel_rfl
     exact (show Tryz.prog.wantsStandIn t=false by simpa using List.all_eq_true.1 hall t hm)⟩)
  (by as_aux_lemma=>kernel_rfl)
#print axioms proved
end Go.Proofs.YtaamhakdhaolmaaGreatDoor.fnScripts
