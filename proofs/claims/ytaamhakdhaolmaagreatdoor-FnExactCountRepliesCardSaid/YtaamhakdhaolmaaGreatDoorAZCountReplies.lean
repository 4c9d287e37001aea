/- Part 34. -/
import Derived.Test.YtaamhakdhaolmaaGreatDoorAbh
namespace Go.Proofs.YtaamhakdhaolmaaGreatDoor
open Go.RowKit
set_option maxHeartbeats 8000000
set_option maxRecDepth 100000
variable {P:Prop}
set_option linter.all false
def Fm(h:P:=by simp [results,Tryz.results36,go_sem]):=h
noncomputable def qg(s:aj):Int:=((bK cp (cI s)).length:Int)
noncomputable def qd(s:aj):Int:=((bK cN (cI s)).length:Int)
noncomputable def sE(s:aj):Value:=.tuple #[qg s,qd s,((cI s).length - qg s - qd s:Int),.bool (bO s)]
def Dk(p:aj->Bool)(L:bV)(k)(h:k<L.length):((bK p (L.take (k+1))).length:Int)=if p L[k] then ((bK p (L.take k)).length:Int)+1 else ((bK p (L.take k)).length:Int):=by
 rw[UL h,ma];split
 .simp
 .rfl
def L3(s:aj)(hs:s.size<=1048576)(w)(hE:PEnv w):
 Rv 32 #[s] w (sE s):=by
 unfold sE qg qd;have hq:=λW hW=>oP s hs W hW;unfold og at hq;have HQ:=h_ hq;have aa:bO s=false->cI s=[]:=λh=>by unfold cI;rw[h];rfl
 have hl:=md s;have hz:=oQ s;generalize cI s=V,bO s=ok at *;go_enter Tryz.func32,Tryz.ntmps32;go_wp2_with fail
 refine (HQ.out w hE).mono ?_;rintro e w1 ⟨A,B,X,Y,E,L,vl,vr,rfl,he,ac,H,I⟩;obtain⟨a1,c1,rfl,_,_⟩:=id ac.form;obtain⟨a2,c2,rfl,_,_⟩:=id H.form;have⟨k2,ab⟩:=aw w1 #[A,B,X,Y,E,.slice a1 L.length c1,.slice a2 V.length c2] 65;have U:=af ab I.size I;replace ac:=ac.below ab;replace H:=H.below ab;have HE:=h_ he;go_upto_region 2 with fail
 generalize w1.alloc _=W2 at *;have⟨s0,s1,s2,s3,s4,s5,s6⟩:=k2.q7;have sl:=k2.lt;have⟨a',c',e',_,hf⟩:=H.form;injection e' with e';subst e';have HF:=h_ hf;go_wp2;go_loopw [8,9,20] (λF J iv wr=>∃k:Nat,F=.int .i64 ((bK cp (V.take k)).length:Int)/\J=.int .i64 ((bK cN (V.take k)).length:Int)/\iv=.int .i64 k/\k<=V.length/\wr=W2) (λ_ _ iv _=>V.length - (intOf iv).toNat)
 case atStart=>exact⟨0,rfl,rfl,rfl,UB _,rfl⟩
 case round=>
  obtain⟨k,rfl,rfl,rfl,b3,rfl⟩:=hrel;have ba:=ll cp (V.take k);have aL:=ll cN (V.take k);rw[UH] at ba aL;by_cases aG:k<V.length
  .obtain⟨g,rfl,q0,_,_,_⟩:=HF.out k aG;have H1:=h_ (Dk cp V k aG);have H2:=h_ (Dk cN V k aG);generalize V[k]=x,(bK cp (V.take k)).length=a0,(bK cN (V.take k)).length=b0 at *;cases hn:cp x
   .cases G:cN x
    .have HN:=h_ hn;have HW:=h_ G;unfold cp at hn;unfold cN at G;go_wp2;go_roundw
     case rel=>exact⟨k+1,by rw[H1.out,HN.out];rfl,by rw[H2.out,HW.out];rfl,by go_num,by omega,trivial⟩
     case measure=>exact aO
    .have HN:=h_ hn;have HW:=h_ G;unfold cp at hn;unfold cN at G;go_wp2;go_roundw
     case rel=>exact⟨k+1,by rw[H1.out,HN.out];rfl,by rw[H2.out,HW.out,Um rfl],by go_num,by omega,trivial⟩
     case measure=>exact aO
   .have HN:=h_ hn;have HW:=h_ (C4 hn);unfold cp at hn;go_wp2;go_roundw
    case rel=>exact⟨k+1,by rw[H1.out,HN.out,Um rfl],by rw[H2.out,HW.out];rfl,by go_num,by omega,trivial⟩
    case measure=>exact aO
  .obtain rfl:k=V.length:=by omega
   have HT:Hid (V.take V.length=V):=h_ (Ve);rw[HT.out] at ba aL ⊢;go_upto_region 12 with fail
   (refine bP k_ k_ ?_;(repeat (go_big_quiet_step ((fail))));refine wpQuiet_nil ?_;intro w9 aZ)
   go_wp2;exact Uh (v:=.tuple #[.int .i64 ((bK cp V).length:Int),.int .i64 ((bK cN V).length:Int),.int .i64 (V.length - ((bK cp V).length:Int) - ((bK cN V).length:Int)),ok]) (by simp [results,Tryz.results32,go_sem]) rfl ⟨rfl,af aZ U.size U⟩
def LX(s:aj)(hs:s.size<=1048576)(w)(ht:TabI w):
 Rv 36 #[s] w (sE s):=by
 have hl:=md s;unfold sE qg qd;unfold cI at hl ⊢;cases h:bO s
 .have H:=h_ (oI s hs h);go_enter Tryz.func36,Tryz.ntmps36;go_wp2_with fail
  refine ai (H.out _) λw1 I=>?_;go_wp2;exact Uh (v:=.tuple #[(),(),(),false]) Fm rfl ⟨rfl,I⟩
 .rw[h] at hl;have H:=h_ (λW (hW:TabI W)=>pg s hs h W hW);simp only[Vo] at hl ⊢;obtain⟨q,hq⟩:∃q,cJ (dW s) dA=q:=⟨_,rfl⟩
  rw[hq] at hl ⊢;unfold qe at H;rw[hq] at H;go_enter Tryz.func36,Tryz.ntmps36;go_wp2_with fail
  refine (H.out w ht).mono ?_;rintro e w1 ⟨r,A,B,X,Y,E,L,reps,vl,v0,v1,rfl,rfl,hk,h3,h4,h5,_,I⟩;obtain⟨a4,c4,rfl,_⟩:=h4.form;obtain⟨a5,c5,rfl,_⟩:=h5.form;have ba:=ll cp reps;have aL:=ll cN reps;simp only at hl;have⟨_,_,_,_,_,_,s6⟩:=hk.q7;have⟨_,_,_,_,_,_,_,s7⟩:=hk.q8;have⟨_,_,_,_,_,_,_,_,s8⟩:=hk.q9;have sl:=hk.lt;go_upto_region 4 with fail
  (refine bP k_ k_ ?_;(repeat (go_big_quiet_step ((fail))));refine wpQuiet_nil ?_;intro w9 aZ)
  go_wp2;exact Uh (v:=.tuple #[.int .i64 ((bK cp reps).length:Int),.int .i64 ((bK cN reps).length:Int),.int .i64 (reps.length - ((bK cp reps).length:Int) - ((bK cN reps).length:Int)),true]) Fm rfl ⟨rfl,af aZ I.size I⟩
def walk_FnExactCountReplies(s:aj)(hs:s.size<=maxLen)(w)(hE:PEnv w):
 Rv 7 #[s] w true:=by
 have ad:=hs;unfold maxLen at ad;by_cases hb:s.size<=1048576
 .have hi:¬(1048576:Int)<(s.size:Int):=o_;have HS:=h_ (λW (hW:PEnv W)=>LX s hb W hW.1);have HI:=h_ (λW (hW:PEnv W)=>L3 s hb W hW);unfold sE at HS HI;generalize ((cI s).length:Int) - qg s - qd s=c,qg s=a,qd s=b,bO s=ok at *;go_enter Tryz.func7,Tryz.ntmps7;go_wp2_with fail
  refine ai (HS.out w hE) λw1 I=>?_;go_wp2_with fail
  refine ai (HI.out w1 (hE.below I)) λw2 U=>?_;cases ok
  all_goals
   go_wp2;go_ret;exact⟨rfl,(af U I.size I)⟩
 .have hi:(1048576:Int)<(s.size:Int):=o_;go_enter Tryz.func7,Tryz.ntmps7;exact nU
end Go.Proofs.YtaamhakdhaolmaaGreatDoor
