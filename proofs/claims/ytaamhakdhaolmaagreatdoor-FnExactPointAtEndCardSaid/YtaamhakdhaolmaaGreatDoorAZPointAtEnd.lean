/- Part 34. -/
import Derived.Test.YtaamhakdhaolmaaGreatDoorAbh
namespace Go.Proofs.YtaamhakdhaolmaaGreatDoor
open Go.RowKit
set_option maxHeartbeats 8000000
set_option maxRecDepth 100000
variable {P:Prop}
set_option linter.all false
def GM(h:P:=by simp [results,Tryz.results31,go_sem,R0,R1,R2]):=h
def pL(h:P:=by
 exact⟨rfl,hO.belowGe aF aF.size ii⟩):=h
def Ms(s:aj)(hs:s.size<=1048576)(w)(hE:PEnv w):
 Rv 30 #[s] w (.tuple #[.agg #[.int .i64 (eu s).X,.int .i64 (eu s).Y,.int .i64 (eu s).E],.bool (bO s)]):=by
 have hq:=λW hW=>oP s hs W hW;unfold og at hq;have HQ:=h_ hq;have aa:bO s=false->cI s=[]:=λh=>by unfold cI;rw[h];rfl
 have hl:=md s;have hz:=oQ s;generalize cI s=V,bO s=ok at *;obtain⟨F,hF⟩:∃F,eu s=F:=⟨_,rfl⟩
 rw[hF] at HQ ⊢;have⟨k0,J⟩:=aw w #[(),(),()] 46;have ae:=hE.below J;go_enter Tryz.func30,Tryz.ntmps30;go_upto_region 1 with fail
 generalize w.alloc _=G at *;go_wp2_with fail
 refine (HQ.out G ae).mono ?_;rintro e w1 ⟨A,B,X,Y,E,L,vl,vr,rfl,he,ac,H,I⟩;obtain⟨a1,c1,rfl,_,_⟩:=id ac.form;obtain⟨a2,c2,rfl,_,_⟩:=id H.form;have⟨k2,ab⟩:=aw w1 #[A,B,X,Y,E,.slice a1 L.length c1,.slice a2 V.length c2] 65;have U:=af ab I.size I;replace ac:=ac.below ab;replace H:=H.below ab;have HE:=h_ he;have ax:=I.size;have he:=HE.out;subst he;have aF:=af U J.size J;have hne:w1.heap.size≠w.heap.size:=by have:=k0.lt;omega
 replace k0:=k0.next U
 go_upto_region 2 with fail
 generalize w1.alloc _=W2 at *;have⟨_,_,s2,s3,s4,_,_⟩:=k2.q7;have z0:=k0.frozen 0;have y0:=k0.q1;have z1:=k0.frozen 1;have⟨_,y1⟩:=k0.q2;have z2:=k0.frozen 2;have⟨_,_,y2⟩:=k0.q3;have R:=(((k0.set 0 X).set 1 Y).set 2 E)
 have hO:ah [w.heap.size] W2 (((W2.setCell w X).setCell ⟨w,1,none⟩ Y).setCell ⟨w,2,none⟩ E):=((((ah.refl [w.heap.size] W2).setCell (.inr s_) _).setCell (.inr s_) _).setCell (.inr s_) _)
 simp at R;go_wp2;generalize (((W2.setCell w X).setCell ⟨w,1,none⟩ Y).setCell ⟨w,2,none⟩ E)=W9 at R hO ⊢;have⟨R0,R1,R2⟩:=R.q3;exact Uh (v:=.tuple #[.agg #[X,Y,E],ok]) (by simp [results,Tryz.results30,go_sem,R0,R1,R2]) rfl pL
def Mv(s:aj)(hs:s.size<=1048576)(w)(ht:TabI w):
 Rv 31 #[s] w (.tuple #[.agg #[.int .i64 (eu s).X,.int .i64 (eu s).Y,.int .i64 (eu s).E],.bool (bO s)]):=by
 unfold eu;have⟨k0,J⟩:=aw w #[(),(),()] 46;cases h:bO s
 .have H:=h_ (oI s hs h);go_enter Tryz.func31,Tryz.ntmps31;go_upto_region 1 with fail
  generalize w.alloc _=G at *;go_wp2_with fail
  refine ai (H.out _) λw1 I=>?_;have aF:=af I J.size J;replace k0:=k0.next I
  have z0:=k0.frozen 0;have y0:=k0.q1;have z1:=k0.frozen 1;have⟨_,y1⟩:=k0.q2;have z2:=k0.frozen 2;have⟨_,_,y2⟩:=k0.q3;have R:=(((k0.set 0 ()).set 1 ()).set 2 ())
  have hO:ah [w.heap.size] w1 (((w1.setCell w ()).setCell ⟨w,1,none⟩ ()).setCell ⟨w,2,none⟩ ()):=((((ah.refl [w.heap.size] w1).setCell (.inr s_) _).setCell (.inr s_) _).setCell (.inr s_) _)
  simp at R;go_wp2;generalize (((w1.setCell w ()).setCell ⟨w,1,none⟩ ()).setCell ⟨w,2,none⟩ ())=W9 at R hO ⊢;have⟨R0,R1,R2⟩:=R.q3;exact Uh (v:=.tuple #[.agg #[(),(),()],false]) GM rfl pL
 .have H:=h_ (λW (hW:TabI W)=>pg s hs h W hW);rw[Um rfl];obtain⟨q,hq⟩:∃q,cJ (dW s) dA=q:=⟨_,rfl⟩
  rw[hq];unfold qe at H;rw[hq] at H;have b1:=ht.below J;go_enter Tryz.func31,Tryz.ntmps31;go_upto_region 1 with fail
  generalize w.alloc _=G at *;go_wp2_with fail
  refine (H.out G b1).mono ?_;rintro e w1 ⟨r,A,B,X,Y,E,L,reps,vl,v0,v1,rfl,rfl,hk,h3,h4,h5,h6,I⟩;have aF:=af I J.size J;replace k0:=k0.next I
  have⟨_,_,s2,s3,s4⟩:=hk.q5;have z0:=k0.frozen 0;have y0:=k0.q1;have z1:=k0.frozen 1;have⟨_,y1⟩:=k0.q2;have z2:=k0.frozen 2;have⟨_,_,y2⟩:=k0.q3;have R:=(((k0.set 0 X).set 1 Y).set 2 E)
  have hO:ah [w.heap.size] w1 (((w1.setCell w X).setCell ⟨w,1,none⟩ Y).setCell ⟨w,2,none⟩ E):=((((ah.refl [w.heap.size] w1).setCell (.inr s_) _).setCell (.inr s_) _).setCell (.inr s_) _)
  simp at R;go_wp2;generalize (((w1.setCell w X).setCell ⟨w,1,none⟩ Y).setCell ⟨w,2,none⟩ E)=W9 at R hO ⊢;have⟨R0,R1,R2⟩:=R.q3;exact Uh (v:=.tuple #[.agg #[X,Y,E],true]) GM rfl pL
def Ie(h:P:=by
 have J:=g.lt;have H:=G.lt;cases ok
 all_goals
  go_wp2_with fail
  refine ai (HQ.out _) λw6 ax=>?_;have a7:=af ax ac.size ac;go_wp2;go_ret;exact⟨rfl,a7⟩):=h
def M3(A B C:Int)(w):Rv 38 #[.agg #[A,B,C],.agg #[A,B,C]] w true:=by
 go_enter Tryz.func38,Tryz.ntmps38;go_wp2;go_ret;refine⟨rfl,?_⟩
 go_grown
def walk_FnExactPointAtEnd(s:aj)(hs:s.size<=maxLen)(w)(hE:PEnv w):
 Rv 9 #[s] w true:=by
 have ad:=hs;unfold maxLen at ad;by_cases hb:s.size<=1048576
 .have hi:¬(1048576:Int)<(s.size:Int):=o_;have HS:=h_ (λW (hW:PEnv W)=>Mv s hb W hW.1);have HI:=h_ (λW (hW:PEnv W)=>Ms s hb W hW);generalize eu s=F,bO s=ok at *;have⟨A,B,X,Y,E,L⟩:=F;simp only at HS HI;have HQ:=h_ (M3 X Y E);go_enter Tryz.func9,Tryz.ntmps9;go_upto_region 3 with fail
  go_wp2_with fail
  refine ai (HS.out w hE) λw1 I=>?_;have⟨g,ab⟩:=aw w1 #[X,Y,E] 46;have U:=af ab I.size I;go_upto_region 4 with fail
  generalize w1.alloc _=W2 at *;go_wp2_with fail
  refine ai (HI.out W2 (hE.below U)) λw3 aF=>?_;replace g:=g.next aF
  have K:=af aF U.size U;have⟨G,cv⟩:=aw w3 #[X,Y,E] 46;have ac:=af cv K.size K;replace g:=g.next cv
  go_upto_region 5 with fail
  generalize w3.alloc _=W5 at *;have⟨p0,p1,p2⟩:=g.q3;have⟨q0,q1,q2⟩:=G.q3;exact Ie
 .have hi:(1048576:Int)<(s.size:Int):=o_;go_enter Tryz.func9,Tryz.ntmps9;exact nU
end Go.Proofs.YtaamhakdhaolmaaGreatDoor
