/- Part 30. -/
import Derived.Test.YtaamhakdhaolmaaGreatDoorSak
import Derived.Test.YtaamhakdhaolmaaGreatDoorSbb
namespace Go.Proofs.YtaamhakdhaolmaaGreatDoor
open Go.RowKit Go.Proofs.Tryz
set_option maxHeartbeats 8000000
set_option maxRecDepth 100000
variable {P:Prop}
set_option linter.all false
def Ps(A B)(hA:bh A)(hB:a_ B)(cF:aP A B≠0)(w):
 Kp 182 #[.agg #[A,B]] w (nW w (dL A B)):=by
 have a8:=h_ (M6 A B hA hB cF);have b4:=h_ (λ(X Y E:Int) (h:jI A B X Y E) (W:World)=>xU A B X Y E hA hB h W);have bs:=h_ (λ(p:Int×Int×Int) (h:p∈fw A B)=>zj hA hB h);have H:Hid ((fw A B).length<=12002):=pv A B 6001 (-3000);have ax:Hid (dL A B=(0,0,0)::(fw A B).filter λp=>(cg A B p).isSome):=rfl;generalize dL A B=R at ax ⊢;generalize fw A B=L at ax H bs a8;obtain⟨kC,-,-⟩:=nw w #[A,B] 42 #[(),(),()] 46;have kS:=bI.built (w.alloc (.cells #[A,B] 42)) (0,0,0);obtain⟨-,-,J⟩:=nw w #[A,B] 42 #[(),(),()] 46;have a9:((w.alloc (.cells #[A,B] 42)).alloc (.cells #[(),(),()] 46)).heap.size=w.heap.size+1+1:=s_;simp at kS;go_enter func182,ntmps182;go_upto_region 2 with fail
 generalize (w.alloc _).alloc _=W,bZ:w.heap.size+1=rS at *;generalize bv:w.heap.size=rC at *;have F:Hid (w.heap.size=rC):=bv;have a7:Hid (W.heap.size=rS+1):=a9;have bx:rC<rS:=o_;have ca:rS<W.heap.size:=o_;have⟨a4,a3,a5⟩:=kC.p2;go_wp2_with fail
 refine (a8.out _).mono ?_;rintro e w1 ⟨vl,rfl,ol,I⟩;have ac:=I.size;obtain⟨la,b2,rfl,G⟩:=id ol.form;have bo:=h_ ol.lt;go_wp2;go_loopw [3,13] (λv x wr=>∃k:Nat,k<=L.length/\x=.int .i64 (k:Int)/\bI wr rS v ((0,0,0)::(L.take k).filter λp=>(cg A B p).isSome)/\(∀j,v.ownBlock=some j->j=rS\/w1.heap.size<=j)/\bI wr W (.slice la L.length b2) L/\af rS w1 wr) (λ_ x _=>L.length - (intOf x).toNat)
 case atStart=>exact⟨0,VH _,rfl,(kS.below I),λj hj=>.inl (by simpa[Value.ownBlock] using hj.symm),ol,Vn _ _⟩
 case round=>
  obtain⟨k,hk,rfl,Z,hv,hl,V⟩:=hrel;have aZ:=V.size;have a6:=H.out;have mC:ah rC #[A,B] 42 wr:=(V.block rC bx).trans (kC.next I);by_cases aG:k<L.length
  .exact Mp
  .obtain rfl:k=L.length:=o_
   rw[Wa,<-ax.out] at Z;go_wp2;exact Vk (v:=u3) (by simp [results,results182,go_sem]) rfl F9
noncomputable def dw(A B:Int):List P3->Int->Int
 |[],m=>m
 |p::l,m=>dw A B l (if m<jL (cg A B p) then jL (cg A B p) else m)
def zf(A B)(p:P3):0<=jL (cg A B p)/\jL (cg A B p)<=12:=by
 cases h:cg A B p with
 |none=>simp [jL]
 |some n=>
  have:=uF _ _ _ _ h;simp only[jL];omega
theorem rK(A B):∀(l:List P3) (m),0<=m->m<=12->m<=dw A B l m/\dw A B l m<=12
 |[],m,_,_=>by simp only[dw];omega
 |p::l,m,h0,h1=>by
  have h2:=zf A B p;unfold dw;split
  .rename_i h;have:=rK A B l (jL (cg A B p)) o_ o_;omega
  .exact rK A B l m h0 h1
def Tf(A B):cg A B (0,0,0)=some 1:=by
 unfold cg jb er;simp
def UT(A B):dw A B (dL A B) 0=dw A B (dL A B) 1:=by
 unfold dL;simp only[dw,Tf,jL];rfl
def EA{A B}{L:List P3}{k}(h:k<L.length)(m):dw A B (L.drop k) m=dw A B (L.drop (k+1)) (if m<jL (cg A B L[k]) then jL (cg A B L[k]) else m):=by
 rw[WG h];rfl
def I8{A B}(hA:bh A)(hB:a_ B){p:P3}(h:p∈dL A B):cf A B p:=by
 rcases TK h with rfl|⟨h,_⟩
 .exact .zero A B
 .exact .inr (zj hA hB h)
def yG(A B):1<=(dL A B).length/\(dL A B).length<=12003:=by
 unfold dL;have h1:=Yv (λp=>(cg A B p).isSome) (fw A B);have h2:(fw A B).length<=2*6001:=pv A B 6001 (-3000);simp;omega
def O9(A B:Int)(G:Nat)(v:Value)(L:List P3)(hA:bh A)(hB:a_ B)(a6:L.length<=100000)(a3:∀p∈L,cf A B p)(w:World)(Z:bI w G v L):
 Rv 201 #[.agg #[A,B],v] w (dw A B L 1):=by
 have ae:=h_ a3;have H:=h_ a6;obtain⟨la,b2,rfl,_⟩:=id Z.form;have bo:=h_ Z.lt;obtain⟨kC,J⟩:=ay w #[A,B] 42;replace Z:=Z.below J;go_enter func201,ntmps201;go_upto_region 1 with fail
 generalize w.alloc _=W at *;generalize bv:w.heap.size=rC at *;have F:Hid (w.heap.size=rC):=bv;go_wp2;go_loopw [5,12] (λmo x wr=>∃(k:Nat) (m:Int),k<=L.length/\x=.int .i64 (k:Int)/\mo=.int .i64 m/\(0<=m/\m<=12)/\Hid (dw A B (L.drop k) m=dw A B L 1)/\af W W wr) (λ_ x _=>L.length - (intOf x).toNat)
 case atStart=>exact⟨0,1,VH _,rfl,rfl,o_,h_ rfl,Vn _ _⟩
 case round=>
  obtain⟨k,m,hk,rfl,rfl,hm,HG,V⟩:=hrel;have mC:=kC.next V
  have a8:=ag V (Vq kC.lt) J;have a6:=H.out;by_cases aG:k<L.length
  .
    obtain⟨a',aX,aa,hf⟩:=(Z.below V).form;obtain⟨g,b3,q1,q2,q3,bq,_⟩:=hf k aG;obtain⟨rfl,rfl⟩:la=a'/\b2=aX:=by simp only[Ym] at aa;exact⟨aa.1,aa.2.2⟩
    subst b3;have cc:=ae.out L[k] (VC aG);have I:=h_ (EA (A:=A) (B:=B) aG m);have bi:=zf A B L[k];have b4:=h_ ((h_ (λ(p:P3) (h:cf A B p) (W:World)=>wY A B p.1 p.2.1 p.2.2 hA hB h W)).out L[k] cc);generalize cg A B L[k]=od at *;generalize L[k]=p at *;obtain⟨x,y,e⟩:=p;simp only at q1 q2 q3;have⟨aM,aL,a1⟩:=mC.p2;obtain⟨kX,U⟩:=ay wr #[x,y,e] 46;go_upto_region 5 with fail
    replace mC:=mC.next U
    have ad:=V.trans (U.mono V.size);generalize wr.alloc _=W2 at *;generalize wr.heap.size=rX at *;have⟨aM,aL,a1⟩:=mC.p2;have⟨b1,bz,bp,a2⟩:=kX.p3;go_wp2_with fail
    refine (b4.out _).mono ?_;rintro e' w3 ⟨rfl,aF⟩;have ab:=ad.trans (aF.mono ad.size);cases od with
    |none=>
     have HT:Hid (dw A B (L.drop (k+1)) m=dw A B L 1):=h_ (by rw[<-HG.out,I.out];show dw A B _ m=dw A B _ (if m<0 then 0 else m);rw[Vm (show ¬m<0 by omega)]);simp only[iG];go_wp2;go_roundw
     case rel=>exact⟨k+1,m,o_,by go_num,by congr 1<;>omega,hm,HT,ab⟩
     case measure=>exact aJ
    |some n=>
     simp only[jL] at bi;have HT:Hid (dw A B (L.drop (k+1)) (if m<n then n else m)=dw A B L 1):=h_ (by rw[<-HG.out,I.out];rfl);simp only[iG];go_wp2;go_roundw
     case rel=>exact⟨k+1,_,o_,by go_num,by congr 1<;>(split<;>omega),by split<;>omega,HT,ab⟩
     case measure=>exact aJ
  .obtain rfl:k=L.length:=o_
   have HE:Hid (dw A B L 1=m):=h_ (by rw[<-HG.out,Y9];rfl);go_wp2;go_ret;exact⟨congrArg (λx=>Ending.returned (Value.int .i64 x)) HE.out.symm,F.out▸a8⟩
def bI.over1{r}{W w}{G}{g n F:Nat}{L:List P3}(h:bI W G (.slice g n F) L)(Z:ai [r] W w)(hx:g≠r):bI w G (.slice g n F) L:=by
 refine⟨h.1,?_⟩;rcases h.2 with h0|⟨g',aX,cur,hv,hg,hh,r'⟩
 .exact .inl h0
 .obtain rfl:g=g':=by simp only[Ym,WI,YT] at hv;exact hv.1.1
  exact .inr ⟨g,aX,cur,hv,hg,(Z.block g (Vz.1 hh).1 (by simpa using hx)).trans hh,r'⟩
def L8(g:Int)(w:World)(e:Ending)(w':World):Prop:=∃x y z,e=.returned (.tuple #[.agg #[.int .i64 x,.int .i64 y,.int .i64 z],.int .i64 g])/\af w w w'
def QX(A B:Int)(G:Nat)(v:Value)(L:List P3)(hA:bh A)(hB:a_ B)(a6:L.length<=100000)(a3:∀p∈L,cf A B p)(w:World)(Z:bI w G v L):
 Kp 183 #[.agg #[A,B],v] w (L8 (dw A B L 0) w):=by
 have ae:=h_ a3;have H:=h_ a6;obtain⟨la,b2,rfl,_⟩:=id Z.form;have bo:=h_ Z.lt;obtain⟨kC,V,kB,J⟩:=fv w #[A,B] 42 #[(),(),()] 46 #[(),(),()] 46;replace Z:=Z.below J;go_enter func183,ntmps183;go_upto_region 2 with fail
 generalize ((w.alloc _).alloc _).alloc _=W at *;have h1:w.heap.size<w.heap.size+1:=o_;have h2:w.heap.size+1<w.heap.size+1+1:=o_;generalize w.heap.size+1+1=rB at *;generalize w.heap.size+1=rR at *;generalize bv:w.heap.size=rC at *;have F:Hid (w.heap.size=rC):=bv;have a9:=Vq kC.lt;have bX:=kB.lt;go_wp2;go_loopw [7,14] (λmo x wr=>∃(k:Nat) (m a b c:Int),k<=L.length/\x=.int .i64 (k:Int)/\mo=.int .i64 m/\(0<=m/\m<=12)/\Hid (dw A B (L.drop k) m=dw A B L 0)/\ah rB #[a,b,c] 46 wr/\bI wr G (.slice la L.length b2) L/\ai [rB] W wr) (λ_ x _=>L.length - (intOf x).toNat)
 case atStart=>exact⟨0,0,0,0,0,VH _,rfl,rfl,o_,h_ rfl,kB,Z,ai.refl _ _⟩
 case round=>
  obtain⟨k,m,a,b,c,hk,rfl,rfl,hm,HG,K,hl,hO⟩:=hrel;have mC:=kC.over hO u_;have mR:=V.over hO u_;have a8:af rC w wr:=hO.belowGe J o_ u_;have aZ:=hO.size;have a6:=H.out;by_cases aG:k<L.length
  .have az:=h_ hl;obtain⟨a',aX,aa,hf⟩:=hl.form;obtain⟨g,b3,q1,q2,q3,bq,_⟩:=hf k aG;obtain⟨rfl,rfl⟩:la=a'/\b2=aX:=by simp only[Ym] at aa;exact⟨aa.1,aa.2.2⟩
   subst b3;have cc:=ae.out L[k] (VC aG);have I:=h_ (EA (A:=A) (B:=B) aG m);have bi:=zf A B L[k];have b4:=h_ ((h_ (λ(p:P3) (h:cf A B p) (W:World)=>Qn A B p.1 p.2.1 p.2.2 hA hB h W)).out L[k] cc);generalize cg A B L[k]=od at *;generalize L[k]=p at *;obtain⟨x,y,e⟩:=p;simp only at q1 q2 q3;have⟨aM,aL,a1⟩:=mC.p2;obtain⟨kX,U⟩:=ay wr #[x,y,e] 46;go_upto_region 5 with fail
   replace mC:=mC.next U
   replace K:=K.next U
   have bx:=hO.next U
   have a7:=hl.below U;have ca:rB<wr.heap.size:=o_;generalize wr.alloc _=W2 at *;generalize wr.heap.size=rX at *;have⟨aM,aL,a1⟩:=mC.p2;have⟨b1,bz,bp,a2⟩:=kX.p3;go_wp2_with fail
   refine (b4.out _).mono ?_;rintro e' w3 ⟨rfl,aF⟩;have ab:=bx.next aF
   have ac:=a7.below aF;replace K:=K.next aF
   replace kX:=kX.next aF
   generalize jL od=n at *;by_cases cZ:m<n
   .have HT:Hid (dw A B (L.drop (k+1)) n=dw A B L 0):=h_ (by rw[<-HG.out,I.out,Vo cZ]);have⟨b1,bz,bp⟩:=kX.q3;have⟨a4,bZ,b0⟩:=K.q3;have⟨b7,b8,b9⟩:=K.f3;have k9:=((K.set 0 x).set 1 y).set 2 e;have ax:ai [rB] W (((w3.setCell ⟨rB,0,none⟩ x).setCell ⟨rB,1,none⟩ y).setCell ⟨rB,2,none⟩ e):=((ab.setCell (.inr s_) _).setCell (.inr s_) _).setCell (.inr s_) _;have b5:bI (((w3.setCell ⟨rB,0,none⟩ x).setCell ⟨rB,1,none⟩ y).setCell ⟨rB,2,none⟩ e) G (.slice (some ⟨g,0,none⟩) L.length b2) L:=bI.over1 ac ((((ai.refl [rB] w3).setCell (.inr s_) _).setCell (.inr s_) _).setCell (.inr s_) _) (by have:=(bo.out g rfl).2;omega);go_wp2;go_roundw
    case rel=>exact⟨k+1,n,x,y,e,o_,by go_num,by congr 1<;>omega,o_,HT,k9,b5,ax⟩
    case measure=>exact aJ
   .have HT:Hid (dw A B (L.drop (k+1)) m=dw A B L 0):=h_ (by rw[<-HG.out,I.out,Vm cZ]);go_wp2;go_roundw
    case rel=>exact⟨k+1,m,a,b,c,o_,by go_num,by congr 1<;>omega,o_,HT,K,ac,ab⟩
    case measure=>exact aJ
  .obtain rfl:k=L.length:=o_
   have HE:Hid (dw A B L 0=m):=h_ (by rw[<-HG.out,Y9];rfl);have⟨a4,bZ,b0⟩:=K.q3;have⟨bb,bY,bs⟩:=mR.q3;have⟨a5,ba,b6⟩:=mR.f3;have k9:=((mR.set 0 a).set 1 b).set 2 c;have ad:af rC w (((wr.setCell ⟨rR,0,none⟩ a).setCell ⟨rR,1,none⟩ b).setCell ⟨rR,2,none⟩ c):=((a8.setCell u_ _).setCell u_ _).setCell u_ _;go_wp2;generalize (World.setCell (World.setCell (World.setCell _ _ _) _ _) _ _)=w9 at k9 ad ⊢;have⟨q0,q1,q2⟩:=k9.q3;exact Vk (v:=.tuple #[.agg #[a,b,c],m]) (by simp [results,results183,go_sem,q0,q1,q2]) rfl ⟨a,b,c,by rw[HE.out],F.out▸ad⟩
noncomputable def qq(A B:Int):Value:=.tuple #[.int .i64 (((dL A B).length:Int) / (dw A B (dL A B) 1)),dw A B (dL A B) 1,true]
def MO(A B)(hC:be A B=true)(w):
 Rv 142 #[.agg #[A,B]] w (qq A B):=by
 have⟨hA,hB⟩:=fs hC;have h0:=λW=>jV A B W;rw[hC] at h0;have HC:=h_ h0;have h1:=λW=>MQ A B hA hB W;unfold nW at h1;have HT:=h_ h1;have hl:=yG A B;have HG:=h_ (λG v W Z=>O9 A B G v (dL A B) hA hB o_ (λp h=>I8 hA hB h) W Z);have hg:=rK A B (dL A B) 1 o_ o_;unfold qq;generalize dw A B (dL A B) 1=g at *;generalize dL A B=L at *;have hq:0<=(L.length:Int) / g/\(L.length:Int) / g<=L.length:=⟨Xh o_ o_,WZ _ o_⟩
 have⟨kC,J⟩:=ay w #[A,B] 42;go_enter func142,ntmps142;go_upto_region 1 with fail
 generalize w.alloc _=W at *;have⟨a4,a3,a5⟩:=kC.p2;go_wp2_with fail
 refine aj (HC.out _) λw1 I=>?_;have H:=ag I J.size J;replace kC:=kC.next I
 have⟨a4,a3,a5⟩:=kC.p2;go_wp2_with fail
 refine (HT.out _).mono ?_;rintro e w2 ⟨v,rfl,ov,U⟩;have ax:=ag U H.size H;replace kC:=kC.next U
 have⟨a4,a3⟩:=kC.q2;obtain⟨la,b2,rfl,_⟩:=id ov.form;go_wp2_with fail
 refine aj (HG.out _ _ _ ov) λw3 aF=>?_;go_wp2;go_ret3;exact⟨rfl,(ag aF ax.size ax)⟩
def MN(A B)(hC:be A B=true)(w):
 Rv 129 #[.agg #[A,B]] w (qq A B):=by
 have⟨hA,hB,cF⟩:=BI hC;have h0:=λW=>f_ A B W;rw[hC] at h0;have HC:=h_ h0;have h1:=λW=>Ps A B hA hB cF W;unfold nW at h1;have HT:=h_ h1;have hl:=yG A B;have ca:=λG v W Z=>QX A B G v (dL A B) hA hB o_ (λp h=>I8 hA hB h) W Z;rw[UT] at ca;unfold L8 at ca;have HG:=h_ ca;have hg:=rK A B (dL A B) 1 o_ o_;unfold qq;generalize dw A B (dL A B) 1=g at *;generalize dL A B=L at *;have hq:0<=(L.length:Int) / g/\(L.length:Int) / g<=L.length:=⟨Xh o_ o_,WZ _ o_⟩
 have⟨kC,J⟩:=ay w #[A,B] 42;go_enter func129,ntmps129;go_upto_region 1 with fail
 generalize w.alloc _=W at *;have⟨a4,a3,a5⟩:=kC.p2;go_wp2_with fail
 refine aj (HC.out _) λw1 I=>?_;have H:=ag I J.size J;replace kC:=kC.next I
 have⟨a4,a3,a5⟩:=kC.p2;go_wp2_with fail
 refine (HT.out _).mono ?_;rintro e w2 ⟨v,rfl,ov,U⟩;have ax:=ag U H.size H;replace kC:=kC.next U
 have⟨a4,a3⟩:=kC.q2;obtain⟨la,b2,rfl,_⟩:=id ov.form;go_wp2_with fail
 refine (HG.out _ _ _ ov).mono ?_;rintro e w3 ⟨x,y,z,rfl,aF⟩;have az:=ag aF ax.size ax;go_wp2;go_ret3;exact⟨rfl,(az.alloc az.size (.cells #[x,y,z] 46))⟩
end Go.Proofs.YtaamhakdhaolmaaGreatDoor
