/- Part 10. -/
import Derived.StillTailTactics
import Derived.Deep.Cut
import Derived.Test.YtaamhakdhaolmaaGreatDoorSab
import Derived.Test.YtaamhakdhaolmaaGreatDoorSae
namespace Go.Proofs.YtaamhakdhaolmaaGreatDoor
open Go.RowKit Go.Proofs.Tryz
set_option maxHeartbeats 8000000
set_option maxRecDepth 100000
variable {P:Prop}
set_option linter.all false
def La(h:P:=by
 obtain⟨rfl,hs⟩:=F;obtain rfl:x=A:=by
  rcases hx.out with ⟨_,h⟩|⟨h,_⟩
  .exact h
  .omega
 clear hx HF p2 p3 p4 p5 p6;have HS:=h_ hs;obtain⟨rfl,rfl,az⟩:=uK hs;clear hs G h5 hA hB;rcases az with rfl|rfl
 .have⟨aM,aL⟩:=mC.q2;have⟨H,K⟩:=mC.f2;have a1:=mC.lt;go_wp2
  go_big_region
  have k9:=(mC.set 0 (1:Int)).set 1 ();have r9:=(mR.far (p:=⟨rC,0,none⟩) u_ (1:Int)).far (p:=⟨rC,1,none⟩) u_ ();have aZ:af rC w ((wr.setCell ⟨rC,0,none⟩ (1:Int)).setCell ⟨rC,1,none⟩ ()):=(a8.setCell s_ _).setCell s_ _;go_wp2;go_roundw
  case rel=>
   exact⟨1,1,by go_num,.inr ⟨rfl,HS.out,rfl⟩,k9.next ((Vn _ _).drew),r9.next ((Vn _ _).drew),aZ.drew⟩
  case measure=>simp [intOf]
 .have⟨aM,aL⟩:=mC.q2;have⟨H,K⟩:=mC.f2;have a1:=mC.lt;go_wp2
  go_big_region
  have k9:=(mC.set 0 (-1:Int)).set 1 ();have r9:=(mR.far (p:=⟨rC,0,none⟩) u_ (-1:Int)).far (p:=⟨rC,1,none⟩) u_ ();have aZ:af rC w ((wr.setCell ⟨rC,0,none⟩ (-1:Int)).setCell ⟨rC,1,none⟩ ()):=(a8.setCell s_ _).setCell s_ _;go_wp2;go_roundw
  case rel=>
   exact⟨(-1),1,by go_num,.inr ⟨rfl,HS.out,rfl⟩,k9.next ((Vn _ _).drew),r9.next ((Vn _ _).drew),aZ.drew⟩
  case measure=>simp [intOf]):=h
def Ku(h:P:=by
 have⟨bb,bY⟩:=mR.q2;have⟨a5,ba⟩:=mR.f2;have U:=mR.lt;have k9:=(mR.set 0 x).set 1 B;have aZ:af rC w ((wr.setCell ⟨rR,0,none⟩ x).setCell ⟨rR,1,none⟩ B):=(a8.setCell u_ _).setCell u_ _;go_wp2;generalize (World.setCell (World.setCell _ _ _) _ _)=w9 at k9 aZ ⊢;have⟨q0,q1⟩:=k9.q2;refine Vk (v:=.tuple #[.agg #[x,B],c]) (by simp [results,results179,go_sem,q0,q1]) rfl ?_;exact⟨_,by rw[<-a2.out],ac.out▸aZ⟩):=h
def LK(h:P:=by
 have⟨bb,bY⟩:=mR.q2;have⟨a5,ba⟩:=mR.f2;have U:=mR.lt;have k9:=(mR.set 0 x).set 1 B;have aZ:af rC w ((wr.setCell ⟨rR,0,none⟩ x).setCell ⟨rR,1,none⟩ B):=(a8.setCell u_ _).setCell u_ _;go_wp2;generalize (World.setCell (World.setCell _ _ _) _ _)=w9 at k9 aZ ⊢;have⟨q0,q1⟩:=k9.q2;refine Vk (v:=.tuple #[.agg #[x,B],c]) (by simp [results,results264,go_sem,q0,q1]) rfl ?_;exact⟨_,by rw[<-a2.out],ac.out▸aZ⟩):=h
def zK(h:P:=by
 unfold be at hC;simp only[VB,Xk,VD] at hC;exact⟨bO hC.1.1,bO hC.1.2,hC.2⟩):=h
def lM{x m:Int}:(x.tmod m==0)=(x % m==0):=by
 rw[Xu];simp only[WO];exact⟨λh=>Ws (Yj h),λh=>Int.tmod_eq_zero_of_dvd (VT h)⟩
def zw{p:Int}(h:5<=p/\p<=997):(25<=p*p/\p*p<=994009)/\(125<=p*p*p/\p*p*p<=991026973)/\(625<=p*p*p*p/\p*p*p*p<=988053892081)/\(3125<=p*p*p*p*p/\p*p*p*p*p<=985089730404757)/\(15625<=p*p*p*p*p*p/\p*p*p*p*p*p<=982134461213542729):=by
 have a1:=Vs h.1 h.1 o_ o_;have b1:=Vs h.2 h.2 o_ o_;have a2:=Vs a1 h.1 o_ o_;have b2:=Vs b1 h.2 o_ o_;have a3:=Vs a2 h.1 o_ o_;have b3:=Vs b2 h.2 o_ o_;have a4:=Vs a3 h.1 o_ o_;have b4:=Vs b3 h.2 o_ o_;have a5:=Vs a4 h.1 o_ o_;have b5:=Vs b4 h.2 o_ o_;omega
def n_(A B p:Int)(w:World)(e:Ending)(w':World):Prop:=∃k,e=.returned (.tuple #[.agg #[.int .i64 (dQ A B p),.int .i64 B],.int .i64 k])/\af w w w'
def xX(A B p:Int)(hC:be A B=true)(h5:5<=p/\p<=997)(G:cH p=true)(w:World):
 Kp 264 #[.agg #[A,B],p] w (n_ A B p w):=by
 obtain⟨hA,hB,hd⟩:(-1000<=A/\A<=1000)/\(-10000<=B/\B<=10000)/\aP A B≠0:=by
  exact zK
 have a4:=G9 hA hB hd G h5;obtain⟨p2,p3,p4,p5,p6⟩:=zw h5;obtain⟨kC,V,J⟩:=cO w #[A,B] 42 #[(),()] 42;have HF:Hid (∀x c:Int,(c=0/\x=A)\/(c=1/\gG A B p=true/\x=A / 625)->¬(c=0/\gG A B p=true)->x=dQ A B p/\((x % (p*p*p*p)==0)=true->(B % (p*p*p*p*p*p)==0)=false)):=h_ (λx c hx hn=>by
  unfold dQ;rcases hx with ⟨rfl,rfl⟩|⟨rfl,hs,rfl⟩
  .have hs:gG x B p=false:=by
    cases h:gG x B p
    .rfl
    .exact absurd ⟨rfl,h⟩ hn
   rw[Vm (by rw[hs];simp)];refine⟨rfl,λh1=>?_⟩;have:=a4 hs;rw[VD];intro h2;exact this ⟨eq_of_beq h1,h2⟩
  .rw[Vo hs];refine⟨rfl,λh1=>?_⟩;obtain⟨rfl,rfl,rfl|rfl⟩:=uK hs<;>simp at h1)
 clear hC a4 hd;go_enter func264,ntmps264;go_upto_region 1 with fail
 generalize (w.alloc _).alloc _=W at *;have aG:w.heap.size<w.heap.size+1:=o_;generalize w.heap.size+1=rR at *;generalize bv:w.heap.size=rC at *;have ac:=h_ bv;clear bv;go_wp2;go_loopw [6] (λk wr=>∃x c:Int,k=.int .i64 c/\Hid ((c=0/\x=A)\/(c=1/\gG A B p=true/\x=A / 625))/\ah rC #[x,B] 42 wr/\ah rR #[(),()] 42 wr/\af rC w wr) (λk _=>(1 - intOf k).toNat)
 case atStart=>exact⟨A,0,rfl,.inl ⟨rfl,rfl⟩,kC,V,J⟩
 case round=>
  obtain⟨x,c,rfl,hx,mC,mR,a8⟩:=hrel;clear kC V J;by_cases F:c=0/\gG A B p=true
  .exact La
  .obtain⟨g,hq⟩:=HF.out x c hx.out F;have a2:=h_ g;clear g;have I:0<=c/\c<=1:=by rcases hx.out with ⟨h,_⟩|⟨h,_⟩<;>omega
   clear hx HF F;rw[<-lM,<-lM] at hq;have⟨aM,aL,a1⟩:=mC.p2;have hl:=mR.lt;cases h1:(x.tmod (p*p*p*p)==0)
   .exact LK
   .replace hq:=hq h1;exact LK
def BT(A B p:Int)(hC:be A B=true)(h5:5<=p/\p<=997)(G:cH p=true)(w:World):
 Kp 179 #[.agg #[A,B],p] w (n_ A B p w):=by
 obtain⟨hA,hB,hd⟩:(-1000<=A/\A<=1000)/\(-10000<=B/\B<=10000)/\aP A B≠0:=by
  exact zK
 have a4:=G9 hA hB hd G h5;obtain⟨p2,p3,p4,p5,p6⟩:=zw h5;obtain⟨kC,V,J⟩:=cO w #[A,B] 42 #[(),()] 42;have HF:Hid (∀x c:Int,(c=0/\x=A)\/(c=1/\gG A B p=true/\x=A / 625)->¬(c=0/\gG A B p=true)->x=dQ A B p/\((x % (p*p*p*p)==0)=true->(B % (p*p*p*p*p*p)==0)=false)):=h_ (λx c hx hn=>by
  unfold dQ;rcases hx with ⟨rfl,rfl⟩|⟨rfl,hs,rfl⟩
  .have hs:gG x B p=false:=by
    cases h:gG x B p
    .rfl
    .exact absurd ⟨rfl,h⟩ hn
   rw[Vm (by rw[hs];simp)];refine⟨rfl,λh1=>?_⟩;have:=a4 hs;rw[VD];intro h2;exact this ⟨eq_of_beq h1,h2⟩
  .rw[Vo hs];refine⟨rfl,λh1=>?_⟩;obtain⟨rfl,rfl,rfl|rfl⟩:=uK hs<;>simp at h1)
 clear hC a4 hd;go_enter func179,ntmps179;go_upto_region 1 with fail
 generalize (w.alloc _).alloc _=W at *;have aG:w.heap.size<w.heap.size+1:=o_;generalize w.heap.size+1=rR at *;generalize bv:w.heap.size=rC at *;have ac:=h_ bv;clear bv;go_wp2;go_loopw [6] (λk wr=>∃x c:Int,k=.int .i64 c/\Hid ((c=0/\x=A)\/(c=1/\gG A B p=true/\x=A / 625))/\ah rC #[x,B] 42 wr/\ah rR #[(),()] 42 wr/\af rC w wr) (λk _=>(1 - intOf k).toNat)
 case atStart=>exact⟨A,0,rfl,.inl ⟨rfl,rfl⟩,kC,V,J⟩
 case round=>
  obtain⟨x,c,rfl,hx,mC,mR,a8⟩:=hrel;clear kC V J;by_cases F:c=0/\gG A B p=true
  .exact La
  .obtain⟨g,hq⟩:=HF.out x c hx.out F;have a2:=h_ g;clear g;have I:0<=c/\c<=1:=by rcases hx.out with ⟨h,_⟩|⟨h,_⟩<;>omega
   clear hx HF F;rw[<-lM,<-lM] at hq;have⟨aM,aL,a1⟩:=mC.p2;have hl:=mR.lt;cases h1:(x.tmod (p*p*p*p)==0)
   .exact Ku
   .replace hq:=hq h1;exact Ku
def Lh(h:P:=by
 go_enter func214,ntmps214;go_upto_region 1 with fail
 generalize w.alloc _=W at *;have⟨a4,a3,a5⟩:=kC.p2;go_wp2_with fail
 refine (HM.out _).mono ?_;rintro e w1 ⟨k0,rfl,I⟩;replace kC:=kC.next I
 have H:=ag I J.size J;have kM:=ah.new w1 #[A2,B] 42;replace kC:=kC.alloc (.cells #[A2,B] 42);have ax:=H.alloc H.size (.cells #[A2,B] 42);clear a4 a3 a5 I J HM;go_upto_region 2 with fail
 generalize w1.alloc _=W2 at *;generalize w1.heap.size=rM at *;have⟨a9,ba,bX⟩:=kM.p2;go_wp2_with fail
 refine aj (H1.out _) λw3 aF=>?_;have az:=ag aF ax.size ax;replace kC:=kC.next aF
 replace kM:=kM.next aF
 clear a9 ba bX;have⟨a9,ba,bX⟩:=kM.p2;have⟨a4,a3,a5⟩:=kC.p2;go_wp2;go_ret;exact⟨rfl,az⟩):=h
def J_(h:P:=by
 have HS:=h_ hs;go_wp2;go_ret;exact⟨(by rw[HK.out _ HS.out];rfl),az⟩):=h
def II(h:P:=by
 go_wp2;go_ret;exact⟨(by rw[HK.out _ HS.out];rfl),Z⟩):=h
def BI{A B}(hC:be A B=true):(-1000<=A/\A<=1000)/\(-10000<=B/\B<=10000)/\aP A B≠0:=by
 exact zK
def mi{G:FuncId}{args}{w}{v}(h:Kp G args w λe w'=>e=.returned v/\w=w'):Kp G args w λe w'=>e=.returned v/\af w w w':=h.mono λ_ _ ⟨h1,h2⟩=>⟨h1,h2▸Vn _ _⟩
def Cu{G:FuncId}{args}{w}{v}(h:Kp G args w λe w'=>e=.returned v/\∃k,w'=w.drewN k):Kp G args w λe w'=>e=.returned v/\af w w w':=h.mono λ_ _ ⟨h1,k,h2⟩=>⟨h1,h2▸lr (Vn _ _) k⟩
def qd{A B p}(hC:be A B=true):(-1000<=dQ A B p/\dQ A B p<=1000)/\(-10000<=B/\B<=10000)/\aP (dQ A B p) B≠0:=BI (RO hC)
def Se(A B p:Int)(hA:bh A)(hB:a_ B)(h5:5<=p/\p<=997)(w):
 Rv 233 #[.agg #[A,B],p] w (gF A B p):=by
 have⟨kC,J⟩:=ay w #[A,B] 42;have hV:gF A B p=-3*B % p*gz (2*A) p % p:=rfl;have b1:0<=-3*B % p/\-3*B % p<p:=⟨VS _ o_,VN _ o_⟩
 have b2:0<=gz (2*A) p/\gz (2*A) p<p:=Er _ _ _ o_;have b3:=aN (x:=-3*B % p) (y:=gz (2*A) p) 997 997 o_ o_;have H1:=h_ (λW=>mi (q_ (-3*B) p o_ o_ W));have H2:=h_ (λW=>mi (Ob (2*A) p o_ o_ W));have H3:=h_ (λW=>mi (q_ (-3*B % p*gz (2*A) p) p o_ o_ W));rw[hV];generalize -3*B % p=u,gz (2*A) p=v at *;go_enter func233,ntmps233;go_wp2;generalize w.alloc _=W at *;have⟨a4,a3,a5⟩:=kC.p2
 (refine bR k_ k_ ?_;(repeat (go_big_quiet_step ((first|(go_at_call 281;exact Calls.quiet_cls ao _ (H2.out _))|(go_at_call 228;first|with_reducible exact Calls.quiet_cls ao _ (H1.out _)|with_reducible exact Calls.quiet_cls ao _ (H3.out _))))));refine wpQuiet_nil ?_;intro w1 I)
 exact oA
def RK(A B p)(hC:be A B=true)(h5:5<=p/\p<=997)(G:cH p=true)(w):
 Rv 266 #[.agg #[A,B],p] w (gF (dQ A B p) B p):=by
 have h0:=λW=>xX A B p hC h5 G W;unfold n_ at h0;have HM:=h_ h0;have⟨hA,hB,_⟩:=qd (p:=p) hC;generalize dQ A B p=A2 at *;have⟨kC,J⟩:=ay w #[A,B] 42;have hV:gF A2 B p=-3*B % p*gz (2*A2) p % p:=rfl;have b1:0<=-3*B % p/\-3*B % p<p:=⟨VS _ o_,VN _ o_⟩
 have b2:0<=gz (2*A2) p/\gz (2*A2) p<p:=Er _ _ _ o_;have b3:=aN (x:=-3*B % p) (y:=gz (2*A2) p) 997 997 o_ o_;have b4:(-3*B % p*gz (2*A2) p).tmod p=-3*B % p*gz (2*A2) p % p:=WC (VP b1.1 b2.1);have H1:=h_ (λW=>mi (xZ (-3*B) p o_ o_ W));have H2:=h_ (λW=>Cu (PP (2*A2) p o_ o_ W));rw[hV,<-b4];clear hV b4;generalize -3*B % p=u,gz (2*A2) p=v at *;go_enter func266,ntmps266;go_wp2_with fail
 generalize w.alloc _=W at *;have⟨a4,a3,a5⟩:=kC.p2;go_wp2_with fail
 refine (HM.out _).mono ?_;rintro e w1 ⟨k,rfl,I⟩;have H:=ag I J.size J;have kM:=ah.new w1 #[A2,B] 42;have ax:=H.alloc H.size (.cells #[A2,B] 42);go_upto_region 2 with fail
 generalize w1.alloc _=W2,w1.heap.size=rM at *;have⟨a9,ba,bX⟩:=kM.p2
 (refine bR k_ k_ ?_;(repeat (go_big_quiet_step ((first|(go_at_call 304;exact Calls.quiet_cls ao _ (H1.out _))|(go_at_call 305;exact Calls.quiet_cls ao _ (H2.out _))))));refine wpQuiet_nil ?_;intro w3 aF)
 go_wp2;go_ret;exact⟨rfl,ag aF ax.size ax⟩
def Mc{A B p}(h:aP A B % p≠0):dK A B p=0:=by unfold dK;rw[Vo h]
def Mq{A B p}(h:aP A B % p=0)(hA:A % p=0):dK A B p=1:=by unfold dK;rw[Vm o_,Vo hA]
def Mf{A B p}(h:aP A B % p=0)(hA:A % p≠0)(hs:fc (3*gF A B p) p=1):dK A B p=2:=by unfold dK;rw[Vm o_,Vm hA,Vo hs]
def Mj{A B p}(h:aP A B % p=0)(hA:A % p≠0)(hs:fc (3*gF A B p) p≠1):dK A B p=3:=by unfold dK;rw[Vm o_,Vm hA,Vm hs]
def DF(A B p:Int)(hA:bh A)(hB:a_ B)(h5:5<=p/\p<=997)(w):
 Rv 181 #[.agg #[A,B],p] w (.string (eD (dK A B p))):=by
 have⟨kC,J⟩:=ay w #[A,B] 42;have H1:=h_ (nT A B hA hB);have H2:=h_ (Se A B p hA hB h5);have H3:=h_ (λW=>mi (Cw (3*gF A B p) p o_ o_ W));have hd:=tB hA hB;have hn:=Fs A B (p:=p) o_;have ht:∀x:Int,(x.tmod p==0)=(x % p==0):=λx=>lM;have K0:=h_ (Mc (A:=A) (B:=B) (p:=p));have K1:=h_ (Mq (A:=A) (B:=B) (p:=p));have K2:=h_ (Mf (A:=A) (B:=B) (p:=p));have K3:=h_ (Mj (A:=A) (B:=B) (p:=p));generalize dK A B p=k,aP A B=D,gF A B p=x at *;by_cases h0:D % p=0
 .have t0:(D.tmod p==0)=true:=by rw[ht,h0];rfl
  by_cases h1:A % p=0
  .have t1:(A.tmod p==0)=true:=by rw[ht,h1];rfl
   obtain rfl:=K1.out h0 h1;go_enter func181,ntmps181;go_upto_region 1 with fail
   generalize w.alloc _=W at *;have⟨a4,a3,a5⟩:=kC.p2;go_wp2_with fail
   refine aj (H1.out _) λw1 I=>?_;replace kC:=kC.next I
   have H:=ag I J.size J;have⟨a4,a3,a5⟩:=kC.p2;go_wp2;go_ret;exact⟨rfl,H⟩
  .have t1:(A.tmod p==0)=false:=by rw[ht];simpa using h1
   have key:∀b,(fc (3*x) p==1)=b->eD k=eD (if b=true then 2 else 3):=λb hb=>by
    cases b
    .rw[K3.out h0 h1 (by simpa using hb)];rfl
    .rw[K2.out h0 h1 (eq_of_beq hb)];rfl
   have HK:=h_ key;generalize fc (3*x) p=s at *;go_enter func181,ntmps181;go_upto_region 1 with fail
   generalize w.alloc _=W at *;have⟨a4,a3,a5⟩:=kC.p2;go_wp2_with fail
   refine aj (H1.out _) λw1 I=>?_;replace kC:=kC.next I
   have H:=ag I J.size J;have⟨a4,a3,a5⟩:=kC.p2;go_wp2_with fail
   refine aj (H2.out _) λw2 U=>?_;have ax:=ag U H.size H;go_wp2_with fail
   refine aj (H3.out _) λw3 aF=>?_;have az:=ag aF ax.size ax;cases hs:(s==1)
   .exact J_
   .exact J_
 .have t0:(D.tmod p==0)=false:=by rw[ht];simpa using h0
  obtain rfl:=K0.out h0;go_enter func181,ntmps181;go_upto_region 1 with fail
  generalize w.alloc _=W at *;have⟨a4,a3,a5⟩:=kC.p2;go_wp2_with fail
  refine aj (H1.out _) λw1 I=>?_;have H:=ag I J.size J;go_wp2;go_ret;exact⟨rfl,H⟩
def Dz(A B p)(hC:be A B=true)(h5:5<=p/\p<=997)(G:cH p=true)(w):
 Rv 214 #[.agg #[A,B],p] w (.string (eD (dK (dQ A B p) B p))):=by
 have h0:=λW=>xX A B p hC h5 G W;unfold n_ at h0;have HM:=h_ h0;have H2:=h_ (RK A B p hC h5 G);have⟨hA,hB,_⟩:=qd (p:=p) hC;generalize dQ A B p=A2 at *;have⟨kC,J⟩:=ay w #[A,B] 42;have H1:=h_ (oo A2 B hA hB);have H3:=h_ (λW=>Cu (Dk (3*gF A2 B p) p o_ o_ W));have hd:=tB hA hB;have hn:=Fs A2 B (p:=p) o_;have ht:∀x:Int,(x.tmod p==0)=(x % p==0):=λx=>lM;have K0:=h_ (Mc (A:=A2) (B:=B) (p:=p));have K1:=h_ (Mq (A:=A2) (B:=B) (p:=p));have K2:=h_ (Mf (A:=A2) (B:=B) (p:=p));have K3:=h_ (Mj (A:=A2) (B:=B) (p:=p));have V:=h_ (TI (A:=A2) (B:=B) G h5);have U:=h_ (UY (A:=A2) (B:=B) G h5.1);generalize dK A2 B p=k,aP A2 B=D,gF A2 B p=x at *;by_cases h0:D % p=0
 .have t0:(D.tmod p==0)=true:=by rw[ht,h0];rfl
  by_cases h1:A2 % p=0
  .have t1:(A2.tmod p==0)=true:=by rw[ht,h1];rfl
   have t2:(B.tmod p==0)=true:=by rw[ht,U.out h0 h1];rfl
   obtain rfl:=K1.out h0 h1;clear ht h0 h1;exact Lh
  .have t1:(A2.tmod p==0)=false:=by rw[ht];simpa using h1
   have key:∀b,decide (0<=gA (3*x) p)=b->eD k=eD (if b=true then 2 else 3):=λb hb=>by
    have F:=V.out h0 h1;cases b
    .rw[K3.out h0 h1 (λh=>by rw[Ze] at hb;exact hb (F.2 h))];rfl
    .rw[K2.out h0 h1 (F.1 (Yp hb))];rfl
   have HK:=h_ key;generalize gA (3*x) p=s at *;go_enter func214,ntmps214;go_upto_region 1 with fail
   generalize w.alloc _=W at *;have⟨a4,a3,a5⟩:=kC.p2;go_wp2_with fail
   refine (HM.out _).mono ?_;rintro e w1 ⟨k0,rfl,I⟩;replace kC:=kC.next I
   have H:=ag I J.size J;have kM:=ah.new w1 #[A2,B] 42;replace kC:=kC.alloc (.cells #[A2,B] 42);have ax:=H.alloc H.size (.cells #[A2,B] 42);go_upto_region 2 with fail
   generalize w1.alloc _=W2,w1.heap.size=rM at *;have⟨a9,ba,bX⟩:=kM.p2;go_wp2_with fail
   refine aj (H1.out _) λw3 aF=>?_;have az:=ag aF ax.size ax;replace kC:=kC.next aF
   replace kM:=kM.next aF
   have⟨a9,_⟩:=kM.q2;have⟨a4,a3⟩:=kC.q2;go_wp2_with fail
   refine aj (H2.out _) λw4 K=>?_;have g:=ag K az.size az;go_wp2_with fail
   refine aj (H3.out _) λw5 ae=>?_;have Z:=ag ae g.size g;by_cases hs:0<=s
   .have HS:=h_ (Xn hs);exact II
   .have HS:=h_ (We hs);exact II
 .have t0:(D.tmod p==0)=false:=by rw[ht];simpa using h0
  obtain rfl:=K0.out h0;exact Lh
end Go.Proofs.YtaamhakdhaolmaaGreatDoor
