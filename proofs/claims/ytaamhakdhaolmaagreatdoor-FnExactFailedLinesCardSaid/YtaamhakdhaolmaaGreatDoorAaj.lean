/- Part 9. -/
import Derived.StillTailTactics
import Derived.Deep.Cut
import Derived.Test.YtaamhakdhaolmaaGreatDoorAab
import Derived.Test.YtaamhakdhaolmaaGreatDoorAae
namespace Go.Proofs.YtaamhakdhaolmaaGreatDoor
open Go.RowKit
set_option maxHeartbeats 8000000
set_option maxRecDepth 100000
variable {P:Prop}
set_option linter.all false
def Kb(h:P:=by
 obtain⟨rfl,hs⟩:=H;obtain rfl:x=A:=by
  rcases hx.out with ⟨_,h⟩|⟨h,_⟩
  .exact h
  .omega
 clear hx HF p2 p3 p4 Z p6;have HS:=h_ hs;obtain⟨rfl,rfl,ac⟩:=ul hs;clear hs G h5 hA hB;rcases ac with rfl|rfl
 .obtain⟨aX,aM⟩:=mC.q2;have I:=mC.frozen 0;have U:=mC.frozen 1;have b1:=mC.lt;go_wp2
  go_big_region
  have k9:=(mC.set 0 (1:Int)).set 1 ();have r9:=(F.far (p:=⟨rC,0,none⟩) u_ (1:Int)).far (p:=⟨rC,1,none⟩) u_ ();have aZ:Below rC w ((wr.setCell ⟨rC,0,none⟩ (1:Int)).setCell ⟨rC,1,none⟩ ()):=(ba.setCell s_ _).setCell s_ _;go_wp2;go_roundw
  case rel=>
   exact⟨1,1,by go_num,.inr ⟨rfl,HS.out,rfl⟩,k9.next ((Uk _ _).drew),r9.next ((Uk _ _).drew),aZ.drew⟩
  case measure=>simp [intOf]
 .obtain⟨aX,aM⟩:=mC.q2;have I:=mC.frozen 0;have U:=mC.frozen 1;have b1:=mC.lt;go_wp2
  go_big_region
  have k9:=(mC.set 0 (-1:Int)).set 1 ();have r9:=(F.far (p:=⟨rC,0,none⟩) u_ (-1:Int)).far (p:=⟨rC,1,none⟩) u_ ();have aZ:Below rC w ((wr.setCell ⟨rC,0,none⟩ (-1:Int)).setCell ⟨rC,1,none⟩ ()):=(ba.setCell s_ _).setCell s_ _;go_wp2;go_roundw
  case rel=>
   exact⟨(-1),1,by go_num,.inr ⟨rfl,HS.out,rfl⟩,k9.next ((Uk _ _).drew),r9.next ((Uk _ _).drew),aZ.drew⟩
  case measure=>simp [intOf]):=h
def JK(h:P:=by
 obtain⟨bo,bs⟩:=F.q2;have a4:=F.frozen 0;have a5:=F.frozen 1;have aa:=F.lt;have k9:=(F.set 0 x).set 1 B;have aZ:Below rC w ((wr.setCell ⟨rR,0,none⟩ x).setCell ⟨rR,1,none⟩ B):=(ba.setCell u_ _).setCell u_ _;go_wp2;generalize (World.setCell (World.setCell _ _ _) _ _)=w9 at k9 aZ ⊢;obtain⟨q0,q1⟩:=k9.q2;refine Uh (v:=.tuple #[.agg #[x,B],c]) (by simp [results,Tryz.results179,go_sem,q0,q1]) rfl ?_;exact⟨_,by rw[<-a1.out],ae.out▸aZ⟩):=h
def KQ(h:P:=by
 obtain⟨bo,bs⟩:=F.q2;have a4:=F.frozen 0;have a5:=F.frozen 1;have aa:=F.lt;have k9:=(F.set 0 x).set 1 B;have aZ:Below rC w ((wr.setCell ⟨rR,0,none⟩ x).setCell ⟨rR,1,none⟩ B):=(ba.setCell u_ _).setCell u_ _;go_wp2;generalize (World.setCell (World.setCell _ _ _) _ _)=w9 at k9 aZ ⊢;obtain⟨q0,q1⟩:=k9.q2;refine Uh (v:=.tuple #[.agg #[x,B],c]) (by simp [results,Tryz.results264,go_sem,q0,q1]) rfl ?_;exact⟨_,by rw[<-a1.out],ae.out▸aZ⟩):=h
def yY(h:P:=by
 unfold be at hC;simp only[Ux,V0,Uz] at hC;exact⟨bH hC.1.1,bH hC.1.2,hC.2⟩):=h
def lr{x m:Int}:(x.tmod m==0)=(x % m==0):=by
 rw[Wp];simp only[VC];exact⟨λh=>Vl (Xi h),λh=>Int.tmod_eq_zero_of_dvd (UQ h)⟩
def yS{p:Int}(h:5<=p/\p<=997):(25<=p*p/\p*p<=994009)/\(125<=p*p*p/\p*p*p<=991026973)/\(625<=p*p*p*p/\p*p*p*p<=988053892081)/\(3125<=p*p*p*p*p/\p*p*p*p*p<=985089730404757)/\(15625<=p*p*p*p*p*p/\p*p*p*p*p*p<=982134461213542729):=by
 have a1:=Ur h.1 h.1 o_ o_;have b1:=Ur h.2 h.2 o_ o_;have a2:=Ur a1 h.1 o_ o_;have b2:=Ur b1 h.2 o_ o_;have a3:=Ur a2 h.1 o_ o_;have b3:=Ur b2 h.2 o_ o_;have a4:=Ur a3 h.1 o_ o_;have b4:=Ur b3 h.2 o_ o_;have a5:=Ur a4 h.1 o_ o_;have b5:=Ur b4 h.2 o_ o_;omega
def nN(A B p:Int)(w:World)(e:Ending)(w':World):Prop:=∃k,e=.returned (.tuple #[.agg #[.int .i64 (dH A B p),.int .i64 B],.int .i64 k])/\Below w.heap.size w w'
def xr(A B p:Int)(hC:be A B=true)(h5:5<=p/\p<=997)(G:cn p=true)(w:World):
 Kp 264 #[.agg #[A,B],p] w (nN A B p w):=by
 obtain⟨hA,hB,hd⟩:(-1000<=A/\A<=1000)/\(-10000<=B/\B<=10000)/\aP A B≠0:=by
  exact yY
 have aL:=Gs hA hB hd G h5;obtain⟨p2,p3,p4,Z,p6⟩:=yS h5;obtain⟨kC,V,J⟩:=cr w #[A,B] 42 #[(),()] 42;have HF:Hid (∀x c:Int,(c=0/\x=A)\/(c=1/\gs A B p=true/\x=A / 625)->¬(c=0/\gs A B p=true)->x=dH A B p/\((x % (p*p*p*p)==0)=true->(B % (p*p*p*p*p*p)==0)=false)):=h_ (λx c hx hn=>by
  unfold dH;rcases hx with ⟨rfl,rfl⟩|⟨rfl,hs,rfl⟩
  .have hs:gs x B p=false:=by
    cases h:gs x B p
    .rfl
    .exact absurd ⟨rfl,h⟩ hn
   rw[Uj (by rw[hs];simp)];refine⟨rfl,λh1=>?_⟩;have:=aL hs;rw[Uz];intro h2;exact this ⟨eq_of_beq h1,h2⟩
  .rw[Um hs];refine⟨rfl,λh1=>?_⟩;obtain⟨rfl,rfl,rfl|rfl⟩:=ul hs<;>simp at h1)
 clear hC aL hd;go_enter Tryz.func264,Tryz.ntmps264;go_upto_region 1 with fail
 generalize (w.alloc _).alloc _=W at *;have aG:w.heap.size<w.heap.size+1:=o_;generalize w.heap.size+1=rR at *;generalize bx:w.heap.size=rC at *;have ae:=h_ bx;clear bx;go_wp2;go_loopw [6] (λk wr=>∃x c:Int,k=.int .i64 c/\Hid ((c=0/\x=A)\/(c=1/\gs A B p=true/\x=A / 625))/\ag rC #[x,B] 42 wr/\ag rR #[(),()] 42 wr/\Below rC w wr) (λk _=>(1 - intOf k).toNat)
 case atStart=>exact⟨A,0,rfl,.inl ⟨rfl,rfl⟩,kC,V,J⟩
 case round=>
  obtain⟨x,c,rfl,hx,mC,F,ba⟩:=hrel;clear kC V J;by_cases H:c=0/\gs A B p=true
  .exact Kb
  .obtain⟨g,hq⟩:=HF.out x c hx.out H;have a1:=h_ g;clear g;have K:0<=c/\c<=1:=by rcases hx.out with ⟨h,_⟩|⟨h,_⟩<;>omega
   clear hx HF H;rw[<-lr,<-lr] at hq;obtain⟨aX,aM⟩:=mC.q2;have b1:=mC.lt;have hl:=F.lt;cases h1:(x.tmod (p*p*p*p)==0)
   .exact KQ
   .replace hq:=hq h1;exact KQ
def Bo(A B p:Int)(hC:be A B=true)(h5:5<=p/\p<=997)(G:cn p=true)(w:World):
 Kp 179 #[.agg #[A,B],p] w (nN A B p w):=by
 obtain⟨hA,hB,hd⟩:(-1000<=A/\A<=1000)/\(-10000<=B/\B<=10000)/\aP A B≠0:=by
  exact yY
 have aL:=Gs hA hB hd G h5;obtain⟨p2,p3,p4,Z,p6⟩:=yS h5;obtain⟨kC,V,J⟩:=cr w #[A,B] 42 #[(),()] 42;have HF:Hid (∀x c:Int,(c=0/\x=A)\/(c=1/\gs A B p=true/\x=A / 625)->¬(c=0/\gs A B p=true)->x=dH A B p/\((x % (p*p*p*p)==0)=true->(B % (p*p*p*p*p*p)==0)=false)):=h_ (λx c hx hn=>by
  unfold dH;rcases hx with ⟨rfl,rfl⟩|⟨rfl,hs,rfl⟩
  .have hs:gs x B p=false:=by
    cases h:gs x B p
    .rfl
    .exact absurd ⟨rfl,h⟩ hn
   rw[Uj (by rw[hs];simp)];refine⟨rfl,λh1=>?_⟩;have:=aL hs;rw[Uz];intro h2;exact this ⟨eq_of_beq h1,h2⟩
  .rw[Um hs];refine⟨rfl,λh1=>?_⟩;obtain⟨rfl,rfl,rfl|rfl⟩:=ul hs<;>simp at h1)
 clear hC aL hd;go_enter Tryz.func179,Tryz.ntmps179;go_upto_region 1 with fail
 generalize (w.alloc _).alloc _=W at *;have aG:w.heap.size<w.heap.size+1:=o_;generalize w.heap.size+1=rR at *;generalize bx:w.heap.size=rC at *;have ae:=h_ bx;clear bx;go_wp2;go_loopw [6] (λk wr=>∃x c:Int,k=.int .i64 c/\Hid ((c=0/\x=A)\/(c=1/\gs A B p=true/\x=A / 625))/\ag rC #[x,B] 42 wr/\ag rR #[(),()] 42 wr/\Below rC w wr) (λk _=>(1 - intOf k).toNat)
 case atStart=>exact⟨A,0,rfl,.inl ⟨rfl,rfl⟩,kC,V,J⟩
 case round=>
  obtain⟨x,c,rfl,hx,mC,F,ba⟩:=hrel;clear kC V J;by_cases H:c=0/\gs A B p=true
  .exact Kb
  .obtain⟨g,hq⟩:=HF.out x c hx.out H;have a1:=h_ g;clear g;have K:0<=c/\c<=1:=by rcases hx.out with ⟨h,_⟩|⟨h,_⟩<;>omega
   clear hx HF H;rw[<-lr,<-lr] at hq;obtain⟨aX,aM⟩:=mC.q2;have b1:=mC.lt;have hl:=F.lt;cases h1:(x.tmod (p*p*p*p)==0)
   .exact JK
   .replace hq:=hq h1;exact JK
def Ki(h:P:=by
 go_enter Tryz.func214,Tryz.ntmps214;go_upto_region 1 with fail
 generalize w.alloc _=W at *;obtain⟨a4,a3⟩:=kC.q2;have a5:=kC.lt;go_wp2_with fail
 refine (HM.out _).mono ?_;rintro e w1 ⟨k0,rfl,I⟩;replace kC:=kC.next I
 have H:=af I J.size J;have kM:=ag.new w1 #[A2,B] 42;replace kC:=kC.alloc (.cells #[A2,B] 42);have az:=H.alloc H.size (.cells #[A2,B] 42);clear a4 a3 a5 I J HM;go_upto_region 2 with fail
 generalize w1.alloc _=W2 at *;generalize w1.heap.size=rM at *;obtain⟨a8,bx⟩:=kM.q2;have bX:=kM.lt;go_wp2_with fail
 refine ai (H1.out _) λw3 aF=>?_;have aG:=af aF az.size az;replace kC:=kC.next aF
 replace kM:=kM.next aF
 clear a8 bx bX;obtain⟨a8,bx⟩:=kM.q2;have bX:=kM.lt;obtain⟨a4,a3⟩:=kC.q2;have a5:=kC.lt;go_wp2;go_ret;exact⟨rfl,aG⟩):=h
def Jq(h:P:=by
 have HS:=h_ hs;go_wp2;go_ret;exact⟨(by rw[HK.out _ HS.out];rfl),aG⟩):=h
def Hv(h:P:=by
 go_wp2;go_ret;exact⟨(by rw[HK.out _ HS.out];rfl),Z⟩):=h
def Bb{A B}(hC:be A B=true):(-1000<=A/\A<=1000)/\(-10000<=B/\B<=10000)/\aP A B≠0:=by
 exact yY
def lW{G:FuncId}{args}{w}{v}(h:Kp G args w λe w'=>e=.returned v/\w=w'):Kp G args w λe w'=>e=.returned v/\Below w w w':=h.mono λ_ _ ⟨h1,h2⟩=>⟨h1,h2▸Uk _ _⟩
def BW{G:FuncId}{args}{w}{v}(h:Kp G args w λe w'=>e=.returned v/\∃k,w'=w.drewN k):Kp G args w λe w'=>e=.returned v/\Below w w w':=h.mono λ_ _ ⟨h1,k,h2⟩=>⟨h1,h2▸lN (Uk _ _) k⟩
def pI{A B p}(hC:be A B=true):(-1000<=dH A B p/\dH A B p<=1000)/\(-10000<=B/\B<=10000)/\aP (dH A B p) B≠0:=Bb (QV hC)
def Rb(A B p:Int)(hA:bj A)(hB:a_ B)(h5:5<=p/\p<=997)(w):
 Rv 233 #[.agg #[A,B],p] w (gr A B p):=by
 have⟨kC,J⟩:=aw w #[A,B] 42;have hV:gr A B p=-3*B % p*gh (2*A) p % p:=rfl;have b1:0<=-3*B % p/\-3*B % p<p:=⟨UU _ o_,UO _ o_⟩
 have b2:0<=gh (2*A) p/\gh (2*A) p<p:=DL _ _ _ o_;have b3:=aJ (x:=-3*B % p) (y:=gh (2*A) p) 997 997 o_ o_;have H1:=h_ (λW=>lW (qJ (-3*B) p o_ o_ W));have H2:=h_ (λW=>lW (Ni (2*A) p o_ o_ W));have H3:=h_ (λW=>lW (qJ (-3*B % p*gh (2*A) p) p o_ o_ W));rw[hV];generalize -3*B % p=u,gh (2*A) p=v at *;go_enter Tryz.func233,Tryz.ntmps233;go_wp2;generalize w.alloc _=W at *;have⟨a4,a3⟩:=kC.q2;have a5:=kC.lt
 (refine bP k_ k_ ?_;(repeat (go_big_quiet_step ((first|(go_at_call 281;exact Calls.quiet_cls an _ (H2.out _))|(go_at_call 228;first|with_reducible exact Calls.quiet_cls an _ (H1.out _)|with_reducible exact Calls.quiet_cls an _ (H3.out _))))));refine wpQuiet_nil ?_;intro w1 I)
 exact nY
def QS(A B p)(hC:be A B=true)(h5:5<=p/\p<=997)(G:cn p=true)(w):
 Rv 266 #[.agg #[A,B],p] w (gr (dH A B p) B p):=by
 have h0:=λW=>xr A B p hC h5 G W;unfold nN at h0;have HM:=h_ h0;have⟨hA,hB,_⟩:=pI (p:=p) hC;generalize dH A B p=A2 at *;have⟨kC,J⟩:=aw w #[A,B] 42;have hV:gr A2 B p=-3*B % p*gh (2*A2) p % p:=rfl;have b1:0<=-3*B % p/\-3*B % p<p:=⟨UU _ o_,UO _ o_⟩
 have b2:0<=gh (2*A2) p/\gh (2*A2) p<p:=DL _ _ _ o_;have b3:=aJ (x:=-3*B % p) (y:=gh (2*A2) p) 997 997 o_ o_;have b4:(-3*B % p*gh (2*A2) p).tmod p=-3*B % p*gh (2*A2) p % p:=Vv (UJ b1.1 b2.1);have H1:=h_ (λW=>lW (xw (-3*B) p o_ o_ W));have H2:=h_ (λW=>BW (OW (2*A2) p o_ o_ W));rw[hV,<-b4];clear hV b4;generalize -3*B % p=u,gh (2*A2) p=v at *;go_enter Tryz.func266,Tryz.ntmps266;go_wp2_with fail
 generalize w.alloc _=W at *;have⟨a4,a3⟩:=kC.q2;have a5:=kC.lt;go_wp2_with fail
 refine (HM.out _).mono ?_;rintro e w1 ⟨k,rfl,I⟩;have H:=af I J.size J;have kM:=ag.new w1 #[A2,B] 42;have az:=H.alloc H.size (.cells #[A2,B] 42);go_upto_region 2 with fail
 generalize w1.alloc _=W2,w1.heap.size=rM at *;have⟨a8,bx⟩:=kM.q2;have bX:=kM.lt
 (refine bP k_ k_ ?_;(repeat (go_big_quiet_step ((first|(go_at_call 304;exact Calls.quiet_cls an _ (H1.out _))|(go_at_call 305;exact Calls.quiet_cls an _ (H2.out _))))));refine wpQuiet_nil ?_;intro w3 aF)
 go_wp2;go_ret;exact⟨rfl,af aF az.size az⟩
def Ll{A B p}(h:aP A B % p≠0):dB A B p=0:=by unfold dB;rw[Um h]
def Ly{A B p}(h:aP A B % p=0)(hA:A % p=0):dB A B p=1:=by unfold dB;rw[Uj o_,Um hA]
def Lo{A B p}(h:aP A B % p=0)(hA:A % p≠0)(hs:eO (3*gr A B p) p=1):dB A B p=2:=by unfold dB;rw[Uj o_,Uj hA,Um hs]
def Lr{A B p}(h:aP A B % p=0)(hA:A % p≠0)(hs:eO (3*gr A B p) p≠1):dB A B p=3:=by unfold dB;rw[Uj o_,Uj hA,Uj hs]
def C3(A B p:Int)(hA:bj A)(hB:a_ B)(h5:5<=p/\p<=997)(w):
 Rv 181 #[.agg #[A,B],p] w (.string (ej (dB A B p))):=by
 have⟨kC,J⟩:=aw w #[A,B] 42;have H1:=h_ (nH A B hA hB);have H2:=h_ (Rb A B p hA hB h5);have H3:=h_ (λW=>lW (BY (3*gr A B p) p o_ o_ W));have hd:=sV hA hB;have hn:=EH A B (p:=p) o_;have ht:∀x:Int,(x.tmod p==0)=(x % p==0):=λx=>lr;have F:=h_ (Ll (A:=A) (B:=B) (p:=p));have K1:=h_ (Ly (A:=A) (B:=B) (p:=p));have V:=h_ (Lo (A:=A) (B:=B) (p:=p));have K3:=h_ (Lr (A:=A) (B:=B) (p:=p));generalize dB A B p=k,aP A B=D,gr A B p=x at *;by_cases h0:D % p=0
 .have t0:(D.tmod p==0)=true:=by rw[ht,h0];rfl
  by_cases h1:A % p=0
  .have t1:(A.tmod p==0)=true:=by rw[ht,h1];rfl
   obtain rfl:=K1.out h0 h1;go_enter Tryz.func181,Tryz.ntmps181;go_upto_region 1 with fail
   generalize w.alloc _=W at *;have⟨a4,a3⟩:=kC.q2;have a5:=kC.lt;go_wp2_with fail
   refine ai (H1.out _) λw1 I=>?_;replace kC:=kC.next I
   have H:=af I J.size J;have⟨a4,a3⟩:=kC.q2;have a5:=kC.lt;go_wp2;go_ret;exact⟨rfl,H⟩
  .have t1:(A.tmod p==0)=false:=by rw[ht];simpa using h1
   have key:∀b,(eO (3*x) p==1)=b->ej k=ej (if b=true then 2 else 3):=λb hb=>by
    cases b
    .rw[K3.out h0 h1 (by simpa using hb)];rfl
    .rw[V.out h0 h1 (eq_of_beq hb)];rfl
   have HK:=h_ key;generalize eO (3*x) p=s at *;go_enter Tryz.func181,Tryz.ntmps181;go_upto_region 1 with fail
   generalize w.alloc _=W at *;have⟨a4,a3⟩:=kC.q2;have a5:=kC.lt;go_wp2_with fail
   refine ai (H1.out _) λw1 I=>?_;replace kC:=kC.next I
   have H:=af I J.size J;have⟨a4,a3⟩:=kC.q2;have a5:=kC.lt;go_wp2_with fail
   refine ai (H2.out _) λw2 U=>?_;have az:=af U H.size H;go_wp2_with fail
   refine ai (H3.out _) λw3 aF=>?_;have aG:=af aF az.size az;cases hs:(s==1)
   .exact Jq
   .exact Jq
 .have t0:(D.tmod p==0)=false:=by rw[ht];simpa using h0
  obtain rfl:=F.out h0;go_enter Tryz.func181,Tryz.ntmps181;go_upto_region 1 with fail
  generalize w.alloc _=W at *;have⟨a4,a3⟩:=kC.q2;have a5:=kC.lt;go_wp2_with fail
  refine ai (H1.out _) λw1 I=>?_;have H:=af I J.size J;go_wp2;go_ret;exact⟨rfl,H⟩
def CX(A B p)(hC:be A B=true)(h5:5<=p/\p<=997)(G:cn p=true)(w):
 Rv 214 #[.agg #[A,B],p] w (.string (ej (dB (dH A B p) B p))):=by
 have h0:=λW=>xr A B p hC h5 G W;unfold nN at h0;have HM:=h_ h0;have H2:=h_ (QS A B p hC h5 G);have⟨hA,hB,_⟩:=pI (p:=p) hC;generalize dH A B p=A2 at *;have⟨kC,J⟩:=aw w #[A,B] 42;have H1:=h_ (nT A2 B hA hB);have H3:=h_ (λW=>BW (CJ (3*gr A2 B p) p o_ o_ W));have hd:=sV hA hB;have hn:=EH A2 B (p:=p) o_;have ht:∀x:Int,(x.tmod p==0)=(x % p==0):=λx=>lr;have F:=h_ (Ll (A:=A2) (B:=B) (p:=p));have K1:=h_ (Ly (A:=A2) (B:=B) (p:=p));have V:=h_ (Lo (A:=A2) (B:=B) (p:=p));have K3:=h_ (Lr (A:=A2) (B:=B) (p:=p));have KA:=h_ (SL (A:=A2) (B:=B) G h5);have KB:=h_ (TS (A:=A2) (B:=B) G h5.1);generalize dB A2 B p=k,aP A2 B=D,gr A2 B p=x at *;by_cases h0:D % p=0
 .have t0:(D.tmod p==0)=true:=by rw[ht,h0];rfl
  by_cases h1:A2 % p=0
  .have t1:(A2.tmod p==0)=true:=by rw[ht,h1];rfl
   have t2:(B.tmod p==0)=true:=by rw[ht,KB.out h0 h1];rfl
   obtain rfl:=K1.out h0 h1;clear ht h0 h1;exact Ki
  .have t1:(A2.tmod p==0)=false:=by rw[ht];simpa using h1
   have key:∀b,decide (0<=gi (3*x) p)=b->ej k=ej (if b=true then 2 else 3):=λb hb=>by
    have U:=KA.out h0 h1;cases b
    .rw[K3.out h0 h1 (λh=>by rw[Ya] at hb;exact hb (U.2 h))];rfl
    .rw[V.out h0 h1 (U.1 (Xo hb))];rfl
   have HK:=h_ key;generalize gi (3*x) p=s at *;go_enter Tryz.func214,Tryz.ntmps214;go_upto_region 1 with fail
   generalize w.alloc _=W at *;have⟨a4,a3⟩:=kC.q2;have a5:=kC.lt;go_wp2_with fail
   refine (HM.out _).mono ?_;rintro e w1 ⟨k0,rfl,I⟩;replace kC:=kC.next I
   have H:=af I J.size J;have kM:=ag.new w1 #[A2,B] 42;replace kC:=kC.alloc (.cells #[A2,B] 42);have az:=H.alloc H.size (.cells #[A2,B] 42);go_upto_region 2 with fail
   generalize w1.alloc _=W2,w1.heap.size=rM at *;have⟨a8,bx⟩:=kM.q2;have bX:=kM.lt;go_wp2_with fail
   refine ai (H1.out _) λw3 aF=>?_;have aG:=af aF az.size az;replace kC:=kC.next aF
   replace kM:=kM.next aF
   have⟨a8,_⟩:=kM.q2;have⟨a4,a3⟩:=kC.q2;go_wp2_with fail
   refine ai (H2.out _) λw4 K=>?_;have g:=af K aG.size aG;go_wp2_with fail
   refine ai (H3.out _) λw5 ac=>?_;have Z:=af ac g.size g;by_cases hs:0<=s
   .have HS:=h_ (V2 hs);exact Hv
   .have HS:=h_ (Vb hs);exact Hv
 .have t0:(D.tmod p==0)=false:=by rw[ht];simpa using h0
  obtain rfl:=F.out h0;exact Ki
end Go.Proofs.YtaamhakdhaolmaaGreatDoor
