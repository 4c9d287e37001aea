/- Part 21. -/
import Derived.Test.YtaamhakdhaolmaaGreatDoorSak
import Derived.Test.YtaamhakdhaolmaaGreatDoorSat
namespace Go.Proofs.YtaamhakdhaolmaaGreatDoor
open Go.RowKit Go.Proofs.Tryz
set_option maxHeartbeats 8000000
set_option maxRecDepth 100000
variable {P:Prop}
set_option linter.all false
def wx(h:P:=by have e:(⟨#[73]⟩:ak).size=1:=rfl;omega):=h
def I4(h:P:=by have e:(⟨#[42]⟩:ak).size=1:=rfl;omega):=h
def Kq(h:P:=by
 go_wp2;go_ret;exact⟨(congrArg (λx=>Ending.returned (Value.string x)) (HV.out.trans HT.out).symm),az⟩):=h
def AF(h:P:=by
 go_wp2;go_ret;exact⟨(congrArg (λx=>Ending.returned (Value.string x)) HV.out.symm),az⟩):=h
def Ga(h:P:=by
 have HV:Hid (V=fj n):=h_ (aa.out.trans s_);clear aa;by_cases n8:n=8
 .subst n8;exact AF
 by_cases n9:n=9
 .subst n9;exact AF
 have HT:Hid (fj n=⟨#[73,73,42]⟩):=by show _=_;unfold fj;rw[Vm o_,Vm o_,Vm o_,Vm o_,Vm n8,Vm n9]
 have m2:(n==2)=false:=u_;have m3:(n==3)=false:=u_;have m4:(n==4)=false:=u_;have m6:(n==6)=false:=u_;have m8:(n==8)=false:=by simpa using n8
 have m9:(n==9)=false:=by simpa using n9
 clear n8 n9;exact Kq):=h
def LV(h:P:=by
 exact Ga):=h
def KC(h:P:=by
 exact Ga):=h
def Hk(h:P:=by
 go_wp2_with fail
 refine aj (HN.out _) λw4 K=>?_;have g:=ag K az.size az;go_wp2;go_ret;exact⟨(congrArg (λx=>Ending.returned (Value.string x)) HV.out.symm),g⟩):=h
def v_(h:P:=by
 exact AF):=h
def fj(n:Int):ak:=if n=2 then ⟨#[73,73]⟩ else if n=3 then ⟨#[73,73,73]⟩ else if n=4 then ⟨#[73,86]⟩ else if n=6 then ⟨#[73,48,42]⟩ else if n=8 then ⟨#[73,86,42]⟩ else if n=9 then ⟨#[73,73,73,42]⟩ else ⟨#[73,73,42]⟩
def iF(A B p:Int):ak:=if dK A B p≠1 then ⟨#[73]⟩++aC (val (aP A B) p) else if 6<val (aP A B) p/\oD A B p=true then ⟨#[73]⟩++aC (val (aP A B) p - 6)++⟨#[42]⟩ else fj (val (aP A B) p)
theorem Ee:∀(f:Nat) (a p:Int),fb f a p<=f
 |0,_,_=>by simp [fb]
 |f+1,a,p=>by
  unfold fb;split
  .have:=Ee f (a / p) p;push_cast;omega
  .push_cast;omega
def rk{a p:Int}(h:-7000000000<=a/\a<=7000000000):0<=val a p/\val a p<=7000000000:=by
 unfold val;have h1:=nH a.natAbs a p;have h2:=Ee a.natAbs a p;omega
def DB(A B p:Int):dK A B p=0\/dK A B p=1\/dK A B p=2\/dK A B p=3:=by
 unfold dK;split
 .exact .inl rfl
 .split
  .exact .inr (.inl rfl)
  .split
   .exact .inr (.inr (.inl rfl))
   .exact .inr (.inr (.inr rfl))
def Tg{A B p:Int}(h:dK A B p=0):aP A B % p≠0:=by
 unfold dK at h;split at h
 .assumption
 .split at h
  .cases h
  .split at h<;>cases h
def Uv{a p:Int}(h:a % p≠0):val a p=0:=uw _ h
def QQ:aC 0=⟨#[48]⟩:=by decide+kernel
def ou(n:Int)(h:0<=n/\n<1000000000000000000)(w:World):Rv 93 #[n] w (.string (aC n)):=by
 obtain⟨u,rfl⟩:∃u:Nat,n=u:=⟨n.toNat,o_⟩
 rw[yi];exact uv u u (Vj _) o_ w
def O5(A B p:Int)(hA:bh A)(hB:a_ B)(cF:aP A B≠0)(h5:5<=p/\p<=997)(w:World):
 Rv 180 #[.agg #[A,B],p] w (.string (iF A B p)):=by
 have hd:=tB hA hB;have hv:=rk (p:=p) hd;obtain⟨p2,p3,p4,p5,p6⟩:=zw h5;have H1:=h_ (nT A B hA hB);have H2:=h_ (DF A B p hA hB h5);have H3:=h_ (λW=>mi (tq (aP A B) p cF o_ o_ W));have a6:iF A B p=if dK A B p≠1 then ⟨#[73]⟩++aC (val (aP A B) p) else if 6<val (aP A B) p/\oD A B p=true then ⟨#[73]⟩++aC (val (aP A B) p - 6)++⟨#[42]⟩ else fj (val (aP A B) p):=rfl
 have hk:=DB A B p;have F:oD A B p=(A % (p*p)==0&&!(A % (p*p*p)==0)&&(B % (p*p*p)==0)&&!(B % (p*p*p*p)==0)):=rfl;rw[<-lM,<-lM,<-lM,<-lM] at F;rw[F] at a6;clear F;generalize iF A B p=V at *;generalize ha:(A.tmod (p*p)==0)=a at *;generalize hb:(A.tmod (p*p*p)==0)=b at *;generalize hc:(B.tmod (p*p*p)==0)=c at *;generalize bz:(B.tmod (p*p*p*p)==0)=d at *;generalize val (aP A B) p=n at *;generalize dK A B p=k at *;have aa:=h_ a6;clear a6;obtain⟨kC,J⟩:=ay w #[A,B] 42;go_enter func180,ntmps180;go_upto_region 1 with fail
 generalize w.alloc _=W at *;have⟨a4,a3,a5⟩:=kC.p2;go_wp2_with fail
 refine aj (H1.out _) λw1 I=>?_;have H:=ag I J.size J;replace kC:=kC.next I
 clear a4 a3 a5 I;go_wp2_with fail
 refine aj (H3.out _) λw2 U=>?_;have ax:=ag U H.size H;replace kC:=kC.next U
 have⟨a4,a3,a5⟩:=kC.p2;clear U H;go_wp2_with fail
 refine aj (H2.out _) λw3 aF=>?_;have az:=ag aF ax.size ax;replace kC:=kC.next aF
 clear a4 a3 a5;have⟨a4,a3,a5⟩:=kC.p2;clear aF ax H1 H2 H3;by_cases ab:k=1
 .subst ab;simp only[eD];by_cases h6:6<n
  .cases a
   .exact LV
   .cases b
    .have G:(A.tmod (p*p*p) != 0)=true:=by rw[bne,hb];rfl
     cases c
     .exact LV
     .cases d
      .have Z:(B.tmod (p*p*p*p) != 0)=true:=by rw[bne,bz];rfl
       have z1:=dX (n - 6) o_;have HN:=h_ (ou (n - 6) o_);have f1:((⟨#[73]⟩:ak)++aC (n - 6)).size=1+(aC (n - 6)).size:=by rw[Vu];rfl
       have HX:=λw=>Vr (P:=prog) w ⟨#[73]⟩ (aC (n - 6)) wx;have HY:=λw=>Vr (P:=prog) w (⟨#[73]⟩++aC (n - 6)) ⟨#[42]⟩ I4;have HV:Hid (V=(⟨#[73]⟩:ak)++aC (n - 6)++⟨#[42]⟩):=h_ (aa.out.trans (by simp [h6]));clear aa;clear f1;exact Hk
      .have Z:(B.tmod (p*p*p*p) != 0)=false:=by rw[bne,bz];rfl
       exact KC
    .have G:(A.tmod (p*p*p) != 0)=false:=by rw[bne,hb];rfl
     exact KC
  .
    have HV:Hid (V=fj n):=h_ (aa.out.trans (by rw[Vm s_,Vm (λh=>h6 h.1)]));clear aa;by_cases n2:n=2
    .subst n2;exact v_
    by_cases n3:n=3
    .subst n3;exact v_
    by_cases n4:n=4
    .subst n4;exact v_
    by_cases n6:n=6
    .subst n6;exact v_
    have HT:Hid (fj n=⟨#[73,73,42]⟩):=by show _=_;unfold fj;rw[Vm n2,Vm n3,Vm n4,Vm n6,Vm o_,Vm o_]
    have m2:(n==2)=false:=by simpa using n2
    have m3:(n==3)=false:=by simpa using n3
    have m4:(n==4)=false:=by simpa using n4
    have m6:(n==6)=false:=by simpa using n6
    have m8:(n==8)=false:=u_;have m9:(n==9)=false:=u_;clear n2 n3 n4 n6;exact Kq
 .have hT:((eD k).toList==[97,100,100,105,116,105,118,101])=false:=by rcases hk with rfl|rfl|rfl|rfl<;>first|(exact absurd rfl ab)|(rw[Vw];decide+kernel)
  have z1:=dX n o_;have HN:=h_ (ou n o_);have HX:=λw=>Vr (P:=prog) w ⟨#[73]⟩ (aC n) wx;have HV:Hid (V=(⟨#[73]⟩:ak)++aC n):=h_ (aa.out.trans (Vo ab));clear aa;clear ha hb hc bz;clear hk ab;exact Hk
def oC(h:P:=by
 go_wp2;go_ret;exact⟨(congrArg (λx=>Ending.returned (Value.string x)) HV.out.symm),Z⟩):=h
def sn(h:P:=by
 go_wp2;go_ret;exact⟨(congrArg (λx=>Ending.returned (Value.string x)) HV.out.symm),a2⟩):=h
def H_(h:P:=by
 go_wp2;go_ret;exact⟨(congrArg (λx=>Ending.returned (Value.string x)) HV.out.symm),bb⟩):=h
def LE(h:P:=by
 go_enter func213,ntmps213;go_upto_region 1 with fail
 generalize w.alloc _=W at *;have⟨a4,a3,a5⟩:=kC.p2;go_wp2_with fail
 refine (HM.out _).mono ?_;rintro e w1 ⟨k0,rfl,I⟩;replace kC:=kC.next I
 have H:=ag I J.size J;have kM:=ah.new w1 #[A,B] 42;replace kC:=kC.alloc (.cells #[A,B] 42);have ax:=H.alloc H.size (.cells #[A,B] 42);clear a4 a3 a5 I J HM H;go_upto_region 2 with fail
 generalize w1.alloc _=W2 at *;generalize w1.heap.size=rM at *;have⟨a9,ba,bX⟩:=kM.p2;go_wp2_with fail
 refine aj (H1.out _) λw3 aF=>?_;have az:=ag aF ax.size ax;replace kC:=kC.next aF
 replace kM:=kM.next aF
 clear a9 ba bX aF ax H1;go_wp2_with fail
 refine aj (H3.out _) λw4 K=>?_;have g:=ag K az.size az;replace kC:=kC.next K
 replace kM:=kM.next K
 clear K az H3;have⟨a4,a3,a5⟩:=kC.p2;go_wp2_with fail
 refine aj (H2.out _) λw5 ae=>?_;have Z:=ag ae g.size g;replace kM:=kM.next ae
 have aZ:=h_ (HW.out.below Z);clear a4 a3 a5 kC ae g H2 HW;have⟨a9,ba,bX⟩:=kM.p2;by_cases n2:n=2
 .subst n2;exact oC
 by_cases n3:n=3
 .subst n3;exact oC
 by_cases n4:n=4
 .subst n4;exact oC
 by_cases n6:n=6
 .subst n6;exact oC
 by_cases n8:n=8
 .subst n8;exact oC
 by_cases n9:n=9
 .subst n9;exact oC
 have HT:Hid (fj n=⟨#[73,73,42]⟩):=by show _=_;unfold fj;rw[Vm n2,Vm n3,Vm n4,Vm n6,Vm n8,Vm n9]
 have m2:(n==2)=false:=by simpa using n2
 have m3:(n==3)=false:=by simpa using n3
 have m4:(n==4)=false:=by simpa using n4
 have m6:(n==6)=false:=by simpa using n6
 have m8:(n==8)=false:=by simpa using n8
 have m9:(n==9)=false:=by simpa using n9
 clear n2 n3 n4 n6 n8 n9;go_wp2;go_ret;exact⟨(congrArg (λx=>Ending.returned (Value.string x)) (HV.out.trans HT.out).symm),Z⟩):=h
def Ll(h:P:=by
 have z1:=dX n o_;have HN:=h_ (λW ht=>pL n o_ o_ W ht);have HX:=λw=>Vr (P:=prog) w ⟨#[73]⟩ (aC n) wx;have HV:Hid (V=(⟨#[73]⟩:ak)++aC n):=h_ (aa.out.trans (Vo d_));have hi:(⟨(Lib.itoa n).toArray⟩:ak)=aC n:=rfl;rw[hi] at HN;clear aa ac aM aG hg hi;go_enter func213,ntmps213;go_upto_region 1 with fail
 generalize w.alloc _=W at *;have⟨a4,a3,a5⟩:=kC.p2;go_wp2_with fail
 refine (HM.out _).mono ?_;rintro e w1 ⟨k0,rfl,I⟩;replace kC:=kC.next I
 have H:=ag I J.size J;have kM:=ah.new w1 #[A,B] 42;replace kC:=kC.alloc (.cells #[A,B] 42);have ax:=H.alloc H.size (.cells #[A,B] 42);clear a4 a3 a5 I J HM H;go_upto_region 2 with fail
 generalize w1.alloc _=W2 at *;generalize w1.heap.size=rM at *;have⟨a9,ba,bX⟩:=kM.p2;go_wp2_with fail
 refine aj (H1.out _) λw3 aF=>?_;have az:=ag aF ax.size ax;replace kC:=kC.next aF
 replace kM:=kM.next aF
 clear a9 ba bX aF ax H1;go_wp2_with fail
 refine aj (H3.out _) λw4 K=>?_;have g:=ag K az.size az;replace kC:=kC.next K
 replace kM:=kM.next K
 clear K az H3;have⟨a4,a3,a5⟩:=kC.p2;go_wp2_with fail
 refine aj (H2.out _) λw5 ae=>?_;have Z:=ag ae g.size g;replace kM:=kM.next ae
 have aZ:=h_ (HW.out.below Z);clear a4 a3 a5 kC ae g H2 HW;have⟨a9,ba,bX⟩:=kM.p2;go_wp2_with fail
 refine aj (HN.out _ aZ.out) λw8 ca=>?_;have bb:=ag ca Z.size Z;exact H_):=h
def Lx(h:P:=by
 have HT:Hid (fj n=⟨#[73,73,42]⟩):=by show _=_;unfold fj;rw[Vm n2,Vm n3,Vm n4,Vm n6,Vm n8,Vm n9]
 have m2:(n==2)=false:=by simpa using n2
 have m3:(n==3)=false:=by simpa using n3
 have m4:(n==4)=false:=by simpa using n4
 have m6:(n==6)=false:=by simpa using n6
 have m8:(n==8)=false:=by simpa using n8
 have m9:(n==9)=false:=by simpa using n9
 clear n2 n3 n4 n6 n8 n9;go_wp2;go_ret;exact⟨(congrArg (λx=>Ending.returned (Value.string x)) (HV.out.trans HT.out).symm),a2⟩):=h
def Hr(h:P:=by
 subst n2;exact sn):=h
def Hq(h:P:=by
 subst n3;exact sn):=h
def Ip(h:P:=by
 subst n4;exact sn):=h
def G6(h:P:=by
 subst n6;exact sn):=h
def pR(h:P:=by
 go_wp2;go_ret;exact⟨(congrArg (λx=>Ending.returned (Value.string x)) HV.out.symm),aX⟩):=h
def JW(h:P:=by
 exact sn):=h
def Po(A0 B p:Int)(hC:be A0 B=true)(h5:5<=p/\p<=997)(G:cH p=true)(w:World)(a1:TabI w):
 Rv 213 #[.agg #[A0,B],p] w (.string (iF (dQ A0 B p) B p)):=by
 have co:=λW=>xX A0 B p hC h5 G W;unfold n_ at co;have HM:=h_ co;clear co;have H2:=h_ (Dz A0 B p hC h5 G);obtain⟨hA,hB,cF⟩:=qd (p:=p) hC;clear hC G;generalize dQ A0 B p=A at *;have hd:=tB hA hB;have hv:=rk (p:=p) hd;have H1:=h_ (oo A B hA hB);have H3:=h_ (λW=>mi (tx (aP A B) p cF o_ o_ W));have aM:=h_ (λ(h:A≠0) W=>mi (tx A p h o_ o_ W));have aG:=h_ (λ(h:B≠0) W=>mi (tx B p h o_ o_ W));have cQ:=rk (a:=A) (p:=p) o_;have bq:=rk (a:=B) (p:=p) o_;have a6:iF A B p=if dK A B p≠1 then ⟨#[73]⟩++aC (val (aP A B) p) else if 6<val (aP A B) p/\oD A B p=true then ⟨#[73]⟩++aC (val (aP A B) p - 6)++⟨#[42]⟩ else fj (val (aP A B) p):=rfl
 have hk:=DB A B p;have hg:=λh=>Uv (Tg (A:=A) (B:=B) (p:=p) h);have F:=TX (A:=A) (B:=B) (p:=p) o_;generalize iF A B p=V at *;generalize oD A B p=sb at *;generalize val (aP A B) p=n at *;generalize dK A B p=k at *;have aa:=h_ a6;have ac:=h_ F;clear a6 F;obtain⟨kC,J⟩:=ay w #[A0,B] 42;have HW:=h_ a1;clear a1;rcases hk with rfl|rfl|rfl|rfl
 .have hn:=hg rfl;have HV:Hid (V=⟨#[73,48]⟩):=h_ (by rw[aa.out,Vo d_,hn,QQ];decide+kernel);clear hg aa ac aM aG hn;have hT:((eD 0).toList==[103,111,111,100])=true:=by rw[Vw];decide+kernel
  go_enter func213,ntmps213;go_upto_region 1 with fail
  generalize w.alloc _=W at *;have⟨a4,a3,a5⟩:=kC.p2;go_wp2_with fail
  refine (HM.out _).mono ?_;rintro e w1 ⟨k0,rfl,I⟩;replace kC:=kC.next I
  have H:=ag I J.size J;have kM:=ah.new w1 #[A,B] 42;replace kC:=kC.alloc (.cells #[A,B] 42);have ax:=H.alloc H.size (.cells #[A,B] 42);clear a4 a3 a5 I J HM H;go_upto_region 2 with fail
  generalize w1.alloc _=W2 at *;generalize w1.heap.size=rM at *;have⟨a9,ba,bX⟩:=kM.p2;go_wp2_with fail
  refine aj (H1.out _) λw3 aF=>?_;have az:=ag aF ax.size ax;replace kC:=kC.next aF
  replace kM:=kM.next aF
  clear a9 ba bX aF ax H1;go_wp2_with fail
  refine aj (H3.out _) λw4 K=>?_;have g:=ag K az.size az;replace kC:=kC.next K
  replace kM:=kM.next K
  clear K az H3;have⟨a4,a3,a5⟩:=kC.p2;go_wp2_with fail
  refine aj (H2.out _) λw5 ae=>?_;have Z:=ag ae g.size g;replace kM:=kM.next ae
  have aZ:=h_ (HW.out.below Z);clear a4 a3 a5 kC ae g H2 HW;have⟨a9,ba,bX⟩:=kM.p2;exact oC
 .clear hg;have cu:((eD 1).toList==[103,111,111,100])=false:=by rw[Vw];decide+kernel
  have bp:((eD 1).toList==[115,112,108,105,116])=false:=by rw[Vw];decide+kernel
  have bi:((eD 1).toList==[110,111,110,115,112,108,105,116])=false:=by rw[Vw];decide+kernel
  have U:Hid (sb=false\/¬6<n->V=fj n):=h_ λh=>by
   rw[aa.out,Vm s_,Vm];rintro⟨h1,h2⟩;rcases h with h|h
   .rw[h] at h2;cases h2
   .exact h h1
  by_cases aL:A=0
  .have ha:(A != 0)=false:=by rw[aL];rfl
   have HV:Hid (V=fj n):=h_ (U.out (.inl (by cases hs:sb;rfl;exact absurd aL (ac.out.1 hs).1)));clear aa U ac aM aG aL;exact LE
  .have ha:(A != 0)=true:=by simpa using aL
   by_cases ad:B=0
   .have hb:(B != 0)=false:=by rw[ad];rfl
    have HV:Hid (V=fj n):=h_ (U.out (.inl (by cases hs:sb;rfl;exact absurd ad (ac.out.1 hs).2.1)));clear aa U ac aM aG aL ad;exact LE
   .have hb:(B != 0)=true:=by simpa using ad
    replace aM:=h_ (aM.out aL);replace aG:=h_ (aG.out ad);by_cases h2:val A p=2
    .have c2:(val A p==2)=true:=by rw[h2];rfl
     by_cases h3:val B p=3
     .have c3:(val B p==3)=true:=by rw[h3];rfl
      have a8:sb=true:=ac.out.2 ⟨aL,ad,h2,h3⟩;generalize val A p=va at *;generalize val B p=vb at *;clear h2 h3 aL ad ac;by_cases h6:6<n
      .have z1:=dX (n - 6) o_;have HN:=h_ (λW ht=>pL (n - 6) o_ o_ W ht);have f1:((⟨#[73]⟩:ak)++aC (n - 6)).size=1+(aC (n - 6)).size:=by rw[Vu];rfl
       have HX:=λw=>Vr (P:=prog) w ⟨#[73]⟩ (aC (n - 6)) wx;have HY:=λw=>Vr (P:=prog) w (⟨#[73]⟩++aC (n - 6)) ⟨#[42]⟩ I4;have HV:Hid (V=(⟨#[73]⟩:ak)++aC (n - 6)++⟨#[42]⟩):=h_ (aa.out.trans (by rw[Vm s_,Vo ⟨h6,a8⟩]));have hi:(⟨(Lib.itoa (n - 6)).toArray⟩:ak)=aC (n - 6):=rfl;rw[hi] at HN;clear aa U a8 hi;go_enter func213,ntmps213;go_upto_region 1 with fail
       generalize w.alloc _=W at *;have⟨a4,a3,a5⟩:=kC.p2;go_wp2_with fail
       refine (HM.out _).mono ?_;rintro e w1 ⟨k0,rfl,I⟩;replace kC:=kC.next I
       have H:=ag I J.size J;have kM:=ah.new w1 #[A,B] 42;replace kC:=kC.alloc (.cells #[A,B] 42);have ax:=H.alloc H.size (.cells #[A,B] 42);clear a4 a3 a5 I J HM H;go_upto_region 2 with fail
       generalize w1.alloc _=W2 at *;generalize w1.heap.size=rM at *;have⟨a9,ba,bX⟩:=kM.p2;go_wp2_with fail
       refine aj (H1.out _) λw3 aF=>?_;have az:=ag aF ax.size ax;replace kC:=kC.next aF
       replace kM:=kM.next aF
       clear a9 ba bX aF ax H1;go_wp2_with fail
       refine aj (H3.out _) λw4 K=>?_;have g:=ag K az.size az;replace kC:=kC.next K
       replace kM:=kM.next K
       clear K az H3;have⟨a4,a3,a5⟩:=kC.p2;go_wp2_with fail
       refine aj (H2.out _) λw5 ae=>?_;have Z:=ag ae g.size g;replace kM:=kM.next ae
       have aZ:=h_ (HW.out.below Z);clear a4 a3 a5 kC ae g H2 HW;have⟨a9,ba,bX⟩:=kM.p2;go_wp2_with fail
       refine aj (aM.out _) λw6 ab=>?_;have aX:=ag ab Z.size Z;replace kM:=kM.next ab
       clear a9 ba bX;have⟨a9,ba,bX⟩:=kM.p2;go_wp2_with fail
       refine aj (aG.out _) λw7 a7=>?_;have a2:=ag a7 aX.size aX;have bo:=h_ ((aZ.out.below ab).below a7);clear ab a7 aX;go_wp2_with fail
       refine aj (HN.out _ bo.out) λw8 ca=>?_;have bb:=ag ca a2.size a2;exact H_
      .have HV:Hid (V=fj n):=h_ (U.out (.inr h6));clear aa U a8;go_enter func213,ntmps213;go_upto_region 1 with fail
       generalize w.alloc _=W at *;have⟨a4,a3,a5⟩:=kC.p2;go_wp2_with fail
       refine (HM.out _).mono ?_;rintro e w1 ⟨k0,rfl,I⟩;replace kC:=kC.next I
       have H:=ag I J.size J;have kM:=ah.new w1 #[A,B] 42;replace kC:=kC.alloc (.cells #[A,B] 42);have ax:=H.alloc H.size (.cells #[A,B] 42);clear a4 a3 a5 I J HM H;go_upto_region 2 with fail
       generalize w1.alloc _=W2 at *;generalize w1.heap.size=rM at *;have⟨a9,ba,bX⟩:=kM.p2;go_wp2_with fail
       refine aj (H1.out _) λw3 aF=>?_;have az:=ag aF ax.size ax;replace kC:=kC.next aF
       replace kM:=kM.next aF
       clear a9 ba bX aF ax H1;go_wp2_with fail
       refine aj (H3.out _) λw4 K=>?_;have g:=ag K az.size az;replace kC:=kC.next K
       replace kM:=kM.next K
       clear K az H3;have⟨a4,a3,a5⟩:=kC.p2;go_wp2_with fail
       refine aj (H2.out _) λw5 ae=>?_;have Z:=ag ae g.size g;replace kM:=kM.next ae
       have aZ:=h_ (HW.out.below Z);clear a4 a3 a5 kC ae g H2 HW;have⟨a9,ba,bX⟩:=kM.p2;go_wp2_with fail
       refine aj (aM.out _) λw6 ab=>?_;have aX:=ag ab Z.size Z;replace kM:=kM.next ab
       clear a9 ba bX;have⟨a9,ba,bX⟩:=kM.p2;go_wp2_with fail
       refine aj (aG.out _) λw7 a7=>?_;have a2:=ag a7 aX.size aX;have bo:=h_ ((aZ.out.below ab).below a7);clear ab a7 aX;by_cases n2:n=2
       .exact Hr
       by_cases n3:n=3
       .exact Hq
       by_cases n4:n=4
       .exact Ip
       by_cases n6:n=6
       .exact G6
       have n8:n≠8:=o_;have n9:n≠9:=o_;exact Lx
     .have c3:(val B p==3)=false:=by simpa using h3
      have HV:Hid (V=fj n):=h_ (U.out (.inl (by cases hs:sb;rfl;exact absurd (ac.out.1 hs).2.2.2 h3)));generalize val A p=va at *;generalize val B p=vb at *;clear aa U ac h2 h3 aL ad;go_enter func213,ntmps213;go_upto_region 1 with fail
      generalize w.alloc _=W at *;have⟨a4,a3,a5⟩:=kC.p2;go_wp2_with fail
      refine (HM.out _).mono ?_;rintro e w1 ⟨k0,rfl,I⟩;replace kC:=kC.next I
      have H:=ag I J.size J;have kM:=ah.new w1 #[A,B] 42;replace kC:=kC.alloc (.cells #[A,B] 42);have ax:=H.alloc H.size (.cells #[A,B] 42);clear a4 a3 a5 I J HM H;go_upto_region 2 with fail
      generalize w1.alloc _=W2 at *;generalize w1.heap.size=rM at *;have⟨a9,ba,bX⟩:=kM.p2;go_wp2_with fail
      refine aj (H1.out _) λw3 aF=>?_;have az:=ag aF ax.size ax;replace kC:=kC.next aF
      replace kM:=kM.next aF
      clear a9 ba bX aF ax H1;go_wp2_with fail
      refine aj (H3.out _) λw4 K=>?_;have g:=ag K az.size az;replace kC:=kC.next K
      replace kM:=kM.next K
      clear K az H3;have⟨a4,a3,a5⟩:=kC.p2;go_wp2_with fail
      refine aj (H2.out _) λw5 ae=>?_;have Z:=ag ae g.size g;replace kM:=kM.next ae
      have aZ:=h_ (HW.out.below Z);clear a4 a3 a5 kC ae g H2 HW;have⟨a9,ba,bX⟩:=kM.p2;go_wp2_with fail
      refine aj (aM.out _) λw6 ab=>?_;have aX:=ag ab Z.size Z;replace kM:=kM.next ab
      clear a9 ba bX;have⟨a9,ba,bX⟩:=kM.p2;go_wp2_with fail
      refine aj (aG.out _) λw7 a7=>?_;have a2:=ag a7 aX.size aX;have bo:=h_ ((aZ.out.below ab).below a7);clear ab a7 aX;by_cases n2:n=2
      .exact Hr
      by_cases n3:n=3
      .exact Hq
      by_cases n4:n=4
      .exact Ip
      by_cases n6:n=6
      .exact G6
      by_cases n8:n=8
      .subst n8;exact JW
      by_cases n9:n=9
      .subst n9;exact JW
      exact Lx
    .have c2:(val A p==2)=false:=by simpa using h2
     have HV:Hid (V=fj n):=h_ (U.out (.inl (by cases hs:sb;rfl;exact absurd (ac.out.1 hs).2.2.1 h2)));generalize val A p=va at *;clear aa U ac h2 aL ad aG;go_enter func213,ntmps213;go_upto_region 1 with fail
     generalize w.alloc _=W at *;have⟨a4,a3,a5⟩:=kC.p2;go_wp2_with fail
     refine (HM.out _).mono ?_;rintro e w1 ⟨k0,rfl,I⟩;replace kC:=kC.next I
     have H:=ag I J.size J;have kM:=ah.new w1 #[A,B] 42;replace kC:=kC.alloc (.cells #[A,B] 42);have ax:=H.alloc H.size (.cells #[A,B] 42);clear a4 a3 a5 I J HM H;go_upto_region 2 with fail
     generalize w1.alloc _=W2 at *;generalize w1.heap.size=rM at *;have⟨a9,ba,bX⟩:=kM.p2;go_wp2_with fail
     refine aj (H1.out _) λw3 aF=>?_;have az:=ag aF ax.size ax;replace kC:=kC.next aF
     replace kM:=kM.next aF
     clear a9 ba bX aF ax H1;go_wp2_with fail
     refine aj (H3.out _) λw4 K=>?_;have g:=ag K az.size az;replace kC:=kC.next K
     replace kM:=kM.next K
     clear K az H3;have⟨a4,a3,a5⟩:=kC.p2;go_wp2_with fail
     refine aj (H2.out _) λw5 ae=>?_;have Z:=ag ae g.size g;replace kM:=kM.next ae
     have aZ:=h_ (HW.out.below Z);clear a4 a3 a5 kC ae g H2 HW;have⟨a9,ba,bX⟩:=kM.p2;go_wp2_with fail
     refine aj (aM.out _) λw6 ab=>?_;have aX:=ag ab Z.size Z;by_cases n2:n=2
     .subst n2;exact pR
     by_cases n3:n=3
     .subst n3;exact pR
     by_cases n4:n=4
     .subst n4;exact pR
     by_cases n6:n=6
     .subst n6;exact pR
     by_cases n8:n=8
     .subst n8;exact pR
     by_cases n9:n=9
     .subst n9;exact pR
     have HT:Hid (fj n=⟨#[73,73,42]⟩):=by show _=_;unfold fj;rw[Vm n2,Vm n3,Vm n4,Vm n6,Vm n8,Vm n9]
     have m2:(n==2)=false:=by simpa using n2
     have m3:(n==3)=false:=by simpa using n3
     have m4:(n==4)=false:=by simpa using n4
     have m6:(n==6)=false:=by simpa using n6
     have m8:(n==8)=false:=by simpa using n8
     have m9:(n==9)=false:=by simpa using n9
     clear n2 n3 n4 n6 n8 n9;go_wp2;go_ret;exact⟨(congrArg (λx=>Ending.returned (Value.string x)) (HV.out.trans HT.out).symm),aX⟩
 .have cu:((eD 2).toList==[103,111,111,100])=false:=by rw[Vw];decide+kernel
  have bp:((eD 2).toList==[115,112,108,105,116])=true:=by rw[Vw];decide+kernel
  have bi:((eD 2).toList==[110,111,110,115,112,108,105,116])=false:=by rw[Vw];decide+kernel
  exact Ll
 .have cu:((eD 3).toList==[103,111,111,100])=false:=by rw[Vw];decide+kernel
  have bp:((eD 3).toList==[115,112,108,105,116])=false:=by rw[Vw];decide+kernel
  have bi:((eD 3).toList==[110,111,110,115,112,108,105,116])=true:=by rw[Vw];decide+kernel
  exact Ll
def Ks(h:P:=by
 go_upto_region 1 with fail
 generalize w.alloc _=W at *;have⟨a4,a3,a5⟩:=kC.p2;go_wp2_with fail
 refine aj (HR.out _) λw1 I=>?_;have H:=ag I J.size J;replace kC:=kC.next I
 clear a4 a3 a5 I J;have⟨a4,a3,a5⟩:=kC.p2;go_wp2_with fail
 refine (HM.out _).mono ?_;rintro e w2 ⟨k0,rfl,U⟩;have ax:=ag U H.size H;have kM:=ah.new w2 #[A2,B] 42;have az:=ax.alloc ax.size (.cells #[A2,B] 42);clear a4 a3 a5 U kC H HM HR ax;go_upto_region 4 with fail
 generalize w2.alloc _=W3 at *;generalize w2.heap.size=rM at *;have⟨a9,ba,bX⟩:=kM.p2;go_wp2_with fail
 refine aj (HV.out _) λw4 K=>?_;have g:=ag K az.size az;go_wp2;go_ret2;exact⟨rfl,g⟩):=h
def Kz(h:P:=by
 go_wp2_with (first|(go_at_call 62;refine aj (HC.out _) λw1 I=>?_;obtain⟨aZ,a6⟩:=bu I;have ac:=I.size;(try simp only[VG] at ac);(try (have F:w.heap.size<w1.heap.size:=o_));(try (have b7:=Vt ac));(try (have b9:=Vt (Vq b7))))|(go_at_call 212;refine aj (HR.out _) λw2 U=>?_;obtain⟨bb,ab⟩:=bu U;have ba:=U.size;(try simp only[VG] at ba);(try (have aG:w.heap.size<w2.heap.size:=o_));(try (have az:=Vt ba));(try (have ae:=Vt (Vq az)));(try (have aa:w1.heap.size<w2.heap.size:=o_))))
 exact sj):=h
def KL(h:P:=by
 go_wp2_with ((go_at_call 178;refine aj (HR.out _) λw1 I=>?_;obtain⟨aZ,a6⟩:=bu I;have ac:=I.size;(try simp only[VG] at ac);(try (have F:w.heap.size<w1.heap.size:=o_));(try (have b7:=Vt ac));(try (have b9:=Vt (Vq b7)))))
 exact sj):=h
def Ju(h:P:=by
 clear HK;go_enter func231,ntmps231;go_wp2_with ((go_at_call 227;refine aA (oY _ _) ?_))
 exact sK):=h
def G4(h:P:=by
 have g:=ag K ax.size ax;go_wp2;go_ret2;exact⟨rfl,g⟩):=h
noncomputable def fA(p:Int):Bool:=aw p 5 997&&cH p
def uE{p}(h:fA p=true):(5<=p/\p<=997)/\cH p=true:=by
 unfold fA at h;simp at h;exact⟨bO h.1,h.2⟩
noncomputable def lk(p:Int)(S:ak):Value:=.tuple #[.string (if fA p then S else ⟨#[]⟩),.bool (fA p)]
def Cn(p:Int)(w):Rv 212 #[p] w (.bool (fA p)):=by
 unfold fA;cases h1:aw p 5 997
 .go_enter func212,ntmps212;exact ID
 .have G:=bO h1;go_enter func212,ntmps212;go_wp2_with (first|(go_at_call 63;refine aA (dh _ _ _ _) ?_)|(go_at_call 261;refine (xK _ o_ _).mono ?_;rintro e w' ⟨rfl,rfl⟩))
  exact sK
def P1(p:Int)(w):Rv 231 #[p] w (.bool (fA p)):=by
 have key:fA p=(aw p 2 997&&cH p&&decide (5<=p)):=by
  unfold fA aw;cases cH p
  .simp
  .rw[Xu];simp;omega
 have HK:=h_ key;generalize fA p=r at *;clear key;cases h1:(aw p 2 997&&cH p)
 .obtain rfl:r=false:=by rw[HK.out,h1];rfl
  exact Ju
 .by_cases h5:5<=p
  .obtain rfl:r=true:=by rw[HK.out,h1];simp [h5]
   exact Ju
  .obtain rfl:r=false:=by rw[HK.out,h1];simp [h5]
   have hd:=h_ (We h5);go_enter func231,ntmps231;go_wp2_with ((go_at_call 227;refine aA (oY _ _) ?_))
   go_ret;exact⟨congrArg (λb=>Ending.returned (Value.bool b)) hd.out,Vn _ _⟩
def CF(A B p:Int)(hC:be A B=true)(w):Rv 178 #[.agg #[A,B],p] w (.bool (fA p)):=by
 have h0:=λW=>f_ A B W;rw[hC] at h0;have HC:=h_ h0;have HP:=h_ (P1 p);generalize fA p=r at *;go_enter func178,ntmps178;go_wp2_with (first|(go_at_call 71;refine aj (HC.out _) λw1 I=>?_;have ac:=I.size;(try simp only[VG] at ac))|(go_at_call 231;refine aj (HP.out _) λw2 U=>?_))
 exact iC
def MK(A B p:Int)(hC:be A B=true)(w:World):
 Rv 127 #[.agg #[A,B],p] w (lk p (eD (dK (dQ A B p) B p))):=by
 have h0:=λW=>CF A B p hC W;unfold lk;cases hr:fA p
 .rw[hr] at h0;have HR:=h_ h0;go_enter func127,ntmps127;exact KL
 .rw[hr] at h0;have HR:=h_ h0;obtain⟨G,Z⟩:=uE hr;have co:=λW=>BT A B p hC G Z W;unfold n_ at co;have HM:=h_ co;obtain⟨hA,hB,hd⟩:=qd (p:=p) hC;generalize dQ A B p=A2 at *;have HV:=h_ (DF A2 B p hA hB G);generalize eD (dK A2 B p)=V at *;obtain⟨kC,J⟩:=ay w #[A,B] 42;go_enter func127,ntmps127;exact Ks
def MA(A B p:Int)(hC:be A B=true)(w:World):
 Rv 126 #[.agg #[A,B],p] w (lk p (iF (dQ A B p) B p)):=by
 have h0:=λW=>CF A B p hC W;unfold lk;cases hr:fA p
 .rw[hr] at h0;have HR:=h_ h0;go_enter func126,ntmps126;exact KL
 .rw[hr] at h0;have HR:=h_ h0;obtain⟨G,Z⟩:=uE hr;have co:=λW=>BT A B p hC G Z W;unfold n_ at co;have HM:=h_ co;obtain⟨hA,hB,hd⟩:=qd (p:=p) hC;generalize dQ A B p=A2 at *;have HV:=h_ (O5 A2 B p hA hB hd G);generalize iF A2 B p=V at *;obtain⟨kC,J⟩:=ay w #[A,B] 42;go_enter func126,ntmps126;exact Ks
def MG(A B p:Int)(hC:be A B=true)(w:World):
 Rv 157 #[.agg #[A,B],p] w (lk p (eD (dK (dQ A B p) B p))):=by
 have ad:=λW=>jV A B W;rw[hC] at ad;have HC:=h_ ad;have h0:=λW=>Cn p W;unfold lk;cases hr:fA p
 .rw[hr] at h0;have HR:=h_ h0;go_enter func157,ntmps157;exact Kz
 .rw[hr] at h0;have HR:=h_ h0;obtain⟨G,Z⟩:=uE hr;have HV:=h_ (Dz A B p hC G Z);generalize eD (dK (dQ A B p) B p)=V at *;obtain⟨kC,J⟩:=ay w #[A,B] 42
  skip
  skip
  go_enter func157,ntmps157;go_upto_region 1 with fail
  generalize w.alloc _=W at *;have⟨a4,a3,a5⟩:=kC.p2;go_wp2_with fail
  refine aj (HC.out _) λw1 I=>?_;have H:=ag I J.size J;replace kC:=kC.next I
  go_wp2_with fail
  refine aj (HR.out _) λw2 U=>?_;have ax:=ag U H.size H;replace kC:=kC.next U
  have⟨a4,a3⟩:=kC.q2;go_wp2_with fail
  exact aj (HV.out _) λw4 K=>G4
def MC(A B p:Int)(hC:be A B=true)(w:World)(a1:TabI w):
 Rv 156 #[.agg #[A,B],p] w (lk p (iF (dQ A B p) B p)):=by
 have ad:=λW=>jV A B W;rw[hC] at ad;have HC:=h_ ad;have h0:=λW=>Cn p W;unfold lk;cases hr:fA p
 .rw[hr] at h0;have HR:=h_ h0;go_enter func156,ntmps156;exact Kz
 .rw[hr] at h0;have HR:=h_ h0;obtain⟨G,Z⟩:=uE hr;have HV:=h_ (λW a2=>Po A B p hC G Z W a2);generalize iF (dQ A B p) B p=V at *;obtain⟨kC,J⟩:=ay w #[A,B] 42;have HW:=h_ a1;go_enter func156,ntmps156;go_upto_region 1 with fail
  generalize w.alloc _=W at *;have⟨a4,a3,a5⟩:=kC.p2;go_wp2_with fail
  refine aj (HC.out _) λw1 I=>?_;have H:=ag I J.size J;replace kC:=kC.next I
  go_wp2_with fail
  refine aj (HR.out _) λw2 U=>?_;have ax:=ag U H.size H;replace kC:=kC.next U
  have⟨a4,a3⟩:=kC.q2;go_wp2_with fail
  exact aj (HV.out _ (HW.out.below ax)) λw4 K=>G4
end Go.Proofs.YtaamhakdhaolmaaGreatDoor
