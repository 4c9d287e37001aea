/- Part 17. -/
import Derived.Test.YtaamhakdhaolmaaGreatDoorAaj
import Derived.Test.YtaamhakdhaolmaaGreatDoorAaq
namespace Go.Proofs.YtaamhakdhaolmaaGreatDoor
open Go.RowKit
set_option maxHeartbeats 8000000
set_option maxRecDepth 100000
variable {P:Prop}
set_option linter.all false
def vR(h:P:=by have e:(⟨#[73]⟩:aj).size=1:=rfl;omega):=h
def In(h:P:=by have e:(⟨#[42]⟩:aj).size=1:=rfl;omega):=h
def JG(h:P:=by
 go_wp2;go_ret;exact⟨(congrArg (λx=>Ending.returned (Value.string x)) (HV.out.trans HT.out).symm),aG⟩):=h
def Ac(h:P:=by
 go_wp2;go_ret;exact⟨(congrArg (λx=>Ending.returned (Value.string x)) HV.out.symm),aG⟩):=h
def Ft(h:P:=by
 have HV:Hid (V=fa n):=h_ (ad.out.trans s_);clear ad;by_cases n8:n=8
 .subst n8;exact Ac
 by_cases n9:n=9
 .subst n9;exact Ac
 have HT:Hid (fa n=⟨#[73,73,42]⟩):=by show _=_;unfold fa;rw[Uj o_,Uj o_,Uj o_,Uj o_,Uj n8,Uj n9]
 have m2:(n==2)=false:=u_;have m3:(n==3)=false:=u_;have m4:(n==4)=false:=u_;have m6:(n==6)=false:=u_;have m8:(n==8)=false:=by simpa using n8
 have m9:(n==9)=false:=by simpa using n9
 clear n8 n9;exact JG):=h
def K6(h:P:=by
 exact Ft):=h
def JR(h:P:=by
 exact Ft):=h
def GD(h:P:=by
 go_wp2_with fail
 refine ai (HN.out _) λw4 K=>?_;have g:=af K aG.size aG;go_wp2;go_ret;exact⟨(congrArg (λx=>Ending.returned (Value.string x)) HV.out.symm),g⟩):=h
def vA(h:P:=by
 exact Ac):=h
def fa(n:Int):aj:=if n=2 then ⟨#[73,73]⟩ else if n=3 then ⟨#[73,73,73]⟩ else if n=4 then ⟨#[73,86]⟩ else if n=6 then ⟨#[73,48,42]⟩ else if n=8 then ⟨#[73,86,42]⟩ else if n=9 then ⟨#[73,73,73,42]⟩ else ⟨#[73,73,42]⟩
def im(A B p:Int):aj:=if dB A B p≠1 then ⟨#[73]⟩++aC (val (aP A B) p) else if 6<val (aP A B) p/\oc A B p=true then ⟨#[73]⟩++aC (val (aP A B) p - 6)++⟨#[42]⟩ else fa (val (aP A B) p)
theorem Dz:∀(f:Nat) (a p:Int),eN f a p<=f
 |0,_,_=>by simp [eN]
 |f+1,a,p=>by
  unfold eN;split
  .have:=Dz f (a / p) p;push_cast;omega
  .push_cast;omega
def qQ{a p:Int}(h:-7000000000<=a/\a<=7000000000):0<=val a p/\val a p<=7000000000:=by
 unfold val;have h1:=nr a.natAbs a p;have h2:=Dz a.natAbs a p;omega
def CZ(A B p:Int):dB A B p=0\/dB A B p=1\/dB A B p=2\/dB A B p=3:=by
 unfold dB;split
 .exact .inl rfl
 .split
  .exact .inr (.inl rfl)
  .split
   .exact .inr (.inr (.inl rfl))
   .exact .inr (.inr (.inr rfl))
def Si{A B p:Int}(h:dB A B p=0):aP A B % p≠0:=by
 unfold dB at h;split at h
 .assumption
 .split at h
  .cases h
  .split at h<;>cases h
def Tu{a p:Int}(h:a % p≠0):val a p=0:=tY _ h
def P6:aC 0=⟨#[48]⟩:=by decide+kernel
def nW(n:Int)(h:0<=n/\n<1000000000000000000)(w:World):Rv 93 #[n] w (.string (aC n)):=by
 obtain⟨u,rfl⟩:∃u:Nat,n=u:=⟨n.toNat,by omega⟩
 rw[xJ];exact tX u u (Ug _) o_ w
def Oh(A B p:Int)(hA:bj A)(hB:a_ B)(bZ:aP A B≠0)(h5:5<=p/\p<=997)(w:World):
 Rv 180 #[.agg #[A,B],p] w (.string (im A B p)):=by
 have hd:=sV hA hB;have hv:=qQ (p:=p) hd;obtain⟨p2,p3,p4,Z,p6⟩:=yS h5;have H1:=h_ (nH A B hA hB);have H2:=h_ (C3 A B p hA hB h5);have H3:=h_ (λW=>lW (sI (aP A B) p bZ o_ o_ W));have a6:im A B p=if dB A B p≠1 then ⟨#[73]⟩++aC (val (aP A B) p) else if 6<val (aP A B) p/\oc A B p=true then ⟨#[73]⟩++aC (val (aP A B) p - 6)++⟨#[42]⟩ else fa (val (aP A B) p):=rfl
 have hk:=CZ A B p;have F:oc A B p=(A % (p*p)==0&&!(A % (p*p*p)==0)&&(B % (p*p*p)==0)&&!(B % (p*p*p*p)==0)):=rfl;rw[<-lr,<-lr,<-lr,<-lr] at F;rw[F] at a6;clear F;generalize im A B p=V at *;generalize ha:(A.tmod (p*p)==0)=a at *;generalize hb:(A.tmod (p*p*p)==0)=b at *;generalize hc:(B.tmod (p*p*p)==0)=c at *;generalize bY:(B.tmod (p*p*p*p)==0)=d at *;generalize val (aP A B) p=n at *;generalize dB A B p=k at *;have ad:=h_ a6;clear a6;obtain⟨kC,J⟩:=aw w #[A,B] 42;go_enter Tryz.func180,Tryz.ntmps180;go_upto_region 1 with fail
 generalize w.alloc _=W at *;obtain⟨a4,a3⟩:=kC.q2;have a5:=kC.lt;go_wp2_with fail
 refine ai (H1.out _) λw1 I=>?_;have H:=af I J.size J;replace kC:=kC.next I
 clear a4 a3 a5 I;go_wp2_with fail
 refine ai (H3.out _) λw2 U=>?_;have az:=af U H.size H;replace kC:=kC.next U
 obtain⟨a4,a3⟩:=kC.q2;have a5:=kC.lt;clear U H;go_wp2_with fail
 refine ai (H2.out _) λw3 aF=>?_;have aG:=af aF az.size az;replace kC:=kC.next aF
 clear a4 a3 a5;obtain⟨a4,a3⟩:=kC.q2;have a5:=kC.lt;clear aF az H1 H2 H3;by_cases ab:k=1
 .subst ab;simp only[ej];by_cases h6:6<n
  .cases a
   .exact K6
   .cases b
    .have G:(A.tmod (p*p*p) != 0)=true:=by rw[bne,hb];rfl
     cases c
     .exact K6
     .cases d
      .have aa:(B.tmod (p*p*p*p) != 0)=true:=by rw[bne,bY];rfl
       have z1:=dS (n - 6) o_;have HN:=h_ (nW (n - 6) o_);have f1:((⟨#[73]⟩:aj)++aC (n - 6)).size=1+(aC (n - 6)).size:=by rw[Uu];rfl
       have HX:=λw=>Up (P:=Tryz.prog) w ⟨#[73]⟩ (aC (n - 6)) vR;have HY:=λw=>Up (P:=Tryz.prog) w (⟨#[73]⟩++aC (n - 6)) ⟨#[42]⟩ In;have HV:Hid (V=(⟨#[73]⟩:aj)++aC (n - 6)++⟨#[42]⟩):=h_ (ad.out.trans (by simp [h6]));clear ad;clear f1;exact GD
      .have aa:(B.tmod (p*p*p*p) != 0)=false:=by rw[bne,bY];rfl
       exact JR
    .have G:(A.tmod (p*p*p) != 0)=false:=by rw[bne,hb];rfl
     exact JR
  .
    have HV:Hid (V=fa n):=h_ (ad.out.trans (by rw[Uj s_,Uj (λh=>h6 h.1)]));clear ad;by_cases n2:n=2
    .subst n2;exact vA
    by_cases n3:n=3
    .subst n3;exact vA
    by_cases n4:n=4
    .subst n4;exact vA
    by_cases n6:n=6
    .subst n6;exact vA
    have HT:Hid (fa n=⟨#[73,73,42]⟩):=by show _=_;unfold fa;rw[Uj n2,Uj n3,Uj n4,Uj n6,Uj o_,Uj o_]
    have m2:(n==2)=false:=by simpa using n2
    have m3:(n==3)=false:=by simpa using n3
    have m4:(n==4)=false:=by simpa using n4
    have m6:(n==6)=false:=by simpa using n6
    have m8:(n==8)=false:=u_;have m9:(n==9)=false:=u_;clear n2 n3 n4 n6;exact JG
 .have hT:((ej k).toList==[97,100,100,105,116,105,118,101])=false:=by rcases hk with rfl|rfl|rfl|rfl<;>first|(exact absurd rfl ab)|(rw[Uy];decide+kernel)
  have z1:=dS n o_;have HN:=h_ (nW n o_);have HX:=λw=>Up (P:=Tryz.prog) w ⟨#[73]⟩ (aC n) vR;have HV:Hid (V=(⟨#[73]⟩:aj)++aC n):=h_ (ad.out.trans (Um ab));clear ad;clear ha hb hc bY;clear hk ab;exact GD
def n_(h:P:=by
 go_wp2;go_ret;exact⟨(congrArg (λx=>Ending.returned (Value.string x)) HV.out.symm),Z⟩):=h
def rp(h:P:=by
 go_wp2;go_ret;exact⟨(congrArg (λx=>Ending.returned (Value.string x)) HV.out.symm),aZ⟩):=h
def GV(h:P:=by
 go_wp2;go_ret;exact⟨(congrArg (λx=>Ending.returned (Value.string x)) HV.out.symm),a1⟩):=h
def KK(h:P:=by
 go_enter Tryz.func213,Tryz.ntmps213;go_upto_region 1 with fail
 generalize w.alloc _=W at *;obtain⟨a4,a3⟩:=kC.q2;have a5:=kC.lt;go_wp2_with fail
 refine (HM.out _).mono ?_;rintro e w1 ⟨k0,rfl,I⟩;replace kC:=kC.next I
 have H:=af I J.size J;have kM:=ag.new w1 #[A,B] 42;replace kC:=kC.alloc (.cells #[A,B] 42);have az:=H.alloc H.size (.cells #[A,B] 42);clear a4 a3 a5 I J HM H;go_upto_region 2 with fail
 generalize w1.alloc _=W2 at *;generalize w1.heap.size=rM at *;obtain⟨a8,bx⟩:=kM.q2;have bX:=kM.lt;go_wp2_with fail
 refine ai (H1.out _) λw3 aF=>?_;have aG:=af aF az.size az;replace kC:=kC.next aF
 replace kM:=kM.next aF
 clear a8 bx bX aF az H1;go_wp2_with fail
 refine ai (H3.out _) λw4 K=>?_;have g:=af K aG.size aG;replace kC:=kC.next K
 replace kM:=kM.next K
 clear K aG H3;obtain⟨a4,a3⟩:=kC.q2;have a5:=kC.lt;go_wp2_with fail
 refine ai (H2.out _) λw5 ac=>?_;have Z:=af ac g.size g;replace kM:=kM.next ac
 have aX:=h_ (HW.out.below Z);clear a4 a3 a5 kC ac g H2 HW;obtain⟨a8,bx⟩:=kM.q2;have bX:=kM.lt;by_cases n2:n=2
 .subst n2;exact n_
 by_cases n3:n=3
 .subst n3;exact n_
 by_cases n4:n=4
 .subst n4;exact n_
 by_cases n6:n=6
 .subst n6;exact n_
 by_cases n8:n=8
 .subst n8;exact n_
 by_cases n9:n=9
 .subst n9;exact n_
 have HT:Hid (fa n=⟨#[73,73,42]⟩):=by show _=_;unfold fa;rw[Uj n2,Uj n3,Uj n4,Uj n6,Uj n8,Uj n9]
 have m2:(n==2)=false:=by simpa using n2
 have m3:(n==3)=false:=by simpa using n3
 have m4:(n==4)=false:=by simpa using n4
 have m6:(n==6)=false:=by simpa using n6
 have m8:(n==8)=false:=by simpa using n8
 have m9:(n==9)=false:=by simpa using n9
 clear n2 n3 n4 n6 n8 n9;go_wp2;go_ret;exact⟨(congrArg (λx=>Ending.returned (Value.string x)) (HV.out.trans HT.out).symm),Z⟩):=h
def Km(h:P:=by
 have z1:=dS n o_;have HN:=h_ (λW ht=>pt n o_ o_ W ht);have HX:=λw=>Up (P:=Tryz.prog) w ⟨#[73]⟩ (aC n) vR;have HV:Hid (V=(⟨#[73]⟩:aj)++aC n):=h_ (ad.out.trans (Um d_));have hi:(⟨(Lib.itoa n).toArray⟩:aj)=aC n:=rfl;rw[hi] at HN;clear ad ae aM ab hg hi;go_enter Tryz.func213,Tryz.ntmps213;go_upto_region 1 with fail
 generalize w.alloc _=W at *;obtain⟨a4,a3⟩:=kC.q2;have a5:=kC.lt;go_wp2_with fail
 refine (HM.out _).mono ?_;rintro e w1 ⟨k0,rfl,I⟩;replace kC:=kC.next I
 have H:=af I J.size J;have kM:=ag.new w1 #[A,B] 42;replace kC:=kC.alloc (.cells #[A,B] 42);have az:=H.alloc H.size (.cells #[A,B] 42);clear a4 a3 a5 I J HM H;go_upto_region 2 with fail
 generalize w1.alloc _=W2 at *;generalize w1.heap.size=rM at *;obtain⟨a8,bx⟩:=kM.q2;have bX:=kM.lt;go_wp2_with fail
 refine ai (H1.out _) λw3 aF=>?_;have aG:=af aF az.size az;replace kC:=kC.next aF
 replace kM:=kM.next aF
 clear a8 bx bX aF az H1;go_wp2_with fail
 refine ai (H3.out _) λw4 K=>?_;have g:=af K aG.size aG;replace kC:=kC.next K
 replace kM:=kM.next K
 clear K aG H3;obtain⟨a4,a3⟩:=kC.q2;have a5:=kC.lt;go_wp2_with fail
 refine ai (H2.out _) λw5 ac=>?_;have Z:=af ac g.size g;replace kM:=kM.next ac
 have aX:=h_ (HW.out.below Z);clear a4 a3 a5 kC ac g H2 HW;obtain⟨a8,bx⟩:=kM.q2;have bX:=kM.lt;go_wp2_with fail
 refine ai (HN.out _ aX.out) λw8 ca=>?_;have a1:=af ca Z.size Z;exact GV):=h
def Kz(h:P:=by
 have HT:Hid (fa n=⟨#[73,73,42]⟩):=by show _=_;unfold fa;rw[Uj n2,Uj n3,Uj n4,Uj n6,Uj n8,Uj n9]
 have m2:(n==2)=false:=by simpa using n2
 have m3:(n==3)=false:=by simpa using n3
 have m4:(n==4)=false:=by simpa using n4
 have m6:(n==6)=false:=by simpa using n6
 have m8:(n==8)=false:=by simpa using n8
 have m9:(n==9)=false:=by simpa using n9
 clear n2 n3 n4 n6 n8 n9;go_wp2;go_ret;exact⟨(congrArg (λx=>Ending.returned (Value.string x)) (HV.out.trans HT.out).symm),aZ⟩):=h
def GJ(h:P:=by
 subst n2;exact rp):=h
def GI(h:P:=by
 subst n3;exact rp):=h
def G_(h:P:=by
 subst n4;exact rp):=h
def Gp(h:P:=by
 subst n6;exact rp):=h
def px(h:P:=by
 go_wp2;go_ret;exact⟨(congrArg (λx=>Ending.returned (Value.string x)) HV.out.symm),aa⟩):=h
def Jg(h:P:=by
 exact rp):=h
def OB(A0 B p:Int)(hC:be A0 B=true)(h5:5<=p/\p<=997)(G:cn p=true)(w:World)(a2:TabI w):
 Rv 213 #[.agg #[A0,B],p] w (.string (im (dH A0 B p) B p)):=by
 have b8:=λW=>xr A0 B p hC h5 G W;unfold nN at b8;have HM:=h_ b8;clear b8;have H2:=h_ (CX A0 B p hC h5 G);obtain⟨hA,hB,bZ⟩:=pI (p:=p) hC;clear hC G;generalize dH A0 B p=A at *;have hd:=sV hA hB;have hv:=qQ (p:=p) hd;have H1:=h_ (nT A B hA hB);have H3:=h_ (λW=>lW (sO (aP A B) p bZ o_ o_ W));have aM:=h_ (λ(h:A≠0) W=>lW (sO A p h o_ o_ W));have ab:=h_ (λ(h:B≠0) W=>lW (sO B p h o_ o_ W));have cQ:=qQ (a:=A) (p:=p) o_;have cy:=qQ (a:=B) (p:=p) o_;have a6:im A B p=if dB A B p≠1 then ⟨#[73]⟩++aC (val (aP A B) p) else if 6<val (aP A B) p/\oc A B p=true then ⟨#[73]⟩++aC (val (aP A B) p - 6)++⟨#[42]⟩ else fa (val (aP A B) p):=rfl
 have hk:=CZ A B p;have hg:=λh=>Tu (Si (A:=A) (B:=B) (p:=p) h);have F:=SZ (A:=A) (B:=B) (p:=p) o_;generalize im A B p=V at *;generalize oc A B p=sb at *;generalize val (aP A B) p=n at *;generalize dB A B p=k at *;have ad:=h_ a6;have ae:=h_ F;clear a6 F;obtain⟨kC,J⟩:=aw w #[A0,B] 42;have HW:=h_ a2;clear a2;rcases hk with rfl|rfl|rfl|rfl
 .have hn:=hg rfl;have HV:Hid (V=⟨#[73,48]⟩):=h_ (by rw[ad.out,Um d_,hn,P6];decide+kernel);clear hg ad ae aM ab hn;have hT:((ej 0).toList==[103,111,111,100])=true:=by rw[Uy];decide+kernel
  go_enter Tryz.func213,Tryz.ntmps213;go_upto_region 1 with fail
  generalize w.alloc _=W at *;obtain⟨a4,a3⟩:=kC.q2;have a5:=kC.lt;go_wp2_with fail
  refine (HM.out _).mono ?_;rintro e w1 ⟨k0,rfl,I⟩;replace kC:=kC.next I
  have H:=af I J.size J;have kM:=ag.new w1 #[A,B] 42;replace kC:=kC.alloc (.cells #[A,B] 42);have az:=H.alloc H.size (.cells #[A,B] 42);clear a4 a3 a5 I J HM H;go_upto_region 2 with fail
  generalize w1.alloc _=W2 at *;generalize w1.heap.size=rM at *;obtain⟨a8,bx⟩:=kM.q2;have bX:=kM.lt;go_wp2_with fail
  refine ai (H1.out _) λw3 aF=>?_;have aG:=af aF az.size az;replace kC:=kC.next aF
  replace kM:=kM.next aF
  clear a8 bx bX aF az H1;go_wp2_with fail
  refine ai (H3.out _) λw4 K=>?_;have g:=af K aG.size aG;replace kC:=kC.next K
  replace kM:=kM.next K
  clear K aG H3;obtain⟨a4,a3⟩:=kC.q2;have a5:=kC.lt;go_wp2_with fail
  refine ai (H2.out _) λw5 ac=>?_;have Z:=af ac g.size g;replace kM:=kM.next ac
  have aX:=h_ (HW.out.below Z);clear a4 a3 a5 kC ac g H2 HW;obtain⟨a8,bx⟩:=kM.q2;have bX:=kM.lt;exact n_
 .clear hg;have b1:((ej 1).toList==[103,111,111,100])=false:=by rw[Uy];decide+kernel
  have bi:((ej 1).toList==[115,112,108,105,116])=false:=by rw[Uy];decide+kernel
  have a9:((ej 1).toList==[110,111,110,115,112,108,105,116])=false:=by rw[Uy];decide+kernel
  have U:Hid (sb=false\/¬6<n->V=fa n):=h_ λh=>by
   rw[ad.out,Uj s_,Uj];rintro⟨h1,h2⟩;rcases h with h|h
   .rw[h] at h2;cases h2
   .exact h h1
  by_cases ba:A=0
  .have ha:(A != 0)=false:=by rw[ba];rfl
   have HV:Hid (V=fa n):=h_ (U.out (.inl (by cases hs:sb;rfl;exact absurd ba (ae.out.1 hs).1)));clear ad U ae aM ab ba;exact KK
  .have ha:(A != 0)=true:=by simpa using ba
   by_cases aL:B=0
   .have hb:(B != 0)=false:=by rw[aL];rfl
    have HV:Hid (V=fa n):=h_ (U.out (.inl (by cases hs:sb;rfl;exact absurd aL (ae.out.1 hs).2.1)));clear ad U ae aM ab ba aL;exact KK
   .have hb:(B != 0)=true:=by simpa using aL
    replace aM:=h_ (aM.out ba);replace ab:=h_ (ab.out aL);by_cases h2:val A p=2
    .have c2:(val A p==2)=true:=by rw[h2];rfl
     by_cases h3:val B p=3
     .have c3:(val B p==3)=true:=by rw[h3];rfl
      have bp:sb=true:=ae.out.2 ⟨ba,aL,h2,h3⟩;generalize val A p=va at *;generalize val B p=vb at *;clear h2 h3 ba aL ae;by_cases h6:6<n
      .have z1:=dS (n - 6) o_;have HN:=h_ (λW ht=>pt (n - 6) o_ o_ W ht);have f1:((⟨#[73]⟩:aj)++aC (n - 6)).size=1+(aC (n - 6)).size:=by rw[Uu];rfl
       have HX:=λw=>Up (P:=Tryz.prog) w ⟨#[73]⟩ (aC (n - 6)) vR;have HY:=λw=>Up (P:=Tryz.prog) w (⟨#[73]⟩++aC (n - 6)) ⟨#[42]⟩ In;have HV:Hid (V=(⟨#[73]⟩:aj)++aC (n - 6)++⟨#[42]⟩):=h_ (ad.out.trans (by rw[Uj s_,Um ⟨h6,bp⟩]));have hi:(⟨(Lib.itoa (n - 6)).toArray⟩:aj)=aC (n - 6):=rfl;rw[hi] at HN;clear ad U bp hi;go_enter Tryz.func213,Tryz.ntmps213;go_upto_region 1 with fail
       generalize w.alloc _=W at *;obtain⟨a4,a3⟩:=kC.q2;have a5:=kC.lt;go_wp2_with fail
       refine (HM.out _).mono ?_;rintro e w1 ⟨k0,rfl,I⟩;replace kC:=kC.next I
       have H:=af I J.size J;have kM:=ag.new w1 #[A,B] 42;replace kC:=kC.alloc (.cells #[A,B] 42);have az:=H.alloc H.size (.cells #[A,B] 42);clear a4 a3 a5 I J HM H;go_upto_region 2 with fail
       generalize w1.alloc _=W2 at *;generalize w1.heap.size=rM at *;obtain⟨a8,bx⟩:=kM.q2;have bX:=kM.lt;go_wp2_with fail
       refine ai (H1.out _) λw3 aF=>?_;have aG:=af aF az.size az;replace kC:=kC.next aF
       replace kM:=kM.next aF
       clear a8 bx bX aF az H1;go_wp2_with fail
       refine ai (H3.out _) λw4 K=>?_;have g:=af K aG.size aG;replace kC:=kC.next K
       replace kM:=kM.next K
       clear K aG H3;obtain⟨a4,a3⟩:=kC.q2;have a5:=kC.lt;go_wp2_with fail
       refine ai (H2.out _) λw5 ac=>?_;have Z:=af ac g.size g;replace kM:=kM.next ac
       have aX:=h_ (HW.out.below Z);clear a4 a3 a5 kC ac g H2 HW;obtain⟨a8,bx⟩:=kM.q2;have bX:=kM.lt;go_wp2_with fail
       refine ai (aM.out _) λw6 ax=>?_;have aa:=af ax Z.size Z;replace kM:=kM.next ax
       clear a8 bx bX;obtain⟨a8,bx⟩:=kM.q2;have bX:=kM.lt;go_wp2_with fail
       refine ai (ab.out _) λw7 a7=>?_;have aZ:=af a7 aa.size aa;have bb:=h_ ((aX.out.below ax).below a7);clear ax a7 aa;go_wp2_with fail
       refine ai (HN.out _ bb.out) λw8 ca=>?_;have a1:=af ca aZ.size aZ;exact GV
      .have HV:Hid (V=fa n):=h_ (U.out (.inr h6));clear ad U bp;go_enter Tryz.func213,Tryz.ntmps213;go_upto_region 1 with fail
       generalize w.alloc _=W at *;obtain⟨a4,a3⟩:=kC.q2;have a5:=kC.lt;go_wp2_with fail
       refine (HM.out _).mono ?_;rintro e w1 ⟨k0,rfl,I⟩;replace kC:=kC.next I
       have H:=af I J.size J;have kM:=ag.new w1 #[A,B] 42;replace kC:=kC.alloc (.cells #[A,B] 42);have az:=H.alloc H.size (.cells #[A,B] 42);clear a4 a3 a5 I J HM H;go_upto_region 2 with fail
       generalize w1.alloc _=W2 at *;generalize w1.heap.size=rM at *;obtain⟨a8,bx⟩:=kM.q2;have bX:=kM.lt;go_wp2_with fail
       refine ai (H1.out _) λw3 aF=>?_;have aG:=af aF az.size az;replace kC:=kC.next aF
       replace kM:=kM.next aF
       clear a8 bx bX aF az H1;go_wp2_with fail
       refine ai (H3.out _) λw4 K=>?_;have g:=af K aG.size aG;replace kC:=kC.next K
       replace kM:=kM.next K
       clear K aG H3;obtain⟨a4,a3⟩:=kC.q2;have a5:=kC.lt;go_wp2_with fail
       refine ai (H2.out _) λw5 ac=>?_;have Z:=af ac g.size g;replace kM:=kM.next ac
       have aX:=h_ (HW.out.below Z);clear a4 a3 a5 kC ac g H2 HW;obtain⟨a8,bx⟩:=kM.q2;have bX:=kM.lt;go_wp2_with fail
       refine ai (aM.out _) λw6 ax=>?_;have aa:=af ax Z.size Z;replace kM:=kM.next ax
       clear a8 bx bX;obtain⟨a8,bx⟩:=kM.q2;have bX:=kM.lt;go_wp2_with fail
       refine ai (ab.out _) λw7 a7=>?_;have aZ:=af a7 aa.size aa;have bb:=h_ ((aX.out.below ax).below a7);clear ax a7 aa;by_cases n2:n=2
       .exact GJ
       by_cases n3:n=3
       .exact GI
       by_cases n4:n=4
       .exact G_
       by_cases n6:n=6
       .exact Gp
       have n8:n≠8:=o_;have n9:n≠9:=o_;exact Kz
     .have c3:(val B p==3)=false:=by simpa using h3
      have HV:Hid (V=fa n):=h_ (U.out (.inl (by cases hs:sb;rfl;exact absurd (ae.out.1 hs).2.2.2 h3)));generalize val A p=va at *;generalize val B p=vb at *;clear ad U ae h2 h3 ba aL;go_enter Tryz.func213,Tryz.ntmps213;go_upto_region 1 with fail
      generalize w.alloc _=W at *;obtain⟨a4,a3⟩:=kC.q2;have a5:=kC.lt;go_wp2_with fail
      refine (HM.out _).mono ?_;rintro e w1 ⟨k0,rfl,I⟩;replace kC:=kC.next I
      have H:=af I J.size J;have kM:=ag.new w1 #[A,B] 42;replace kC:=kC.alloc (.cells #[A,B] 42);have az:=H.alloc H.size (.cells #[A,B] 42);clear a4 a3 a5 I J HM H;go_upto_region 2 with fail
      generalize w1.alloc _=W2 at *;generalize w1.heap.size=rM at *;obtain⟨a8,bx⟩:=kM.q2;have bX:=kM.lt;go_wp2_with fail
      refine ai (H1.out _) λw3 aF=>?_;have aG:=af aF az.size az;replace kC:=kC.next aF
      replace kM:=kM.next aF
      clear a8 bx bX aF az H1;go_wp2_with fail
      refine ai (H3.out _) λw4 K=>?_;have g:=af K aG.size aG;replace kC:=kC.next K
      replace kM:=kM.next K
      clear K aG H3;obtain⟨a4,a3⟩:=kC.q2;have a5:=kC.lt;go_wp2_with fail
      refine ai (H2.out _) λw5 ac=>?_;have Z:=af ac g.size g;replace kM:=kM.next ac
      have aX:=h_ (HW.out.below Z);clear a4 a3 a5 kC ac g H2 HW;obtain⟨a8,bx⟩:=kM.q2;have bX:=kM.lt;go_wp2_with fail
      refine ai (aM.out _) λw6 ax=>?_;have aa:=af ax Z.size Z;replace kM:=kM.next ax
      clear a8 bx bX;obtain⟨a8,bx⟩:=kM.q2;have bX:=kM.lt;go_wp2_with fail
      refine ai (ab.out _) λw7 a7=>?_;have aZ:=af a7 aa.size aa;have bb:=h_ ((aX.out.below ax).below a7);clear ax a7 aa;by_cases n2:n=2
      .exact GJ
      by_cases n3:n=3
      .exact GI
      by_cases n4:n=4
      .exact G_
      by_cases n6:n=6
      .exact Gp
      by_cases n8:n=8
      .subst n8;exact Jg
      by_cases n9:n=9
      .subst n9;exact Jg
      exact Kz
    .have c2:(val A p==2)=false:=by simpa using h2
     have HV:Hid (V=fa n):=h_ (U.out (.inl (by cases hs:sb;rfl;exact absurd (ae.out.1 hs).2.2.1 h2)));generalize val A p=va at *;clear ad U ae h2 ba aL ab;go_enter Tryz.func213,Tryz.ntmps213;go_upto_region 1 with fail
     generalize w.alloc _=W at *;obtain⟨a4,a3⟩:=kC.q2;have a5:=kC.lt;go_wp2_with fail
     refine (HM.out _).mono ?_;rintro e w1 ⟨k0,rfl,I⟩;replace kC:=kC.next I
     have H:=af I J.size J;have kM:=ag.new w1 #[A,B] 42;replace kC:=kC.alloc (.cells #[A,B] 42);have az:=H.alloc H.size (.cells #[A,B] 42);clear a4 a3 a5 I J HM H;go_upto_region 2 with fail
     generalize w1.alloc _=W2 at *;generalize w1.heap.size=rM at *;obtain⟨a8,bx⟩:=kM.q2;have bX:=kM.lt;go_wp2_with fail
     refine ai (H1.out _) λw3 aF=>?_;have aG:=af aF az.size az;replace kC:=kC.next aF
     replace kM:=kM.next aF
     clear a8 bx bX aF az H1;go_wp2_with fail
     refine ai (H3.out _) λw4 K=>?_;have g:=af K aG.size aG;replace kC:=kC.next K
     replace kM:=kM.next K
     clear K aG H3;obtain⟨a4,a3⟩:=kC.q2;have a5:=kC.lt;go_wp2_with fail
     refine ai (H2.out _) λw5 ac=>?_;have Z:=af ac g.size g;replace kM:=kM.next ac
     have aX:=h_ (HW.out.below Z);clear a4 a3 a5 kC ac g H2 HW;obtain⟨a8,bx⟩:=kM.q2;have bX:=kM.lt;go_wp2_with fail
     refine ai (aM.out _) λw6 ax=>?_;have aa:=af ax Z.size Z;by_cases n2:n=2
     .subst n2;exact px
     by_cases n3:n=3
     .subst n3;exact px
     by_cases n4:n=4
     .subst n4;exact px
     by_cases n6:n=6
     .subst n6;exact px
     by_cases n8:n=8
     .subst n8;exact px
     by_cases n9:n=9
     .subst n9;exact px
     have HT:Hid (fa n=⟨#[73,73,42]⟩):=by show _=_;unfold fa;rw[Uj n2,Uj n3,Uj n4,Uj n6,Uj n8,Uj n9]
     have m2:(n==2)=false:=by simpa using n2
     have m3:(n==3)=false:=by simpa using n3
     have m4:(n==4)=false:=by simpa using n4
     have m6:(n==6)=false:=by simpa using n6
     have m8:(n==8)=false:=by simpa using n8
     have m9:(n==9)=false:=by simpa using n9
     clear n2 n3 n4 n6 n8 n9;go_wp2;go_ret;exact⟨(congrArg (λx=>Ending.returned (Value.string x)) (HV.out.trans HT.out).symm),aa⟩
 .have b1:((ej 2).toList==[103,111,111,100])=false:=by rw[Uy];decide+kernel
  have bi:((ej 2).toList==[115,112,108,105,116])=true:=by rw[Uy];decide+kernel
  have a9:((ej 2).toList==[110,111,110,115,112,108,105,116])=false:=by rw[Uy];decide+kernel
  exact Km
 .have b1:((ej 3).toList==[103,111,111,100])=false:=by rw[Uy];decide+kernel
  have bi:((ej 3).toList==[115,112,108,105,116])=false:=by rw[Uy];decide+kernel
  have a9:((ej 3).toList==[110,111,110,115,112,108,105,116])=true:=by rw[Uy];decide+kernel
  exact Km
def JI(h:P:=by
 go_upto_region 1 with fail
 generalize w.alloc _=W at *;obtain⟨a4,a3⟩:=kC.q2;have a5:=kC.lt;go_wp2_with fail
 refine ai (HR.out _) λw1 I=>?_;have H:=af I J.size J;replace kC:=kC.next I
 clear a4 a3 a5 I J;obtain⟨a4,a3⟩:=kC.q2;have a5:=kC.lt;go_wp2_with fail
 refine (HM.out _).mono ?_;rintro e w2 ⟨k0,rfl,U⟩;have az:=af U H.size H;have kM:=ag.new w2 #[A2,B] 42;have aG:=az.alloc az.size (.cells #[A2,B] 42);clear a4 a3 a5 U kC H HM HR az;go_upto_region 4 with fail
 generalize w2.alloc _=W3 at *;generalize w2.heap.size=rM at *;obtain⟨a8,bx⟩:=kM.q2;have bX:=kM.lt;go_wp2_with fail
 refine ai (HV.out _) λw4 K=>?_;have g:=af K aG.size aG;go_wp2;go_ret2;exact⟨rfl,g⟩):=h
def JQ(h:P:=by
 go_wp2_with (first|(go_at_call 62;refine ai (HC.out _) λw1 I=>?_;obtain⟨aZ,a6⟩:=bf I;have ax:=I.size;(try simp only[Uq] at ax);(try (have F:w.heap.size<w1.heap.size:=by omega));(try (have a9:=Ul ax));(try (have bs:=Ul (Uo a9))))|(go_at_call 212;refine ai (HR.out _) λw2 U=>?_;obtain⟨bo,bq⟩:=bf U;have a8:=U.size;(try simp only[Uq] at a8);(try (have aG:w.heap.size<w2.heap.size:=by omega));(try (have ac:=Ul a8));(try (have ab:=Ul (Uo ac)));(try (have aa:w1.heap.size<w2.heap.size:=by omega))))
 exact rn):=h
def JY(h:P:=by
 go_wp2_with ((go_at_call 178;refine ai (HR.out _) λw1 I=>?_;obtain⟨aZ,a6⟩:=bf I;have ax:=I.size;(try simp only[Uq] at ax);(try (have F:w.heap.size<w1.heap.size:=by omega));(try (have a9:=Ul ax));(try (have bs:=Ul (Uo a9)))))
 exact rn):=h
def IQ(h:P:=by
 clear HK;go_enter Tryz.func231,Tryz.ntmps231;go_wp2_with ((go_at_call 227;refine ay (oN _ _) ?_))
 exact rW):=h
def Gm(h:P:=by
 have g:=af K az.size az;go_wp2;go_ret2;exact⟨rfl,g⟩):=h
noncomputable def fj(p:Int):Bool:=av p 5 997&&cn p
def uf{p}(h:fj p=true):(5<=p/\p<=997)/\cn p=true:=by
 unfold fj at h;simp at h;exact⟨bH h.1,h.2⟩
noncomputable def kL(p:Int)(S:aj):Value:=.tuple #[.string (if fj p then S else ⟨#[]⟩),.bool (fj p)]
def BP(p:Int)(w):Rv 212 #[p] w (.bool (fj p)):=by
 unfold fj;cases h1:av p 5 997
 .go_enter Tryz.func212,Tryz.ntmps212;exact Hq
 .have G:=bH h1;go_enter Tryz.func212,Tryz.ntmps212;go_wp2_with (first|(go_at_call 63;refine ay (cR _ _ _ _) ?_)|(go_at_call 261;refine (xe _ o_ _).mono ?_;rintro e w' ⟨rfl,rfl⟩))
  exact rW
def O_(p:Int)(w):Rv 231 #[p] w (.bool (fj p)):=by
 have key:fj p=(av p 2 997&&cn p&&decide (5<=p)):=by
  unfold fj av;cases cn p
  .simp
  .rw[Wp];simp;omega
 have HK:=h_ key;generalize fj p=r at *;clear key;cases h1:(av p 2 997&&cn p)
 .obtain rfl:r=false:=by rw[HK.out,h1];rfl
  exact IQ
 .by_cases h5:5<=p
  .obtain rfl:r=true:=by rw[HK.out,h1];simp [h5]
   exact IQ
  .obtain rfl:r=false:=by rw[HK.out,h1];simp [h5]
   have hd:=h_ (Vb h5);go_enter Tryz.func231,Tryz.ntmps231;go_wp2_with ((go_at_call 227;refine ay (oN _ _) ?_))
   go_ret;exact⟨congrArg (λb=>Ending.returned (Value.bool b)) hd.out,Uk _ _⟩
def B6(A B p:Int)(hC:be A B=true)(w):Rv 178 #[.agg #[A,B],p] w (.bool (fj p)):=by
 have h0:=λW=>fP A B W;rw[hC] at h0;have HC:=h_ h0;have HP:=h_ (O_ p);generalize fj p=r at *;go_enter Tryz.func178,Tryz.ntmps178;go_wp2_with (first|(go_at_call 71;refine ai (HC.out _) λw1 I=>?_;have ax:=I.size;(try simp only[Uq] at ax))|(go_at_call 231;refine ai (HP.out _) λw2 U=>?_))
 exact ij
def LT(A B p:Int)(hC:be A B=true)(w:World):
 Rv 127 #[.agg #[A,B],p] w (kL p (ej (dB (dH A B p) B p))):=by
 have h0:=λW=>B6 A B p hC W;unfold kL;cases hr:fj p
 .rw[hr] at h0;have HR:=h_ h0;go_enter Tryz.func127,Tryz.ntmps127;exact JY
 .rw[hr] at h0;have HR:=h_ h0;obtain⟨G,Z⟩:=uf hr;have b8:=λW=>Bo A B p hC G Z W;unfold nN at b8;have HM:=h_ b8;obtain⟨hA,hB,hd⟩:=pI (p:=p) hC;generalize dH A B p=A2 at *;have HV:=h_ (C3 A2 B p hA hB G);generalize ej (dB A2 B p)=V at *;obtain⟨kC,J⟩:=aw w #[A,B] 42;go_enter Tryz.func127,Tryz.ntmps127;exact JI
def LI(A B p:Int)(hC:be A B=true)(w:World):
 Rv 126 #[.agg #[A,B],p] w (kL p (im (dH A B p) B p)):=by
 have h0:=λW=>B6 A B p hC W;unfold kL;cases hr:fj p
 .rw[hr] at h0;have HR:=h_ h0;go_enter Tryz.func126,Tryz.ntmps126;exact JY
 .rw[hr] at h0;have HR:=h_ h0;obtain⟨G,Z⟩:=uf hr;have b8:=λW=>Bo A B p hC G Z W;unfold nN at b8;have HM:=h_ b8;obtain⟨hA,hB,hd⟩:=pI (p:=p) hC;generalize dH A B p=A2 at *;have HV:=h_ (Oh A2 B p hA hB hd G);generalize im A2 B p=V at *;obtain⟨kC,J⟩:=aw w #[A,B] 42;go_enter Tryz.func126,Tryz.ntmps126;exact JI
def LP(A B p:Int)(hC:be A B=true)(w:World):
 Rv 157 #[.agg #[A,B],p] w (kL p (ej (dB (dH A B p) B p))):=by
 have ad:=λW=>jG A B W;rw[hC] at ad;have HC:=h_ ad;have h0:=λW=>BP p W;unfold kL;cases hr:fj p
 .rw[hr] at h0;have HR:=h_ h0;go_enter Tryz.func157,Tryz.ntmps157;exact JQ
 .rw[hr] at h0;have HR:=h_ h0;obtain⟨G,Z⟩:=uf hr;have HV:=h_ (CX A B p hC G Z);generalize ej (dB (dH A B p) B p)=V at *;obtain⟨kC,J⟩:=aw w #[A,B] 42
  skip
  skip
  go_enter Tryz.func157,Tryz.ntmps157;go_upto_region 1 with fail
  generalize w.alloc _=W at *;obtain⟨a4,a3⟩:=kC.q2;have a5:=kC.lt;go_wp2_with fail
  refine ai (HC.out _) λw1 I=>?_;have H:=af I J.size J;replace kC:=kC.next I
  go_wp2_with fail
  refine ai (HR.out _) λw2 U=>?_;have az:=af U H.size H;replace kC:=kC.next U
  obtain⟨a4,a3⟩:=kC.q2;go_wp2_with fail
  exact ai (HV.out _) λw4 K=>Gm
def LK(A B p:Int)(hC:be A B=true)(w:World)(a2:TabI w):
 Rv 156 #[.agg #[A,B],p] w (kL p (im (dH A B p) B p)):=by
 have ad:=λW=>jG A B W;rw[hC] at ad;have HC:=h_ ad;have h0:=λW=>BP p W;unfold kL;cases hr:fj p
 .rw[hr] at h0;have HR:=h_ h0;go_enter Tryz.func156,Tryz.ntmps156;exact JQ
 .rw[hr] at h0;have HR:=h_ h0;obtain⟨G,Z⟩:=uf hr;have HV:=h_ (λW ae=>OB A B p hC G Z W ae);generalize im (dH A B p) B p=V at *;obtain⟨kC,J⟩:=aw w #[A,B] 42;have HW:=h_ a2;go_enter Tryz.func156,Tryz.ntmps156;go_upto_region 1 with fail
  generalize w.alloc _=W at *;obtain⟨a4,a3⟩:=kC.q2;have a5:=kC.lt;go_wp2_with fail
  refine ai (HC.out _) λw1 I=>?_;have H:=af I J.size J;replace kC:=kC.next I
  go_wp2_with fail
  refine ai (HR.out _) λw2 U=>?_;have az:=af U H.size H;replace kC:=kC.next U
  obtain⟨a4,a3⟩:=kC.q2;go_wp2_with fail
  exact ai (HV.out _ (HW.out.below az)) λw4 K=>Gm
end Go.Proofs.YtaamhakdhaolmaaGreatDoor
