/- Part 31. -/
import Derived.Test.YtaamhakdhaolmaaGreatDoorAak
import Derived.Test.YtaamhakdhaolmaaGreatDoorAbb
import Derived.Test.YtaamhakdhaolmaaGreatDoorAbe
namespace Go.Proofs.YtaamhakdhaolmaaGreatDoor
open Go.RowKit
set_option maxHeartbeats 8000000
set_option maxRecDepth 100000
variable {P:Prop}
set_option linter.all false
def pR(h:P:=by simp [results,Tryz.results102,go_sem,q0,q1]):=h
def pD(h:P:=by rw[mQ,h1,h2];exact h.2):=h
def Ff(h:P:=by rw[<-b2];exact List.mem_map_of_mem (f:=λy:aj=>y.data.toList) hx):=h
def Ar(h:P:=by show rR≠rF;omega):=h
def Ad(h:P:=by show rR<=rF;omega):=h
def E6(h:P:=by
 go_wp2;generalize (World.setCell (World.setCell _ _ _) _ _)=w9 at k9 ad ⊢;obtain⟨q0,q1⟩:=k9.q2;refine Uh (v:=.tuple #[.agg #[(),()],false]) pR rfl ?_;exact⟨(by rw[HN.out];rfl),bx.out▸ad⟩):=h
def uB(h:P:=by
 exact⟨(by rw[HN.out];rfl),bx.out▸ad⟩):=h
def Ah(h:P:=by
 have HN:Hid (bu s.data.toList=none):=h_ (jI λa b h=>by
  obtain⟨h1,h2⟩:=HK.out a b h;rw[h1,h2,h.1] at aa;cases aa)
 clear aa HK;obtain⟨bz,b1⟩:=V.q2;have aM:=V.frozen 0;have a1:=V.frozen 1;have az:=V.lt;have k9:=(V.set 0 ()).set 1 ();have ad:Below rR w ((wG.setCell ⟨rR,0,none⟩ ()).setCell ⟨rR,1,none⟩ ()):=(ae.setCell s_ _).setCell s_ _;exact E6):=h
def zi(h:P:=by
 clear HK;obtain⟨bz,b1⟩:=V.q2;have aM:=V.frozen 0;have a1:=V.frozen 1;have az:=V.lt;have k9:=(V.set 0 ()).set 1 ();have ad:Below rR w ((wT.setCell ⟨rR,0,none⟩ ()).setCell ⟨rR,1,none⟩ ()):=(aG.setCell s_ _).setCell s_ _;exact E6):=h
def Ib(h:P:=by
 obtain⟨_,h1,h2,h3⟩:=uq h;rcases h1 with ⟨h1,rfl⟩|h1
 .rw[aZ] at h1;have:=(VO h1).2;cases this
 .rw[aZ] at h1;obtain⟨e1,e2⟩:=VO h1;have e3:=(VO e2).1;exact⟨by rw[aF.out,e1,h2],by rw[<-hd,e3,h3]⟩):=h
def Hz(h:P:=by
 obtain⟨_,h1,h2,h3⟩:=uq h;have hc:=b3.out ac;rcases h1 with ⟨h1,rfl⟩|h1
 .rw[hc] at h1;have:=(VO h1).1;exact⟨by rw[aF.out,this,h2],rfl⟩
 .rw[hc] at h1;have:=(VO h1).2;cases this):=h
def uy(h:P:=by
 exact uB):=h
def Lh(h:P:=by
 obtain⟨n,rfl⟩:∃n,n=r0:=⟨_,rfl⟩
 rcases ac with ac|ac
 .have HK:Hid (∀a b,fE s.data.toList a b->n=a/\1=b):=h_ λa b h=>by
   exact Hz
  have a7:((m:Int)==2)=false:=u_;clear b3 b0 aF ac;have HG:=h_ (mS n (1));obtain⟨F,Z⟩:=kF.q2;have aL:=kF.lt;go_wp2_with fail
  refine ai (HG.out _) λwG H=>?_;have bp:=V.lt;replace kF:=kF.next H
  replace V:=V.next H
  have ae:=af H (Uo bp) bb;clear F Z aL HG H;cases aa:bJ n (1)
  .exact Ah
  .have HT:=h_ (oV n (1) aa);obtain⟨F,Z⟩:=kF.q2;have aL:=kF.lt;have aX:=h_ aa;clear aa;go_wp2_with fail
   refine ai (HT.out _) λwT K=>?_;have ba:=V.lt;replace kF:=kF.next K
   replace V:=V.next K
   have aG:=af K (Uo ba) ae;clear F Z aL HT K;obtain⟨F,Z⟩:=kF.q2;have aL:=kF.lt;cases hq:((aE n (1)).toList==s.toList)
   .have HN:Hid (bu s.data.toList=none):=h_ (jI λa b h=>by
     obtain⟨h1,h2⟩:=HK.out a b h;have h3:((aE n (1)).toList==s.toList)=true:=iD.2 pD;rw[hq] at h3;cases h3)
    exact zi
   .have HN:Hid (bu s.data.toList=some (n,1)):=h_ (mI ⟨aX.out,by rw[<-mQ];exact iD.1 hq⟩);clear HK;obtain⟨bz,b1⟩:=V.q2;have aM:=V.frozen 0;have a1:=V.frozen 1;have az:=V.lt;have k9:=(V.set 0 n).set 1 (1:Int);have ad:Below rR w ((wT.setCell ⟨rR,0,none⟩ n).setCell ⟨rR,1,none⟩ (1:Int)):=(aG.setCell s_ _).setCell s_ _;go_wp2;generalize (World.setCell (World.setCell _ _ _) _ _)=w9 at k9 ad ⊢;obtain⟨q0,q1⟩:=k9.q2;refine Uh (v:=.tuple #[.agg #[n,(1:Int)],true]) pR rfl ?_;exact uy
 .have a7:((m:Int)==2)=true:=u_;obtain⟨x1,aZ,a9,q1⟩:=b0.out ac;have b4:=λW=>tG x1 o_ W;obtain⟨d,hd⟩:∃d:Int,bF 10 x1.data.toList=d:=⟨_,rfl⟩
  have HK:Hid (∀a b,fE s.data.toList a b->n=a/\d=b):=h_ λa b h=>by
   exact Ib
  have bv:=tj x1.data.toList;have b6:=oJ 10 x1.data.toList;rw[hd] at b4 bv b6;have a5:=h_ b4;have b7:W5.cell? ⟨g,1,none⟩=some (.string x1):=(ab.cell (p:=⟨g,1,none⟩) (by show g<_;omega)).trans q1;have cc:(1:Int)<(m:Int):=o_;have lF:=kF.lt;have co:=V.lt;clear b3 b0 aF hd aZ a9 q1 ac b4;obtain⟨F,Z⟩:=kF.q2;have bY:=kF.frozen 0;have bX:=kF.frozen 1;have aL:=kF.lt;have f9:=kF.set 1 d;have r9:=V.far (p:=⟨rF,1,none⟩) Ar d;have b9:Below rR w (W5.setCell ⟨rF,1,none⟩ d):=bb.setCell Ad _;go_wp2_with fail
  refine (a5.out _).mono ?_;rintro e w6 ⟨rfl,rfl⟩;go_upto_region 9 with fail
  generalize (World.setCell _ _ _)=W7 at f9 r9 b9 ⊢;simp only[UK,UV,U1] at f9;clear F Z bY bX aL kF V bb b7 ab;have kF:=f9;have V:=r9;have bb:=b9;clear f9 r9 b9;have HG:=h_ (mS n d);obtain⟨F,Z⟩:=kF.q2;have aL:=kF.lt;go_wp2_with fail
  refine ai (HG.out _) λwG H=>?_;have bp:=V.lt;replace kF:=kF.next H
  replace V:=V.next H
  have ae:=af H (Uo bp) bb;clear F Z aL HG H;cases aa:bJ n d
  .exact Ah
  .have HT:=h_ (oV n d aa);obtain⟨F,Z⟩:=kF.q2;have aL:=kF.lt;have aX:=h_ aa;clear aa;go_wp2_with fail
   refine ai (HT.out _) λwT K=>?_;have ba:=V.lt;replace kF:=kF.next K
   replace V:=V.next K
   have aG:=af K (Uo ba) ae;clear F Z aL HT K;obtain⟨F,Z⟩:=kF.q2;have aL:=kF.lt;cases hq:((aE n d).toList==s.toList)
   .have HN:Hid (bu s.data.toList=none):=h_ (jI λa b h=>by
     obtain⟨h1,h2⟩:=HK.out a b h;have h3:((aE n d).toList==s.toList)=true:=iD.2 pD;rw[hq] at h3;cases h3)
    exact zi
   .have HN:Hid (bu s.data.toList=some (n,d)):=h_ (mI ⟨aX.out,by rw[<-mQ];exact iD.1 hq⟩);clear HK;obtain⟨bz,b1⟩:=V.q2;have aM:=V.frozen 0;have a1:=V.frozen 1;have az:=V.lt;have k9:=(V.set 0 n).set 1 d;have ad:Below rR w ((wT.setCell ⟨rR,0,none⟩ n).setCell ⟨rR,1,none⟩ d):=(aG.setCell s_ _).setCell s_ _;go_wp2;generalize (World.setCell (World.setCell _ _ _) _ _)=w9 at k9 ad ⊢;obtain⟨q0,q1⟩:=k9.q2;refine Uh (v:=.tuple #[.agg #[n,d],true]) pR rfl ?_;exact uy):=h
def Kh(h:P:=by
 exact Ah):=h
def KE(h:P:=by
 clear hf b2 cm;obtain⟨bz,b1⟩:=V.q2;have aM:=V.frozen 0;have a1:=V.frozen 1;have az:=V.lt;have k9:=(V.set 0 ()).set 1 ();have ad:Below rR w ((w1.setCell ⟨rR,0,none⟩ ()).setCell ⟨rR,1,none⟩ ()):=(bb.setCell s_ _).setCell s_ _;go_wp2;generalize (World.setCell (World.setCell _ _ _) _ _)=w9 at k9 ad ⊢;obtain⟨q0,q1⟩:=k9.q2;refine Uh (v:=.tuple #[.agg #[(),()],false]) pR rfl ?_;exact uy):=h
def KP(h:P:=by
 exact zi):=h
def nd(h:P:=by
 exact uy):=h
open Classical in
noncomputable def bu(l:List UInt8):Option (Int×Int):=if h:∃p:Int×Int,fE l p.1 p.2 then some h.choose else none
def mI{l}{a b}(h:fE l a b):bu l=some (a,b):=by
 have hx:∃p:Int×Int,fE l p.1 p.2:=⟨(a,b),h⟩
 unfold bu;rw[dif_pos hx];have h2:=fE.uniq hx.choose_spec h;exact congrArg some (Prod.ext h2.1 h2.2)
def jI{l}(h:∀a b,¬fE l a b):bu l=none:=by
 unfold bu;rw[XZ];rintro⟨p,G⟩;exact h _ _ G
def Ta{l}{p:Int×Int}(h:bu l=some p):fE l p.1 p.2:=by
 unfold bu at h;split at h
 .rename_i hx;cases h;exact hx.choose_spec
 .cases h
def oB:Option (Int×Int)->Value
 |some p=>.tuple #[.agg #[.int .i64 p.1,.int .i64 p.2],.bool true]
 |none=>.tuple #[.agg #[.int .i64 0,.int .i64 0],.bool false]
theorem qK(b:UInt8):∀(l) (p),p∈cU b l->p.length<=l.length
 |[],p,h=>by simp [cU] at h;subst h;simp
 |x::l,p,h=>by
  rw[ki] at h;split at h
  .rcases UM.1 h with h|h
   .subst h;simp
   .have:=qK b l p h;simp;omega
  .cases hc:cU b l with
   |nil=>exact absurd hc (tZ b l)
   |cons q g=>
    rw[hc] at h;simp only[jm,List.singleton_append,UM] at h;rcases h with h|h
    .have:=qK b l q (by rw[hc];simp);subst h;simp;omega
    .have:=qK b l p (by rw[hc];simp [h]);simp;omega
def tj(l):bF 10 l<10000000000:=by
 unfold bF;split
 .omega
 .rename_i h;simp at h;cases hd:Lib.decFrom 0 l with
  |none=>simp
  |some m=>
   have:=Lib.decFrom_lt l 0 m hd;have h2:10 ^ l.length<=10 ^ 10:=Vw o_ o_;simp only;omega
def uq{l}{a b}(h:fE l a b):l.length<=22/\((cU 47 l=[Lib.itoa a]/\b=1)\/cU 47 l=[Lib.itoa a,Lib.itoa b])/\ot (Lib.itoa a)=a/\bF 10 (Lib.itoa b)=b:=by
 obtain⟨h1,rfl⟩:=h;have⟨hb,ha⟩:=pa h1;refine⟨yo h1,?_,Qv ha,M1 hb⟩;by_cases I:b=1
 .subst I;exact .inl ⟨OJ,rfl⟩
 .exact .inr (QD I)
def Sm{α β:Type}{f:α->β}{xs:List α}(h:xs.length=1):xs.map f=[f (xs[0]'o_)]:=by
 match xs,h with
 |[x],_=>rfl
def D_{α β:Type}{f:α->β}{xs:List α}(h:xs.length=2):xs.map f=[f (xs[0]'o_),f (xs[1]'o_)]:=by
 match xs,h with
 |[x,y],_=>rfl
def iD{s t:aj}:(s.toList==t.toList)=true↔s.data.toList=t.data.toList:=by
 rw[VC,Uy,Uy]
def xd(s:aj)(hs:s.size<=100000000)(w:World):
 Rv 102 #[s] w (oB (bu s.data.toList)):=by
 have HS:Hid (∀W:World,Kp 61 #[s,.int .u8 47] W λe w'=>∃v,e=.returned v/\cH w' W v (bL s 47)/\Below W W w'):=h_ λW=>gz s 47 W hs;have b2:=oU s 47;have hl:s.data.toList.length=s.size:=UC;have c3:=(xE s 47).2;have cm:∀x∈bL s 47,x.size<=s.size:=λx hx=>by
  have:=qK 47 s.data.toList x.data.toList Ff;rw[hl] at this;rw[Lib.size_eq];exact this
 have⟨V,J⟩:=aw w #[(),()] 96;generalize bL s 47=xs at *;go_enter Tryz.func102,Tryz.ntmps102;go_upto_region 1 with fail
 generalize w.alloc _=W,bs:w.heap.size=rR at *;have bx:Hid (w.heap.size=rR):=bs;clear bs;go_wp2_with fail
 refine (HS.out _).mono ?_;rintro e w1 ⟨v,rfl,ov,I⟩;have lR:=V.lt;replace V:=V.next I
 have bb:=af I (Uo lR) J;have cu:=V.lt;obtain⟨la,a2,rfl,bo,hf⟩:=ov.form;clear ov HS I J lR;by_cases cy:22<s.size
 .have HN:Hid (bu s.data.toList=none):=h_ (jI λa b h=>by have:=(uq h).1;omega);have cb:(22:Int)<(s.size:Int):=o_;exact KE
 .have cb:¬(22:Int)<(s.size:Int):=o_;by_cases h2:2<xs.length
  .have HN:=h_ (jI λa b h=>by
    have hx:=congrArg List.length b2;rw[Wm] at hx;rcases (uq h).2.1 with ⟨h,_⟩|h
    .rw[h] at hx;simp at hx;omega
    .rw[h] at hx;simp at hx;omega)
   have ca:(2:Int)<(xs.length:Int):=o_;exact KE
  .have ca:¬(2:Int)<(xs.length:Int):=o_;obtain⟨g,rfl,q0,_,bq,_⟩:=hf 0 o_;have a6:=cm xs[0] (UA _);have b3:Hid (xs.length=1->cU 47 s.data.toList=[xs[0].data.toList]):=h_ λh=>by
    rw[<-b2];exact Sm h
   have b0:Hid (xs.length=2->∃x1,cU 47 s.data.toList=[xs[0].data.toList,x1.data.toList]/\x1.size<=s.size/\w1.cell? ⟨g,1,none⟩=some (.string x1)):=h_ λh=>by
    have⟨g',e1,q1,_⟩:=hf 1 o_;simp only[Vz,XR,and_true] at e1;subst e1;refine⟨xs[1],?_,cm _ (UA _),q1⟩;rw[<-b2];exact D_ h
   have ac:xs.length=1\/xs.length=2:=o_;have b8:(0:Int)<(xs.length:Int):=o_;clear hf b2 cm;generalize xs[0]=x0 at *;generalize xs.length=m at *;have a8:=h_ (tG x0 o_);have b5:=tj x0.data.toList;have cv:=oJ 10 x0.data.toList;have a3:ot x0.data.toList=if x0.data.toList.head?=some 45 then -(bF 10 x0.data.toList.tail) else bF 10 x0.data.toList:=rfl
   generalize bF 10 x0.data.toList=r0 at *;have a4:=h_ a3;clear a3;go_wp2_with fail
   refine (a8.out _).mono ?_;rintro e w2 ⟨rfl,rfl⟩;go_upto_region 5 with fail
   have kF:=ag.new w1 #[r0,(1:Int)] 96;replace V:=V.alloc (.cells #[r0,(1:Int)] 96);have ab:Below w1 w1 (w1.alloc (.cells #[r0,(1:Int)] 96)):=(Uk _ _).alloc (Ug _) _;have bZ:=cu;replace bb:=af ab (Uo bZ) bb;generalize w1.alloc _=W5 at *;have cs:=(ab.cell (p:=g) bq).trans q0;generalize w1.heap.size=rF at *;clear q0 a8;by_cases hz:0<x0.size
   .have hh:=t_ hz;have ax:(1:Int)<=(x0.size:Int):=o_;cases hq:((x0[0].toNat:Int)==45)
    .have aF:Hid (r0=ot x0.data.toList):=h_ (by
      rw[a4.out,Uj];rw[hh];intro h;injection h with h;rw[h] at hq;cases hq)
     clear hh a4;exact Lh
    .have b4:=λW=>tG (x0.extract 1 x0.size) u_ W;have e0:(x0.extract 1 x0.size).data.toList=x0.data.toList.tail:=by
      rw[Lib.extract_data,UP s_];simp
     rw[e0] at b4;have I:=tj x0.data.toList.tail;have U:=oJ 10 x0.data.toList.tail;have aF:Hid (-(bF 10 x0.data.toList.tail)=ot x0.data.toList):=h_ (by
      rw[a4.out,Um];rw[hh];have h9:=by simpa using hq
      exact congrArg some (Wn.1 (by show x0[0].toNat=45;omega)))
     clear hh a4 e0;generalize bF 10 x0.data.toList.tail=r1 at *;have a5:=h_ b4;have G:IntKind.i64.wrap (-r1)=-r1:=Vd _ o_;clear b4;obtain⟨n,hn⟩:∃n,n=-r1:=⟨_,rfl⟩
     have⟨F,Z⟩:=kF.q2;have bY:=kF.frozen 0;have bX:=kF.frozen 1;have aL:=kF.lt;have f9:=kF.set 0 (-r1:Int);have r9:=V.far (p:=rF) Ar (-r1:Int);have b9:Below rR w (W5.setCell rF (-r1:Int)):=bb.setCell Ad _;have x9:Below rF w1 (W5.setCell rF (-r1:Int)):=ab.setCell s_ _;go_wp2_with fail
     refine (a5.out _).mono ?_;rintro e w6 ⟨rfl,rfl⟩;go_upto_region 7 with fail
     generalize (World.setCell _ _ _)=W6 at f9 r9 b9 x9 ⊢;simp only[UK,UV,U1] at f9;rw[<-hn] at aF f9;clear F Z bY bX aL kF V bb ab cs hn;have kF:=f9;have V:=r9;have bb:=b9;have ab:=x9;clear f9 r9 b9 x9;rcases ac with ac|ac
     .have HK:Hid (∀a b,fE s.data.toList a b->n=a/\1=b):=h_ λa b h=>by
       exact Hz
      have a7:((m:Int)==2)=false:=u_;clear b3 b0 aF ac;have HG:=h_ (mS n (1));have⟨F,Z⟩:=kF.q2;have aL:=kF.lt;go_wp2_with fail
      refine ai (HG.out _) λwG H=>?_;have bp:=V.lt;replace kF:=kF.next H
      replace V:=V.next H
      have ae:=af H (Uo bp) bb;clear F Z aL HG H;cases aa:bJ n (1)
      .exact Kh
      .have HT:=h_ (oV n (1) aa);have⟨F,Z⟩:=kF.q2;have aL:=kF.lt;have aX:=h_ aa;clear aa;go_wp2_with fail
       refine ai (HT.out _) λwT K=>?_;have ba:=V.lt;replace kF:=kF.next K
       replace V:=V.next K
       have aG:=af K (Uo ba) ae;clear F Z aL HT K;have⟨F,Z⟩:=kF.q2;have aL:=kF.lt;cases hq:((aE n (1)).toList==s.toList)
       .have HN:=h_ (jI λa b h=>by
         have⟨h1,h2⟩:=HK.out a b h;have h3:((aE n (1)).toList==s.toList)=true:=iD.2 pD;rw[hq] at h3;cases h3)
        exact KP
       .have HN:Hid (bu s.data.toList=some (n,1)):=h_ (mI ⟨aX.out,by rw[<-mQ];exact iD.1 hq⟩);clear HK;have⟨bz,b1⟩:=V.q2;have aM:=V.frozen 0;have a1:=V.frozen 1;have az:=V.lt;have k9:=(V.set 0 n).set 1 (1:Int);have ad:Below rR w ((wT.setCell rR n).setCell ⟨rR,1,none⟩ (1:Int)):=(aG.setCell s_ _).setCell s_ _;go_wp2;generalize (World.setCell (World.setCell _ _ _) _ _)=w9 at k9 ad ⊢;have⟨q0,q1⟩:=k9.q2;refine Uh (v:=.tuple #[.agg #[n,(1:Int)],true]) pR rfl ?_;exact nd
     .have a7:((m:Int)==2)=true:=u_;have⟨x1,aZ,a9,q1⟩:=b0.out ac;have b4:=λW=>tG x1 o_ W;obtain⟨d,hd⟩:∃d:Int,bF 10 x1.data.toList=d:=⟨_,rfl⟩
      have HK:Hid (∀a b,fE s.data.toList a b->n=a/\d=b):=h_ λa b h=>by
       exact Ib
      have bv:=tj x1.data.toList;have b6:=oJ 10 x1.data.toList;rw[hd] at b4 bv b6;have a5:=h_ b4;have b7:=(ab.cell (p:=⟨g,1,none⟩) (by show g<_;omega)).trans q1;have cc:(1:Int)<(m:Int):=o_;have lF:=kF.lt;have co:=V.lt;clear b3 b0 aF hd aZ a9 q1 ac b4;have⟨F,Z⟩:=kF.q2;have bY:=kF.frozen 0;have bX:=kF.frozen 1;have aL:=kF.lt;have f9:=kF.set 1 d;have r9:=V.far (p:=⟨rF,1,none⟩) Ar d;have b9:Below rR w (W6.setCell ⟨rF,1,none⟩ d):=bb.setCell Ad _;go_wp2_with fail
      refine (a5.out _).mono ?_;rintro e w6 ⟨rfl,rfl⟩;go_upto_region 9 with fail
      generalize (World.setCell _ _ _)=W7 at f9 r9 b9 ⊢;simp only[UK,UV,U1] at f9;clear F Z bY bX aL kF V bb b7 ab;have kF:=f9;have V:=r9;have bb:=b9;clear f9 r9 b9;have HG:=h_ (mS n d);have⟨F,Z⟩:=kF.q2;have aL:=kF.lt;go_wp2_with fail
      refine ai (HG.out _) λwG H=>?_;have bp:=V.lt;replace kF:=kF.next H
      replace V:=V.next H
      have ae:=af H (Uo bp) bb;clear F Z aL HG H;cases aa:bJ n d
      .exact Kh
      .have HT:=h_ (oV n d aa);have⟨F,Z⟩:=kF.q2;have aL:=kF.lt;have aX:=h_ aa;clear aa;go_wp2_with fail
       refine ai (HT.out _) λwT K=>?_;have ba:=V.lt;replace kF:=kF.next K
       replace V:=V.next K
       have aG:=af K (Uo ba) ae;clear F Z aL HT K;have⟨F,Z⟩:=kF.q2;have aL:=kF.lt;cases hq:((aE n d).toList==s.toList)
       .have HN:=h_ (jI λa b h=>by
         have⟨h1,h2⟩:=HK.out a b h;have h3:((aE n d).toList==s.toList)=true:=iD.2 pD;rw[hq] at h3;cases h3)
        exact KP
       .have HN:Hid (bu s.data.toList=some (n,d)):=h_ (mI ⟨aX.out,by rw[<-mQ];exact iD.1 hq⟩);clear HK;have⟨bz,b1⟩:=V.q2;have aM:=V.frozen 0;have a1:=V.frozen 1;have az:=V.lt;have k9:=(V.set 0 n).set 1 d;have ad:Below rR w ((wT.setCell rR n).setCell ⟨rR,1,none⟩ d):=(aG.setCell s_ _).setCell s_ _;go_wp2;generalize (World.setCell (World.setCell _ _ _) _ _)=w9 at k9 ad ⊢;have⟨q0,q1⟩:=k9.q2;refine Uh (v:=.tuple #[.agg #[n,d],true]) pR rfl ?_;exact nd
   .have bi:¬(0:Int)<(x0.size:Int):=o_;have aF:Hid (r0=ot x0.data.toList):=h_ (by
     rw[a4.out,Uj];have:x0.data.toList=[]:=UX.1 (by have:x0.data.toList.length=x0.size:=UC;omega);rw[this];simp)
    clear a4;exact Lh
def zD(h:P:=by simp [results,Tryz.results89,go_sem,q0,q1]):=h
def zn(h:P:=by
 go_wp2;generalize (World.setCell (World.setCell _ _ _) _ _)=w9 at k9 ad ⊢;obtain⟨q0,q1⟩:=k9.q2;refine Uh (v:=.tuple #[.agg #[(),()],false]) zD rfl ?_;exact uB):=h
def JJ(h:P:=by
 have HN:Hid (bu s.data.toList=none):=h_ (jI λa b h=>by
  obtain⟨h1,h2⟩:=HK.out a b h;rw[h1,h2,h.1] at aa;cases aa)
 clear aa HK;obtain⟨bz,b1⟩:=V.q2;have aM:=V.frozen 0;have a1:=V.frozen 1;have az:=V.lt;have k9:=(V.set 0 ()).set 1 ();have ad:Below rR w ((wG.setCell ⟨rR,0,none⟩ ()).setCell ⟨rR,1,none⟩ ()):=(ae.setCell s_ _).setCell s_ _;exact zn):=h
def v_(h:P:=by
 replace bb:=af ab (Uo g) bb;go_upto_region 7 with fail
 generalize World.alloc _ _=W5 at *;obtain⟨bz,b1⟩:=V.q2;have aM:=V.frozen 0;have a1:=V.frozen 1;have az:=V.lt;have k9:=(V.set 0 ()).set 1 ();have ad:Below rR w ((W5.setCell ⟨rR,0,none⟩ ()).setCell ⟨rR,1,none⟩ ()):=(bb.setCell s_ _).setCell s_ _;exact zn):=h
def Kv(h:P:=by
 clear HK;obtain⟨bz,b1⟩:=V.q2;have aM:=V.frozen 0;have a1:=V.frozen 1;have az:=V.lt;have k9:=(V.set 0 ()).set 1 ();have ad:Below rR w ((wT.setCell ⟨rR,0,none⟩ ()).setCell ⟨rR,1,none⟩ ()):=(aG.setCell s_ _).setCell s_ _;exact zn):=h
def S8{l:List UInt8}{a b:Int}(h:fE l a b):((Lib.cut l [47]=(Lib.itoa a,[],false)/\b=1)\/Lib.cut l [47]=(Lib.itoa a,Lib.itoa b,true))/\Lib.atoiAll (Lib.itoa a)=.ok a/\Lib.atoiAll (Lib.itoa b)=.ok b:=by
 obtain⟨h1,rfl⟩:=h;obtain⟨hb,ha⟩:=pa h1;refine⟨?_,(qT ha).2,(qT (a:=b) o_).2⟩;by_cases I:b=1
 .subst I;exact .inl ⟨qH,rfl⟩
 .exact .inr (qU I)
def wt(s:aj)(hs:s.size<=1000000)(w:World)(hE:PEnv w):
 Rv 89 #[s] w (oB (bu s.data.toList)):=by
 have HC:=h_ (λW h=>Ey s 47 o_ W h);have cm:=EP s.data.toList 47;have hl:s.data.toList.length=s.size:=UC;have a6:=λa b (h:fE s.data.toList a b)=>S8 h;generalize Lib.cut s.data.toList [47]=cu at *;obtain⟨p,q,more⟩:=cu;simp only[Prod.mk.injEq] at HC cm a6;have HX:=h_ a6;clear a6;obtain⟨V,J⟩:=aw w #[(),()] 96;have hW:=h_ (hE.below J);clear hE;go_enter Tryz.func89,Tryz.ntmps89;go_upto_region 1 with fail
 generalize w.alloc _=W at *;generalize bs:w.heap.size=rR at *;have bx:Hid (w.heap.size=rR):=bs;clear bs;go_wp2_with fail
 refine ai (HC.out _ hW.out) λw1 I=>?_;have lR:=V.lt;replace V:=V.next I
 have bb:=af I (Uo lR) J;replace hW:=h_ (hW.out.below I);have bZ:=V.lt;clear HC I J lR;have ax:(⟨p.toArray⟩:aj).size<=1048576:=by show p.toArray.size<=_;simp;omega
 have G:(⟨q.toArray⟩:aj).size<=1048576:=by show q.toArray.size<=_;simp;omega
 rcases tQ p with ⟨n,hn⟩|hn
 .have HA:=h_ (tE ⟨p.toArray⟩ ax n hn);have b8:=Lib.atoiAll_bounds hn;have HP:Hid (∀a:Int,p=Lib.itoa a->Lib.atoiAll (Lib.itoa a)=.ok a->n=a):=h_ (λa h1 h2=>by
   rw[h1,h2] at hn;injection hn with hn;exact hn.symm)
  clear hn;go_wp2_with fail
  refine ai (HA.out _) λw2 U=>?_;replace V:=V.next U
  replace bb:=af U (Uo bZ) bb;replace hW:=h_ (hW.out.below U);have g:=V.lt;clear U bZ HA;cases more
  .have HK:Hid (∀a b,fE s.data.toList a b->n=a/\1=b):=h_ λa b h=>by
    obtain⟨h1,h2,_⟩:=HX.out a b h;rcases h1 with ⟨⟨h1,_,_⟩,h3⟩|⟨_,_,h1⟩
    .exact⟨HP.out a h1 h2,h3.symm⟩
    .cases h1
   clear HX HP cm ax G;have HG:=h_ (nq n (1));have kF:=ag.new w2 #[n,(1:Int)] 96;replace V:=V.alloc (.cells #[n,(1:Int)] 96);have ab:Below w2.heap.size w2 (w2.alloc (.cells #[n,(1:Int)] 96)):=(Uk _ _).alloc (Ug _) _;replace bb:=af ab (Uo g) bb;replace hW:=h_ (hW.out.below ab);go_upto_region 7 with fail
   generalize World.alloc _ _=W5 at *;generalize w2.heap.size=rF at *;obtain⟨F,Z⟩:=kF.q2;have aL:=kF.lt;go_wp2_with fail
   refine ai (HG.out _) λwG H=>?_;have bp:=V.lt;replace kF:=kF.next H
   replace V:=V.next H
   have ae:=af H (Uo bp) bb;replace hW:=h_ (hW.out.below H);clear F Z aL HG H ab;cases aa:bJ n (1)
   .exact JJ
   .have HT:=h_ (λW ht=>qh n (1) aa W ht);obtain⟨F,Z⟩:=kF.q2;have aL:=kF.lt;have aX:=h_ aa;clear aa;go_wp2_with fail
    refine ai (HT.out _ hW.out.1) λwT K=>?_;have ba:=V.lt;replace kF:=kF.next K
    replace V:=V.next K
    have aG:=af K (Uo ba) ae;clear F Z aL HT K;obtain⟨F,Z⟩:=kF.q2;have aL:=kF.lt;cases hq:((aE n (1)).toList==s.toList)
    .have HN:Hid (bu s.data.toList=none):=h_ (jI λa b h=>by
      obtain⟨h1,h2⟩:=HK.out a b h;have h3:((aE n (1)).toList==s.toList)=true:=iD.2 pD;rw[hq] at h3;cases h3)
     exact Kv
    .have HN:Hid (bu s.data.toList=some (n,1)):=h_ (mI ⟨aX.out,by rw[<-mQ];exact iD.1 hq⟩);clear HK;obtain⟨bz,b1⟩:=V.q2;have aM:=V.frozen 0;have a1:=V.frozen 1;have az:=V.lt;have k9:=(V.set 0 n).set 1 (1:Int);have ad:Below rR w ((wT.setCell ⟨rR,0,none⟩ n).setCell ⟨rR,1,none⟩ (1:Int)):=(aG.setCell s_ _).setCell s_ _;go_wp2;generalize (World.setCell (World.setCell _ _ _) _ _)=w9 at k9 ad ⊢;obtain⟨q0,q1⟩:=k9.q2;refine Uh (v:=.tuple #[.agg #[n,(1:Int)],true]) zD rfl ?_;exact nd
  .rcases tQ q with ⟨d,hd⟩|hd
   .have a2:=h_ (tE ⟨q.toArray⟩ G d hd);have bv:=Lib.atoiAll_bounds hd;have HK:Hid (∀a b,fE s.data.toList a b->n=a/\d=b):=h_ λa b h=>by
     obtain⟨h1,h2,h3⟩:=HX.out a b h;rcases h1 with ⟨⟨_,_,h1⟩,_⟩|⟨h1,h4,_⟩
     .cases h1
     .refine⟨HP.out a h1 h2,?_⟩;rw[h4,h3] at hd;injection hd with hd;exact hd.symm
    clear HX HP cm ax G hd;go_wp2_with fail
    refine ai (a2.out _) λw3 aF=>?_;replace V:=V.next aF
    replace bb:=af aF (Uo g) bb;replace hW:=h_ (hW.out.below aF);clear g;have g:=V.lt;clear aF a2;have HG:=h_ (nq n d);have kF:=ag.new w3 #[n,d] 96;replace V:=V.alloc (.cells #[n,d] 96);have ab:Below w3.heap.size w3 (w3.alloc (.cells #[n,d] 96)):=(Uk _ _).alloc (Ug _) _;replace bb:=af ab (Uo g) bb;replace hW:=h_ (hW.out.below ab);go_upto_region 7 with fail
    generalize World.alloc _ _=W5 at *;generalize w3.heap.size=rF at *;obtain⟨F,Z⟩:=kF.q2;have aL:=kF.lt;go_wp2_with fail
    refine ai (HG.out _) λwG H=>?_;have bp:=V.lt;replace kF:=kF.next H
    replace V:=V.next H
    have ae:=af H (Uo bp) bb;replace hW:=h_ (hW.out.below H);clear F Z aL HG H ab;cases aa:bJ n d
    .exact JJ
    .have HT:=h_ (λW ht=>qh n d aa W ht);obtain⟨F,Z⟩:=kF.q2;have aL:=kF.lt;have aX:=h_ aa;clear aa;go_wp2_with fail
     refine ai (HT.out _ hW.out.1) λwT K=>?_;have ba:=V.lt;replace kF:=kF.next K
     replace V:=V.next K
     have aG:=af K (Uo ba) ae;clear F Z aL HT K;obtain⟨F,Z⟩:=kF.q2;have aL:=kF.lt;cases hq:((aE n d).toList==s.toList)
     .have HN:Hid (bu s.data.toList=none):=h_ (jI λa b h=>by
       obtain⟨h1,h2⟩:=HK.out a b h;have h3:((aE n d).toList==s.toList)=true:=iD.2 pD;rw[hq] at h3;cases h3)
      exact Kv
     .have HN:Hid (bu s.data.toList=some (n,d)):=h_ (mI ⟨aX.out,by rw[<-mQ];exact iD.1 hq⟩);clear HK;obtain⟨bz,b1⟩:=V.q2;have aM:=V.frozen 0;have a1:=V.frozen 1;have az:=V.lt;have k9:=(V.set 0 n).set 1 d;have ad:Below rR w ((wT.setCell ⟨rR,0,none⟩ n).setCell ⟨rR,1,none⟩ d):=(aG.setCell s_ _).setCell s_ _;go_wp2;generalize (World.setCell (World.setCell _ _ _) _ _)=w9 at k9 ad ⊢;obtain⟨q0,q1⟩:=k9.q2;refine Uh (v:=.tuple #[.agg #[n,d],true]) zD rfl ?_;exact nd
   .have a2:=h_ (λW h=>tf ⟨q.toArray⟩ G hd W h);have HN:Hid (bu s.data.toList=none):=h_ (jI λa b h=>by
     obtain⟨h1,h2,h3⟩:=HX.out a b h;rcases h1 with ⟨⟨_,_,h1⟩,_⟩|⟨h1,h4,_⟩
     .cases h1
     .rw[h4] at hd;exact hd _ h3)
    clear HX HP cm ax G hd;go_wp2_with fail
    refine (a2.out _ hW.out).mono ?_;rintro e w3 ⟨y,ac,aZ,rfl,aF⟩;replace V:=V.next aF
    replace bb:=af aF (Uo g) bb;replace hW:=h_ (hW.out.below aF);clear g;have g:=V.lt;clear aF a2;have kF:=ag.new w3 #[n,y] 96;replace V:=V.alloc (.cells #[n,y] 96);have ab:Below w3.heap.size w3 (w3.alloc (.cells #[n,y] 96)):=(Uk _ _).alloc (Ug _) _;exact v_
 .have HA:=h_ (λW h=>tf ⟨p.toArray⟩ ax hn W h);have HN:Hid (bu s.data.toList=none):=h_ (jI λa b h=>by
   obtain⟨h1,h2,_⟩:=HX.out a b h;rcases h1 with ⟨⟨h1,_,_⟩,_⟩|⟨h1,_,_⟩
   .rw[h1] at hn;exact hn _ h2
   .rw[h1] at hn;exact hn _ h2)
  clear HX hn cm ax;go_wp2_with fail
  refine (HA.out _ hW.out).mono ?_;rintro e w2 ⟨x,tp,pp,rfl,U⟩;replace V:=V.next U
  replace bb:=af U (Uo bZ) bb;replace hW:=h_ (hW.out.below U);have g:=V.lt;clear U bZ HA;cases more
  .
    have kF:=ag.new w2 #[x,(1:Int)] 96;replace V:=V.alloc (.cells #[x,(1:Int)] 96);have ab:Below w2.heap.size w2 (w2.alloc (.cells #[x,(1:Int)] 96)):=(Uk _ _).alloc (Ug _) _;exact v_
  .rcases tQ q with ⟨d,hd⟩|hd
   .have a2:=h_ (tE ⟨q.toArray⟩ G d hd);have bv:=Lib.atoiAll_bounds hd;clear G hd;go_wp2_with fail
    refine ai (a2.out _) λw3 aF=>?_;replace V:=V.next aF
    replace bb:=af aF (Uo g) bb;replace hW:=h_ (hW.out.below aF);clear g;have g:=V.lt;clear aF a2;have kF:=ag.new w3 #[x,d] 96;replace V:=V.alloc (.cells #[x,d] 96);have ab:Below w3.heap.size w3 (w3.alloc (.cells #[x,d] 96)):=(Uk _ _).alloc (Ug _) _;exact v_
   .have a2:=h_ (λW h=>tf ⟨q.toArray⟩ G hd W h);clear G hd;go_wp2_with fail
    refine (a2.out _ hW.out).mono ?_;rintro e w3 ⟨y,ac,aZ,rfl,aF⟩;replace V:=V.next aF
    replace bb:=af aF (Uo g) bb;replace hW:=h_ (hW.out.below aF);clear g;have g:=V.lt;clear aF a2;have kF:=ag.new w3 #[x,y] 96;replace V:=V.alloc (.cells #[x,y] 96);have ab:Below w3.heap.size w3 (w3.alloc (.cells #[x,y] 96)):=(Uk _ _).alloc (Ug _) _;exact v_
def uY(h:P:=by simp [results,Tryz.results101,go_sem]):=h
def Ag(h:P:=by simp [results,Tryz.results85,go_sem]):=h
open Classical in
noncomputable def jn(l:List UInt8):Option Int:=if h:∃n:Int,fB l n then some h.choose else none
def Cu{l}{n}(h:fB l n):jn l=some n:=by
 have hx:∃n:Int,fB l n:=⟨n,h⟩
 unfold jn;rw[dif_pos hx];exact congrArg some (fB.uniq hx.choose_spec h)
def Cp{l}(h:∀n,¬fB l n):jn l=none:=by
 unfold jn;rw[XZ];rintro⟨p,G⟩;exact h _ G
def gj(l:List UInt8)(v:Value):Prop:=∃n:Int,v=.tuple #[n,.bool (jn l).isSome]/\(∀m,jn l=some m->n=m)
def Cm(n):(aC n).data.toList=Lib.itoa n:=rfl
def gj.some{l}{n}(h:fB l n):gj l (.tuple #[n,true]):=by
 refine⟨n,?_,?_⟩
 .rw[Cu h];rfl
 .intro m hm;rw[Cu h] at hm;exact VM hm
def gj.none{l}{n:Int}(h:∀m,¬fB l m):gj l (.tuple #[n,false]):=by
 refine⟨n,?_,?_⟩
 .rw[Cp h];rfl
 .intro m hm;rw[Cp h] at hm;cases hm
def BB(l):bF 6 l<1000000:=by
 unfold bF;split
 .omega
 .rename_i h;simp at h;cases hd:Lib.decFrom 0 l with
  |none=>simp
  |some m=>
   have:=Lib.decFrom_lt l 0 m hd;have h2:10 ^ l.length<=10 ^ 6:=Vw o_ o_;simp only;omega
def BL(s:aj)(hs:s.size<=100000000)(w):
 Kp 101 #[s] w λe w'=>∃v,e=.returned v/\gj s.data.toList v/\w=w':=by
 have hl:s.data.toList.length=s.size:=UC;have F:=h_ (Ce s hs);have J:=BB s.data.toList;have I:=oJ 6 s.data.toList;have HP:Hid (0<=bF 6 s.data.toList/\bF 6 s.data.toList<=99999->fB s.data.toList (bF 6 s.data.toList)):=h_ P1;have HQ:Hid ((s.data.toList.head?≠some 45\/s.data.toList.length<=1)->¬(0<=bF 6 s.data.toList/\bF 6 s.data.toList<=99999)->∀n,¬fB s.data.toList n):=h_ Tg;generalize bF 6 s.data.toList=r0 at *;have HI:=h_ (cw r0 0 99999);by_cases hg:1<s.size
 .have hh:=t_ (s:=s) o_;have bi:(0:Int)<(s.size:Int):=o_;have ax:(1:Int)<(s.size:Int):=o_;have a8:(1:Int)<=(s.size:Int):=o_;cases hq:((s[0].toNat:Int)==45)
  .have hne:s.data.toList.head?≠some 45:=by
    rw[hh];intro h;injection h with h;rw[h] at hq;cases hq
   go_enter Tryz.func101,Tryz.ntmps101;go_wp2_with fail
   refine (F.out _).mono ?_;rintro e w1 ⟨rfl,rfl⟩;go_wp2_with fail
   refine (HI.out _).mono ?_;rintro e w2 ⟨rfl,rfl⟩;go_wp2;refine Uh (v:=.tuple #[r0,.bool (av r0 0 99999)]) uY rfl ⟨_,rfl,?_,rfl⟩;cases hi:av r0 0 99999
   .exact gj.none (HQ.out (.inl hne) (λh=>by rw[show av r0 0 99999=true by unfold av;simp;omega] at hi;cases hi))
   .exact gj.some (HP.out (bH hi))
  .have g:s.data.toList=45::s.data.toList.tail:=by
    have h9:=by simpa using hq
    have:s[0]=45:=Wn.1 (by show s[0].toNat=45;omega);rw[this] at hh;cases hc:s.data.toList with
    |nil=>rw[hc] at hh;cases hh
    |cons x xs=>rw[hc] at hh;simp at hh;simp [hh]
   have b4:=λW=>Ce (s.extract 1 s.size) u_ W;have e0:(s.extract 1 s.size).data.toList=s.data.toList.tail:=by
    rw[Lib.extract_data,UP s_];simp
   rw[e0] at b4;have U:=BB s.data.toList.tail;have aF:=oJ 6 s.data.toList.tail;have b5:Hid (bF 6 s.data.toList.tail<=0\/100000<=bF 6 s.data.toList.tail->∀n,¬fB s.data.toList n):=h_ λh n hn=>by
    rw[g] at hn;exact Rp h n (Q0 hn) hn
   have a6:Hid (0<bF 6 s.data.toList.tail/\bF 6 s.data.toList.tail<=99999->fB s.data.toList (-(bF 6 s.data.toList.tail))):=h_ λh=>by
    have:=O3 h;rwa [<-g] at this
   generalize bF 6 s.data.toList.tail=r1 at *;have G:IntKind.i64.wrap (-r1)=-r1:=Vd _ o_;have HR:=h_ b4;by_cases hr:0<=-r1
   .go_enter Tryz.func101,Tryz.ntmps101;go_wp2_with fail
    refine (F.out _).mono ?_;rintro e w1 ⟨rfl,rfl⟩;go_wp2_with fail
    refine (HR.out _).mono ?_;rintro e w2 ⟨rfl,rfl⟩;go_wp2;exact Uh (v:=.tuple #[(),false]) uY rfl ⟨_,rfl,gj.none (b5.out o_),rfl⟩
   .go_enter Tryz.func101,Tryz.ntmps101;go_wp2_with fail
    refine (F.out _).mono ?_;rintro e w1 ⟨rfl,rfl⟩;go_wp2_with fail
    refine (HR.out _).mono ?_;rintro e w2 ⟨rfl,rfl⟩;go_wp2;refine Uh (v:=.tuple #[(-r1:Int),decide (-99999<=-r1)]) uY rfl ⟨_,rfl,?_,rfl⟩;by_cases hi:-99999<=-r1
    .rw[V2 hi];exact gj.some (a6.out o_)
    .rw[Vb hi];exact gj.none (b5.out o_)
 .have ax:¬(1:Int)<(s.size:Int):=o_;go_enter Tryz.func101,Tryz.ntmps101;go_wp2_with fail
  refine (F.out _).mono ?_;rintro e w1 ⟨rfl,rfl⟩;go_wp2_with fail
  refine (HI.out _).mono ?_;rintro e w2 ⟨rfl,rfl⟩;go_wp2;refine Uh (v:=.tuple #[r0,.bool (av r0 0 99999)]) uY rfl ⟨_,rfl,?_,rfl⟩;cases hi:av r0 0 99999
  .exact gj.none (HQ.out (.inr o_) (λh=>by rw[show av r0 0 99999=true by unfold av;simp;omega] at hi;cases hi))
  .exact gj.some (HP.out (bH hi))
def qi(s:aj)(hs:s.size<=1000000)(w)(hE:PEnv w):
 Kp 85 #[s] w λe w'=>∃v,e=.returned v/\gj s.data.toList v/\Below w w w':=by
 rcases tQ s.data.toList with ⟨n,hn⟩|hn
 .have HA:=h_ (tE s o_ n hn);have b8:=Lib.atoiAll_bounds hn;have HK:Hid (∀m,fB s.data.toList m->n=m):=h_ λm h=>by
   have h2:=(qT (a:=m) (by have:=h.1;omega)).2;rw[h.2,hn] at h2;injection h2
  go_enter Tryz.func85,Tryz.ntmps85;go_wp2_with fail
  refine ai (HA.out _) λw1 I=>?_;go_wp2_with fail
  refine ((h_ (cR n (-99999) 99999)).out _).mono ?_;rintro e w2 ⟨rfl,rfl⟩;cases hi:av n (-99999) 99999
  .have HN:=h_ (gj.none (l:=s.data.toList) (n:=n) (λm h=>by
    have h1:=HK.out m h;subst h1;rw[show av n (-99999) 99999=true by have:=h.1;unfold av;simp;omega] at hi;cases hi))
   go_wp2;exact Uh (v:=.tuple #[n,false]) Ag rfl ⟨_,rfl,HN.out,I⟩
  .go_wp2_with fail
   refine ai ((h_ (λW h=>oZ n o_ o_ W h)).out _ (h_ (hE.below I)).out) λw2 U=>?_;go_wp2;refine Uh (v:=.tuple #[n,.bool ((aC n).toList==s.toList)]) Ag rfl ⟨_,rfl,?_,af U I.size I⟩;cases hq:((aC n).toList==s.toList)
   .exact gj.none (λm h=>by
     have h1:=HK.out m h;subst h1;have h2:=h.2;rw[iD.2 (by rw[Cm];exact h2)] at hq;cases hq)
   .exact gj.some ⟨bH hi,by rw[<-iD.1 hq,Cm]⟩
 .have HN:=h_ (λn=>gj.none (l:=s.data.toList) (n:=n) (λm h=>by
   have h2:=(qT (a:=m) (by have:=h.1;omega)).2;rw[h.2] at h2;exact hn _ h2))
  go_enter Tryz.func85,Tryz.ntmps85;go_wp2_with fail
  refine ((h_ (λW h=>tf s o_ hn W h)).out _ hE).mono ?_;rintro e w1 ⟨x,tp,q,rfl,I⟩;go_wp2;exact Uh (v:=.tuple #[x,false]) Ag rfl ⟨_,rfl,HN.out _,I⟩
def Am(h:P:=by simp [results,Tryz.results87,go_sem,q0,q1,q2]):=h
def EV(h:P:=by
 go_wp2;generalize (World.setCell (World.setCell (World.setCell _ _ _) _ _) _ _)=w9 at k9 ad ⊢;obtain⟨q0,q1,q2⟩:=k9.q3;refine Uh (v:=.tuple #[.agg #[(),(),()],false]) Am rfl ?_;exact uB):=h
def AD(h:P:=by
 replace HN:Hid (dM A B s.data.toList=none):=h_ (HN.out s_);clear HK;obtain⟨bz,b1,b3⟩:=V.q3;have aM:=V.frozen 0;have a1:=V.frozen 1;have a9:=V.frozen 2;have az:=V.lt;have k9:=((V.set 0 ()).set 1 ()).set 2 ();have ad:Below rC w (((W7.setCell ⟨rR,0,none⟩ ()).setCell ⟨rR,1,none⟩ ()).setCell ⟨rR,2,none⟩ ()):=((bb.setCell u_ _).setCell u_ _).setCell u_ _;exact EV):=h
def Ju(h:P:=by
 exact EV):=h
open Classical in
noncomputable def dM(A B:Int)(l:List UInt8):Option P3:=if h:∃p:P3,gg A B l p.1 p.2.1 p.2.2 then some h.choose else none
def tI{A B:Int}{l:List UInt8}{X Y E:Int}(h:gg A B l X Y E):dM A B l=some (X,Y,E):=by
 have hx:∃p:P3,gg A B l p.1 p.2.1 p.2.2:=⟨(X,Y,E),h⟩
 unfold dM;rw[dif_pos hx];obtain⟨h1,h2,h3⟩:=gg.uniq hx.choose_spec h;exact congrArg some (Prod.ext h1 (Prod.ext h2 h3))
def lf{A B:Int}{l:List UInt8}(h:∀X Y E,¬gg A B l X Y E):dM A B l=none:=by
 unfold dM;rw[XZ];rintro⟨p,G⟩;exact h _ _ _ G
def S3{A B:Int}{l:List UInt8}{p:P3}(h:dM A B l=some p):bW A B p:=by
 unfold dM at h;split at h
 .rename_i hx;cases h;exact hx.choose_spec.1
 .cases h
def zS{A B X Y E:Int}(h:dN A B X Y E=true):bW A B (X,Y,E):=by
 unfold dN at h;simp only[V9,Ux,VC] at h;rcases h with ⟨⟨h1,h2⟩,h3⟩|h
 .exact .inl ⟨h1,h2,h3⟩
 .unfold jS at h;simp only[Ux,VC] at h;exact .inr ⟨bH h.1.1.1.1,bH h.1.1.1.2,h.1.1.2,bH h.1.2,h.2⟩
def uI{A B X Y E:Int}(h:bW A B (X,Y,E)):dN A B X Y E=true:=by
 unfold dN;rcases h with ⟨h1,h2,h3⟩|⟨h1,h2,h3,h4,h5⟩
 .simp only at h1 h2 h3;subst h1 h2 h3;rfl
 .simp only at h1 h2 h3 h4 h5;unfold jS av;simp only[V9,Ux,VC,UW];exact .inr ⟨⟨⟨⟨h1,h2⟩,h3⟩,h4⟩,h5⟩
def yq{A B:Int}{l:List UInt8}{X Y E:Int}(h:gg A B l X Y E)(hO:l≠[79]):(1<=E/\E<=20)/\l=40::(gw X Y E++[41])/\(5<=l.length/\l.length<=60)/\bu (cW X (E*E))=some (X,E*E)/\bu (cW Y (E*E*E))=some (Y,E*E*E)/\ce (E*E)=true/\ap (E*E)=E:=by
 obtain⟨G,rfl⟩:=h;rcases G with ⟨h1,h2,h3⟩|hf
 .exact absurd (by unfold it;rw[Um h3]) hO
 .have hE:=hf.2.1;obtain⟨f1,f2⟩:=pi hf;have hl:=DK hf;refine⟨hE,?_,hl,mI ⟨f1,rfl⟩,mI ⟨f2,rfl⟩,yQ E,uh o_⟩;unfold it;rw[Uj o_]
def il(r:Option (Int×Int)):Int:=match r with|some p=>p.1|none=>0
def gp(r:Option (Int×Int)):Int:=match r with|some p=>p.2|none=>0
def B9(r:Option (Int×Int)):oB r=.tuple #[.agg #[il r,gp r],r.isSome]:=by
 cases r<;>rfl
def uk(l:List UInt8):(-1000000000<=il (bu l)/\il (bu l)<=1000000000)/\(0<=gp (bu l)/\gp (bu l)<=1000000000):=by
 cases h:bu l with
 |none=>simp [il,gp]
 |some p=>
  have:=pa (Ta h).1;simp only[il,gp];omega
def MK(A B:Int)(s:aj)(hC:be A B=true)(hs:s.size<=1000000)(w:World)(hE:PEnv w):
 Rv 87 #[.agg #[A,B],s] w (cj (dM A B s.data.toList)):=by
 obtain⟨kC,V,J⟩:=cr w #[A,B] 42 #[(),(),()] 46;have hW:=h_ (hE.below J);clear hE;have hl:s.data.toList.length=s.size:=UC;by_cases hO:s.data.toList=[79]
 .have hq:(s.toList==[79])=true:=by rw[Uy,hO];rfl
  have HN:Hid (dM A B s.data.toList=some (0,0,0)):=h_ (tI ⟨.inl ⟨rfl,rfl,rfl⟩,by rw[hO];rfl⟩);clear hO;go_enter Tryz.func87,Tryz.ntmps87;go_upto_region 1 with fail
  generalize (w.alloc _).alloc _=W at *;have h2:w.heap.size<w.heap.size+1:=o_;generalize w.heap.size+1=rR at *;generalize bs:w.heap.size=rC at *;have bx:Hid (w.heap.size=rC):=bs;clear bs;obtain⟨bz,b1,b3⟩:=V.q3;have aM:=V.frozen 0;have a1:=V.frozen 1;have a9:=V.frozen 2;have az:=V.lt;have k9:=((V.set 0 ()).set 1 ()).set 2 ();have ad:Below rC w (((W.setCell ⟨rR,0,none⟩ ()).setCell ⟨rR,1,none⟩ ()).setCell ⟨rR,2,none⟩ ()):=((J.setCell u_ _).setCell u_ _).setCell u_ _;go_wp2;generalize (World.setCell (World.setCell (World.setCell _ _ _) _ _) _ _)=w9 at k9 ad ⊢;obtain⟨q0,q1,q2⟩:=k9.q3;refine Uh (v:=.tuple #[.agg #[(),(),()],true]) Am rfl ?_;exact nd
 .have hq:(s.toList==[79])=false:=by rw[Uy,Uz];exact hO
  have aX:=Lib.trimPrefix_le s.data.toList [40];have ax:=Lib.trimSuffix_le (Lib.trimPrefix s.data.toList [40]) [41];have H:=EP (Lib.trimSuffix (Lib.trimPrefix s.data.toList [40]) [41]) 44;have ae:∀X Y E,gg A B s.data.toList X Y E->(1<=E/\E<=20)/\Lib.cut (Lib.trimSuffix (Lib.trimPrefix s.data.toList [40]) [41]) [44]=(cW X (E*E),cW Y (E*E*E),true)/\bu (cW X (E*E))=some (X,E*E)/\bu (cW Y (E*E*E))=some (Y,E*E*E)/\ce (E*E)=true/\ap (E*E)=E:=λX Y E h=>by
   obtain⟨h1,h2,_,h4,h5,h6,h7⟩:=yq h hO;refine⟨h1,?_,h4,h5,h6,h7⟩;have ht:Lib.trimSuffix (Lib.trimPrefix s.data.toList [40]) [41]=gw X Y E:=by
    have:=xD (X:=X) (Y:=Y) (E:=E) o_;rw[h.2] at this;exact this
   rw[ht,yc]
  have aG:=h_ (QB s 40);have aF:=h_ (xK ⟨(Lib.trimPrefix s.data.toList [40]).toArray⟩ 41 (by show (Lib.trimPrefix s.data.toList [40]).toArray.size<=_;simp;omega));have ac:=h_ (λW h=>Ey ⟨(Lib.trimSuffix (Lib.trimPrefix s.data.toList [40]) [41]).toArray⟩ 44 (by show (Lib.trimSuffix (Lib.trimPrefix s.data.toList [40]) [41]).toArray.size<=_;simp;omega) W h);generalize Lib.trimPrefix s.data.toList [40]=t1 at *;generalize Lib.trimSuffix t1 [41]=t2 at *;generalize Lib.cut t2 [44]=cu at *;obtain⟨f,g,more⟩:=cu;simp only[Prod.mk.injEq] at ac H ae;have HX:=h_ (λW h=>wt ⟨f.toArray⟩ (by show f.toArray.size<=_;simp;omega) W h);have HY:=h_ (λW h=>wt ⟨g.toArray⟩ (by show g.toArray.size<=_;simp;omega) W h);have ab:=uk f;have cv:=uk g;have hK:∀X Y E,gg A B s.data.toList X Y E->(bu f).isSome=true/\(bu g).isSome=true/\ce (gp (bu f))=true/\il (bu f)=X/\il (bu g)=Y/\ap (gp (bu f))=E:=λX Y E h=>by
   obtain⟨h1,⟨h2,h3,_⟩,h4,h5,h6,h7⟩:=ae X Y E h;rw[h2,h3,h4,h5];exact⟨rfl,rfl,h6,rfl,rfl,h7⟩
  simp only[B9] at HX HY;have cB:=h_ (wI (gp (bu f)) o_);have cF:∀X Y E,gg A B s.data.toList X Y E->((bu f).isSome=true/\(bu g).isSome=true/\ce (gp (bu f))=true)/\il (bu f)=X/\il (bu g)=Y/\(if ce (gp (bu f))=true then ap (gp (bu f)) else 0)=E:=λX Y E h=>by
   obtain⟨h1,h2,h3,h4,h5,h6⟩:=hK X Y E h;exact⟨⟨h1,h2,h3⟩,h4,h5,by rw[Um h3];exact h6⟩
  clear hK ae;generalize bu f=fx at *;generalize bu g=fy at *;generalize il fx=X at *;generalize il fy=Y at *;generalize fx.isSome=one at *;generalize fy.isSome=two at *;generalize gp fx=b at *;generalize gp fy=d at *;generalize (if ce b=true then ap b else 0)=G at *;generalize ce b=three at *;have HK:=h_ cF;have HC:=h_ hC;clear cF hC aX ax H ab cv hO hs hl;go_enter Tryz.func87,Tryz.ntmps87;go_upto_region 1 with fail
  generalize (w.alloc _).alloc _=W at *;have h2:w.heap.size<w.heap.size+1:=o_;generalize w.heap.size+1=rR at *;generalize bs:w.heap.size=rC at *;have bx:Hid (w.heap.size=rC):=bs;clear bs;go_wp2_with fail
  refine (aG.out _).mono ?_;rintro e w1 ⟨rfl,rfl⟩;go_wp2_with fail
  refine (aF.out _).mono ?_;rintro e w1 ⟨rfl,rfl⟩;go_wp2_with fail
  refine ai (ac.out _ hW.out) λw1 I=>?_;have lC:=kC.lt;replace kC:=kC.next I
  replace V:=V.next I
  have bb:=af I (Uo lC) J;replace hW:=h_ (hW.out.below I);clear lC J I aG aF ac;have lC:=kC.lt;go_wp2_with fail
  refine ai (HX.out _ hW.out) λw2 U=>?_;replace kC:=kC.next U
  replace V:=V.next U
  replace bb:=af U (Uo lC) bb;replace hW:=h_ (hW.out.below U);clear lC U HX;have lC:=kC.lt;have kF:=ag.new w2 #[X,b] 96;replace V:=V.alloc (.cells #[X,b] 96);replace kC:=kC.alloc (.cells #[X,b] 96);have ab:Below w2.heap.size w2 (w2.alloc (.cells #[X,b] 96)):=(Uk _ _).alloc (Ug _) _;replace bb:=af ab (Uo lC) bb;replace hW:=h_ (hW.out.below ab);clear ab lC;have lC:=kC.lt;go_upto_region 5 with fail
  generalize World.alloc _ _=W3 at *;generalize w2.heap.size=rF at *;go_wp2_with fail
  refine ai (HY.out _ hW.out) λw4 K=>?_;have lF:=kF.lt;replace kF:=kF.next K
  replace kC:=kC.next K
  replace V:=V.next K
  replace bb:=af K (Uo lC) bb;replace hW:=h_ (hW.out.below K);clear lC lF K HY;have lC:=kC.lt;have kG:=ag.new w4 #[Y,d] 96;replace V:=V.alloc (.cells #[Y,d] 96);replace kC:=kC.alloc (.cells #[Y,d] 96);replace kF:=kF.alloc (.cells #[Y,d] 96);have ab:Below w4.heap.size w4 (w4.alloc (.cells #[Y,d] 96)):=(Uk _ _).alloc (Ug _) _;replace bb:=af ab (Uo lC) bb;replace hW:=h_ (hW.out.below ab);clear ab lC;have lC:=kC.lt;go_upto_region 6 with fail
  generalize World.alloc _ _=W5 at *;generalize w4.heap.size=rG at *;obtain⟨F,Z⟩:=kF.q2;have aL:=kF.lt;go_wp2_with fail
  refine (cB.out _).mono ?_;rintro e w6 ⟨rfl,rfl⟩;have kP:=ag.new W5 #[X,Y,G] 46;replace V:=V.alloc (.cells #[X,Y,G] 46);replace kC:=kC.alloc (.cells #[X,Y,G] 46);have ab:Below W5.heap.size W5 (W5.alloc (.cells #[X,Y,G] 46)):=(Uk _ _).alloc (Ug _) _;replace bb:=af ab (Uo lC) bb;replace hW:=h_ (hW.out.below ab);go_upto_region 7 with fail
  obtain⟨cT,cZ⟩:=kG.q2;have cP:=kG.lt;go_upto_region 8 with fail
  generalize World.alloc _ _=W7 at *;generalize W5.heap.size=rP at *;clear F Z aL cT cZ cP ab lC kF kG cB;have HN:Hid (¬(one=true/\two=true/\three=true)->dM A B s.data.toList=none):=h_ λh1=>lf λx y e h=>h1 (HK.out _ _ _ h).1;cases one
  .exact AD
  .cases two
   .exact AD
   .cases three
    .exact AD
    .clear HN;have HI:=h_ (xk A B X Y G HC.out);obtain⟨a4,a3⟩:=kC.q2;have a5:=kC.lt;obtain⟨bY,bZ,bX⟩:=kP.q3;have b0:=kP.lt;go_wp2_with fail
     refine ai (HI.out _) λw8 ca=>?_;have lC:=kC.lt;replace kC:=kC.next ca
     replace kP:=kP.next ca
     replace V:=V.next ca
     replace bb:=af ca (Uo lC) bb;replace hW:=h_ (hW.out.below ca);clear a4 a3 a5 bY bZ bX b0 ca HI;cases aa:dN A B X Y G
     .have HN:Hid (dM A B s.data.toList=none):=h_ (lf λx y e h=>by
       obtain⟨_,h1,h2,h3⟩:=HK.out _ _ _ h;subst h1 h2 h3;rw[uI h.1] at aa;cases aa)
      clear aa HK;obtain⟨bz,b1,b3⟩:=V.q3;have aM:=V.frozen 0;have a1:=V.frozen 1;have a9:=V.frozen 2;have az:=V.lt;have k9:=((V.set 0 ()).set 1 ()).set 2 ();have ad:Below rC w (((w8.setCell ⟨rR,0,none⟩ ()).setCell ⟨rR,1,none⟩ ()).setCell ⟨rR,2,none⟩ ()):=((bb.setCell u_ _).setCell u_ _).setCell u_ _;exact Ju
     .have HP:=h_ (zS aa);clear aa;have HT:=h_ (λW ht=>Bj A B X Y G HP.out W ht);obtain⟨bY,bZ,bX⟩:=kP.q3;have b0:=kP.lt;go_wp2_with fail
      refine ai (HT.out _ hW.out.1) λw9 aZ=>?_;replace lC:=kC.lt;replace kP:=kP.next aZ
      replace V:=V.next aZ
      replace bb:=af aZ (Uo lC) bb;clear bY bZ bX b0 aZ HT;cases hq:((gT X Y G).toList==s.toList)
      .have HN:Hid (dM A B s.data.toList=none):=h_ (lf λx y e h=>by
        obtain⟨_,h1,h2,h3⟩:=HK.out _ _ _ h;subst h1 h2 h3;have h4:=h.2;rw[<-qz] at h4;simp [Uy,h4] at hq)
       clear HK;obtain⟨bz,b1,b3⟩:=V.q3;have aM:=V.frozen 0;have a1:=V.frozen 1;have a9:=V.frozen 2;have az:=V.lt;have k9:=((V.set 0 ()).set 1 ()).set 2 ();have ad:Below rC w (((w9.setCell ⟨rR,0,none⟩ ()).setCell ⟨rR,1,none⟩ ()).setCell ⟨rR,2,none⟩ ()):=((bb.setCell u_ _).setCell u_ _).setCell u_ _;exact Ju
      .have HN:Hid (dM A B s.data.toList=some (X,Y,G)):=h_ (tI ⟨HP.out,by
        rw[<-qz];simpa[Uy] using hq⟩)
       clear HK;obtain⟨bY,bZ,bX⟩:=kP.q3;have b0:=kP.lt;obtain⟨bz,b1,b3⟩:=V.q3;have aM:=V.frozen 0;have a1:=V.frozen 1;have a9:=V.frozen 2;have az:=V.lt;have k9:=((V.set 0 X).set 1 Y).set 2 G;have ad:Below rC w (((w9.setCell ⟨rR,0,none⟩ X).setCell ⟨rR,1,none⟩ Y).setCell ⟨rR,2,none⟩ G):=((bb.setCell u_ _).setCell u_ _).setCell u_ _;go_wp2;generalize (World.setCell (World.setCell (World.setCell _ _ _) _ _) _ _)=w9 at k9 ad ⊢;obtain⟨q0,q1,q2⟩:=k9.q3;refine Uh (v:=.tuple #[.agg #[X,Y,G],true]) Am rfl ?_;exact nd
def zK(h:P:=by simp [results,Tryz.results215,go_sem,q0,q1]):=h
def FL(h:P:=by simp [results,Tryz.results159,go_sem,q0,q1,q2,q3]):=h
def vL(h:P:=by unfold Sz;omega):=h
def IJ(h:P:=by
 generalize World.setCell _ _ _=w9 at ad k9 ⊢;obtain⟨q0,q1,q2,q3⟩:=k9.q4;refine Uh (v:=.tuple #[.agg #[(),(),(),()],false]) FL rfl ?_
 first|exact⟨rfl,ad⟩|exact⟨rfl,HQ.out▸ad⟩):=h
def nZ(h:P:=by
 first|exact⟨rfl,ad⟩|exact⟨rfl,HQ.out▸ad⟩):=h
def lD(b k d:Int):Int:=max (3*(b - 1) - k) 0*4096 / d
def mz(b k d:Int):Int:=-(-(3*b+k)*4096 / d)
def zM{b k d}(hb:0<=b/\b<=1120)(hk:0<=k/\k<=64)(hd:1<=d):gM (lD b k d) (mz b k d)=true:=by
 have h1:0<=max (3*(b - 1) - k) 0*4096 / d:=VY o_ o_;have h2:max (3*(b - 1) - k) 0*4096 / d<=(3*b+k)*4096 / d:=Int.ediv_le_ediv o_ o_;have h3:(3*b+k)*4096 / d<=-(-(3*b+k)*4096 / d):=by
  have e1:=Xw ((3*b+k)*4096) d;have e2:=Xw (-(3*b+k)*4096) d;have r1:=UU ((3*b+k)*4096) (show d≠0 by omega);have r2:=UU (-(3*b+k)*4096) (show d≠0 by omega);have e3:-(3*b+k)*4096=-((3*b+k)*4096):=by rw[Int.neg_mul]
  rw[e3] at e2 r2 ⊢;generalize (3*b+k)*4096=m at *;generalize m / d=p,-m / d=q at *;have h:d*(p+q)<=0:=by rw[Vj];omega
  rcases UF 0 (p+q) with h9|h9
  .have:=UT (show 1<=p+q by omega) (show 0<=d by omega);omega
  .omega
 have h4:-(-(3*b+k)*4096 / d)<=409600000:=by
  have e2:=Xw (-(3*b+k)*4096) d;have r2:=UO (-(3*b+k)*4096) (show 0<d by omega);generalize hm:-(3*b+k)*4096=m at *;have cs:-15000000<=m:=o_;have:m<=m / d*1\/m / d>=-15000000:=by
   right;rcases UF (m / d) (-15000000) with h|h
   .have h5:=UT (show m / d+1<=-15000000 by omega) (show 0<=d by omega);rw[Vj] at h5;omega
   .exact h
  omega
 unfold gM lD mz;simp;omega
def jZ(A B X E:Int)(n:Nat):Option (Int×Int):=match jz A B X E n with
 |none=>none
 |some none=>some (0,0)
 |some (some r)=>some (lD (rtB r.1 r.2) (dL A B) (3*4 ^ n),mz (rtB r.1 r.2) (dL A B) (3*4 ^ n))
def yz{A B X E}{n}(hX:a_ X)(hE:0<=E/\E<=20){r:Int×Int}(h:jz A B X E n=some (some r)):0<=(rtB r.1 r.2:Int)/\(rtB r.1 r.2:Int)<=1120:=by
 unfold jz at h;split at h
 .cases h
 .have b7:=aJ (x:=E) (y:=E) 20 20 o_ o_;have:=yw vL vL h;have:=SR this.1.len this.2.len;omega
def EF{A B X E}{n}(hA:bj A)(hB:a_ B)(hX:a_ X)(hE:0<=E/\E<=20)(hn:n<=5){p:Int×Int}(h:jZ A B X E n=some p):gM p.1 p.2=true:=by
 unfold jZ at h;split at h
 .cases h
 .cases h;rfl
 .rename_i r hr;cases h;have h4:=qS hn;exact zM (yz hX hE hr) (yV hA hB) o_
def hsR:Option (Int×Int)->Value
 |none=>.tuple #[.agg #[.int .i64 0,.int .i64 0],.bool false]
 |some p=>.tuple #[.agg #[.int .i64 p.1,.int .i64 p.2],.bool true]
def lK:Option (Int×Int)->Value
 |none=>.tuple #[sq,.bool false]
 |some p=>.tuple #[jB p.1 p.2,.bool true]
def Op(A B X Y E:Int)(n:Nat)(hA:bj A)(hB:a_ B)(hd:aP A B≠0)(hX:a_ X)(hE:0<=E/\E<=20)(hn:n<=5)(w):
 Rv 215 #[.agg #[A,B],.agg #[X,Y,E],n] w (hsR (jZ A B X E n)):=by
 have⟨kC,kP,V,J⟩:=fh w #[A,B] 42 #[X,Y,E] 46 #[(),()] 196;have G:=h_ (QO A B X Y E n hA hB hd hX hE hn);have HK:=h_ (LJ A B hA hB);have HP:=h_ (OV n hn);have hk:=yV hA hB;have h4:=qS hn;have b5:=@yz A B X E n hX hE;have H:w.heap.size<=w.heap.size+1+1:=o_;have HV:Hid (jZ A B X E n=match jz A B X E n with
  |none=>none
  |some none=>some (0,0)
  |some (some r)=>some (lD (rtB r.1 r.2) (dL A B) (3*4 ^ n),mz (rtB r.1 r.2) (dL A B) (3*4 ^ n))):=rfl
 rw[HV.out];generalize jz A B X E n=bp at *;rcases bp with _|_|r
 .go_enter Tryz.func215,Tryz.ntmps215;go_upto_region 1 with fail
  generalize ((w.alloc _).alloc _).alloc _=W,hq:w.heap.size+1+1=rR at *;have⟨a4,a3⟩:=kC.q2;have a5:=kC.lt;have⟨bY,bZ,bX⟩:=kP.q3;have b0:=kP.lt;go_wp2_with fail
  refine ai (G.out W) λw1 I=>?_;have aL:=af I J.size J;replace V:=V.next I
  simp only[wl];have⟨bz,b1⟩:=V.q2;have aM:=V.frozen 0;have a1:=V.frozen 1;have k9:=(V.set 0 ()).set 1 ();have ad:=(aL.setCell (p:=rR) H ()).setCell (p:=⟨rR,1,none⟩) H ();go_wp2;generalize World.setCell _ _ _=w9 at ad k9 ⊢;have⟨q0,q1⟩:=k9.q2;exact Uh (v:=.tuple #[.agg #[(),()],false]) zK rfl ⟨rfl,ad⟩
 .go_enter Tryz.func215,Tryz.ntmps215;go_upto_region 1 with fail
  generalize ((w.alloc _).alloc _).alloc _=W,hq:w.heap.size+1+1=rR at *;have⟨a4,a3⟩:=kC.q2;have a5:=kC.lt;have⟨bY,bZ,bX⟩:=kP.q3;have b0:=kP.lt;go_wp2_with fail
  refine ai (G.out W) λw1 I=>?_;have aL:=af I J.size J;replace V:=V.next I
  simp only[wl];have⟨bz,b1⟩:=V.q2;have aM:=V.frozen 0;have a1:=V.frozen 1;have k9:=(V.set 0 ()).set 1 ();have ad:=(aL.setCell (p:=rR) H ()).setCell (p:=⟨rR,1,none⟩) H ();go_wp2;generalize World.setCell _ _ _=w9 at ad k9 ⊢;have⟨q0,q1⟩:=k9.q2;exact Uh (v:=.tuple #[.agg #[(),()],true]) zK rfl ⟨rfl,ad⟩
 .have hb:=b5 rfl;have aa:=zM hb hk (show 1<=3*(4:Int) ^ n by omega);have a6:∀W,Kp 254 #[.int .i64 (max (3*((rtB r.1 r.2:Int) - 1) - dL A B) 0*4096),(3*4 ^ n:Int)] W λe w'=>e=.returned (lD (rtB r.1 r.2) (dL A B) (3*4 ^ n):Int)/\w'=W:=λW=>B5 (max (3*((rtB r.1 r.2:Int) - 1) - dL A B) 0*4096) (3*4 ^ n) o_ o_ W;have bq:=λW=>B5 (-(3*(rtB r.1 r.2:Int)+dL A B)*4096) (3*4 ^ n) o_ o_ W;have g:mz (rtB r.1 r.2) (dL A B) (3*4 ^ n)=-(-(3*(rtB r.1 r.2:Int)+dL A B)*4096 / (3*4 ^ n)):=rfl;simp only;rw[g] at aa ⊢;unfold gM at aa;simp at aa;have F:=h_ a6;have cc:=h_ bq;clear a6 bq b5 g;simp only[wl] at G;generalize lD (rtB r.1 r.2) (dL A B) (3*4 ^ n)=lo at *;generalize (rtB r.1 r.2:Int)=b at *;generalize dL A B=k at *;generalize (4:Int) ^ n=p4 at *;generalize -(3*b+k)*4096 / (3*p4)=hi at *;go_enter Tryz.func215,Tryz.ntmps215;go_upto_region 1 with fail
  generalize ((w.alloc _).alloc _).alloc _=W,hq:w.heap.size+1+1=rR at *;have⟨a4,a3⟩:=kC.q2;have a5:=kC.lt;have⟨bY,bZ,bX⟩:=kP.q3;have b0:=kP.lt;go_wp2_with fail
  refine ai (G.out W) λw1 I=>?_;have aL:=af I J.size J;replace V:=V.next I
  replace kC:=kC.next I
  have⟨a4,a3⟩:=kC.q2;have a5:=kC.lt;go_wp2_with fail
  refine ai (HK.out w1) λw2 U=>?_;replace aL:=af U aL.size aL;replace V:=V.next U
  have⟨bz,b1⟩:=V.q2;have aM:=V.frozen 0;have a1:=V.frozen 1;have az:=V.lt;have k9:=(V.set 0 lo).set 1 (-hi:Int);have ad:=(aL.setCell (p:=rR) H lo).setCell (p:=⟨rR,1,none⟩) H (-hi:Int);go_wp2_with ((go_at_call 269;refine ay (HP.out _) ?_))
  refine (F.out _).mono ?_;rintro e w3 ⟨rfl,rfl⟩;go_wp2_with fail
  refine (cc.out _).mono ?_;rintro e w4 ⟨rfl,rfl⟩;have hh:-409600000<=-hi/\-hi<=409600000:=o_;go_wp2;generalize World.setCell _ _ _=w9 at ad k9 ⊢;have⟨q0,q1⟩:=k9.q2;refine Uh (v:=.tuple #[.agg #[lo,(-hi:Int)],true]) zK rfl ?_;exact⟨rfl,ad⟩
def iq(A B X E n:Int):Option (Int×Int):=if av n 0 5=true then jZ A B X E n.toNat else none
def Bh{A B}(h:be A B=true):aP A B≠0:=by
 unfold be at h;simp at h;exact h.2
def NF(A B X Y E n:Int)(hC:be A B=true)(G:bW A B (X,Y,E))(w):
 Rv 159 #[.agg #[A,B],.agg #[X,Y,E],n] w (lK (iq A B X E n)):=by
 have⟨kC,kP,V,J⟩:=fh w #[A,B] 42 #[X,Y,E] 46 #[(),(),(),()] 145;have H:w.heap.size<=w.heap.size+1+1:=o_;have⟨hA,hB⟩:=fe hC;have⟨hX,_,hE⟩:=G.bd;simp only at hX hE;have h0:=λW=>xk A B X Y E hC W;rw[uI G] at h0;have F:=h_ h0;have h1:=λW=>cR n 0 5 W;have HV:Hid (iq A B X E n=if av n 0 5=true then jZ A B X E n.toNat else none):=rfl;rw[HV.out];cases hi:av n 0 5
 .rw[hi] at h1;rw[Uj s_];have HI:=h_ h1;go_enter Tryz.func159,Tryz.ntmps159;go_upto_region 1 with fail
  generalize ((w.alloc _).alloc _).alloc _=W,hq:w.heap.size+1+1=rR at *;have⟨a4,a3⟩:=kC.q2;have a5:=kC.lt;have⟨bY,bZ,bX⟩:=kP.q3;have b0:=kP.lt;go_wp2_with fail
  refine ai (F.out W) λw1 I=>?_;have aL:=af I J.size J;replace V:=V.next I
  have⟨bz,b1,b3,ca⟩:=V.q4;have aM:=V.frozen 0;have a1:=V.frozen 1;have a9:=V.frozen 2;have b9:=V.frozen 3;have k9:=(((V.set 0 ()).set 1 ()).set 2 ()).set 3 ();have ad:=(((aL.setCell (p:=rR) H ()).setCell (p:=⟨rR,1,none⟩) H ()).setCell (p:=⟨rR,2,none⟩) H ()).setCell (p:=⟨rR,3,none⟩) H ();go_wp2_with (go_at_call 63;refine ay (HI.out _) ?_)
  exact IJ
 .rw[hi] at h1;rw[Um rfl];have HI:=h_ h1;have hn:=bH hi;obtain⟨m,rfl⟩:∃m:Nat,n=m:=⟨n.toNat,by omega⟩
  rw[show ((m:Int)).toNat=m by omega];have g:=h_ (Op A B X Y E m hA hB (Bh hC) hX hE o_);have aa:=@EF A B X E m hA hB hX hE o_;generalize jZ A B X E m=hv at *;cases hv with
  |none=>
   simp only[hsR] at g;have HS:=h_ (NR 0 0);simp only[lK,sq] at HS ⊢;go_enter Tryz.func159,Tryz.ntmps159;go_upto_region 1 with fail
   generalize ((w.alloc _).alloc _).alloc _=W,hq:w.heap.size+1+1=rR at *;have⟨a4,a3⟩:=kC.q2;have a5:=kC.lt;have⟨bY,bZ,bX⟩:=kP.q3;have b0:=kP.lt;go_wp2_with fail
   refine ai (F.out W) λw1 I=>?_;have aL:=af I J.size J;replace V:=V.next I
   replace kC:=kC.next I
   replace kP:=kP.next I
   have⟨a4,a3⟩:=kC.q2;have a5:=kC.lt;have⟨bY,bZ,bX⟩:=kP.q3;have b0:=kP.lt;go_wp2_with ((go_at_call 63;refine ay (HI.out _) ?_))
   refine ai (g.out w1) λw2 U=>?_;replace aL:=af U aL.size aL;replace V:=V.next U
   have⟨kS,ab⟩:=aw w2 #[(),()] 196;replace aL:=af ab aL.size aL;replace V:=V.next ab
   go_upto_region 4 with fail
   generalize w2.alloc _=W3,w2.heap.size=rS at *;have⟨a8,aZ⟩:=kS.q2;have cz:=kS.lt;go_wp2_with fail
   refine ai (HS.out W3) λw4 K=>?_;replace aL:=af K aL.size aL;replace V:=V.next K
   have⟨bz,b1,b3,ca⟩:=V.q4;have aM:=V.frozen 0;have a1:=V.frozen 1;have a9:=V.frozen 2;have b9:=V.frozen 3;have k9:=(((V.set 0 ()).set 1 ()).set 2 ()).set 3 ();have ad:=(((aL.setCell (p:=rR) H ()).setCell (p:=⟨rR,1,none⟩) H ()).setCell (p:=⟨rR,2,none⟩) H ()).setCell (p:=⟨rR,3,none⟩) H ();go_wp2;exact IJ
  |some p=>
   have⟨a,b⟩:=p;have HS:=h_ (Ma a b (aa rfl));simp only[hsR] at g;simp only[lK];unfold jB at HS ⊢;generalize dr a=na,cK a=da,dr b=nb,cK b=db at *;go_enter Tryz.func159,Tryz.ntmps159;go_upto_region 1 with fail
   generalize ((w.alloc _).alloc _).alloc _=W,hq:w.heap.size+1+1=rR at *;have⟨a4,a3⟩:=kC.q2;have a5:=kC.lt;have⟨bY,bZ,bX⟩:=kP.q3;have b0:=kP.lt;go_wp2_with fail
   refine ai (F.out W) λw1 I=>?_;have aL:=af I J.size J;replace V:=V.next I
   replace kC:=kC.next I
   replace kP:=kP.next I
   have⟨a4,a3⟩:=kC.q2;have a5:=kC.lt;have⟨bY,bZ,bX⟩:=kP.q3;have b0:=kP.lt;go_wp2_with ((go_at_call 63;refine ay (HI.out _) ?_))
   refine ai (g.out w1) λw2 U=>?_;replace aL:=af U aL.size aL;replace V:=V.next U
   have⟨kS,ab⟩:=aw w2 #[a,b] 196;replace aL:=af ab aL.size aL;replace V:=V.next ab
   go_upto_region 4 with fail
   generalize w2.alloc _=W3,w2.heap.size=rS at *;have⟨a8,aZ⟩:=kS.q2;have cz:=kS.lt;go_wp2_with fail
   refine ai (HS.out W3) λw4 K=>?_;replace aL:=af K aL.size aL;replace V:=V.next K
   have⟨bz,b1,b3,ca⟩:=V.q4;have aM:=V.frozen 0;have a1:=V.frozen 1;have a9:=V.frozen 2;have b9:=V.frozen 3;have k9:=(((V.set 0 na).set 1 da).set 2 nb).set 3 db;have ad:=(((aL.setCell (p:=rR) H na).setCell (p:=⟨rR,1,none⟩) H da).setCell (p:=⟨rR,2,none⟩) H nb).setCell (p:=⟨rR,3,none⟩) H db;go_wp2;generalize World.setCell _ _ _=w9 at ad k9 ⊢;have⟨q0,q1,q2,q3⟩:=k9.q4;exact Uh (v:=.tuple #[.agg #[na,da,nb,db],true]) FL rfl nZ
def Te(a b:Int)(ha:iO a)(hb:1<=b/\b<=4000000000000000000)(hq:-4000000000000000000<=-a / b/\-a / b<=4000000000000000000)(w):
 Kp 287 #[a,b] w λe w'=>e=.returned (-(-a / b):Int)/\w'=w:=by
 have HF:=h_ (CQ (-a) b o_ hb);generalize -a / b=q at *;go_enter Tryz.func287,Tryz.ntmps287;go_wp2_with fail
 refine (HF.out _).mono ?_;rintro e w1 ⟨rfl,rfl⟩;exact nh
def Dh(a b d)(ha:-1000000<=a/\a<=1000000)(hb:-1000000<=b/\b<=1000000)(hd:1<=d/\d<=4000000000000000000)(h:gM (a*4096 / d) (-(-(b*4096) / d))=true)(w):
 Rv 237 #[a,b,d] w (.tuple #[jB (a*4096 / d) (-(-(b*4096) / d)),true]):=by
 have⟨V,J⟩:=aw w #[(),(),(),()] 145;have b2:=by unfold gM at h;simpa[XO] using h
 have HD:=h_ (CQ (a*4096) d o_ hd);have K:=h_ (Te (b*4096) d o_ hd o_);have HM:=h_ (Qn _ _ h);unfold jB at HM ⊢;have H:w.heap.size<=w.heap.size:=Ug _;generalize a*4096 / d=lo,-(-(b*4096) / d)=hi at *;generalize dr lo=na,cK lo=da,dr hi=nb,cK hi=db at *;obtain⟨rR,hq⟩:∃r,w.heap.size=r:=⟨_,rfl⟩
 go_enter Tryz.func237,Tryz.ntmps237;go_upto_region 1 with fail
 generalize w.alloc _=W at *;rw[hq] at V J;have HQ:=h_ hq;go_wp2_with fail
 refine (HD.out _).mono ?_;rintro e w1 ⟨rfl,rfl⟩;go_wp2_with fail
 refine (K.out _).mono ?_;rintro e w1 ⟨rfl,rfl⟩;go_wp2_with fail
 refine ai (HM.out _) λw2 U=>?_;have aL:=af U (HQ.out▸J.size) J;replace V:=V.next U
 have H:rR<=rR:=Ug _;have⟨bz,b1,b3,ca⟩:=V.q4;have aM:=V.frozen 0;have a1:=V.frozen 1;have a9:=V.frozen 2;have b9:=V.frozen 3;have k9:=(((V.set 0 na).set 1 da).set 2 nb).set 3 db;have ad:=(((aL.setCell (p:=rR) H na).setCell (p:=⟨rR,1,none⟩) H da).setCell (p:=⟨rR,2,none⟩) H nb).setCell (p:=⟨rR,3,none⟩) H db;go_wp2;generalize World.setCell _ _ _=w9 at ad k9 ⊢;have⟨q0,q1,q2,q3⟩:=k9.q4;exact Uh (v:=.tuple #[.agg #[na,da,nb,db],true]) (by simp [results,Tryz.results237,go_sem,q0,q1,q2,q3]) rfl nZ
def zw(h:P:=by simp [results,Tryz.results74,go_sem,q0,q1,q2]):=h
def Ic(h:P:=by
 refine jc k_ (λWz a7 aX=>?_) _;exact bp cs Wz ⟨a7,aX.1,o_,aX.2.head⟩):=h
def zu(h:P:=by
 go_wp2;generalize (World.setCell (World.setCell (World.setCell _ _ _) _ _) _ _)=w9 at k9 ad ⊢;obtain⟨q0,q1,q2⟩:=k9.q3;refine Uh (v:=.tuple #[.agg #[(),(),()],false]) zw rfl ?_;exact uB):=h
def K7(h:P:=by
 clear H HS cm;go_enter Tryz.func74,Tryz.ntmps74;go_upto_region 1 with fail
 generalize (w.alloc _).alloc _=W at *;have h2:w.heap.size<w.heap.size+1:=o_;generalize w.heap.size+1=rR at *;generalize bs:w.heap.size=rC at *;have bx:Hid (w.heap.size=rC):=bs;clear bs;go_wp2_with fail
 refine (HL.out _).mono ?_;rintro e w1 ⟨rfl,rfl⟩;obtain⟨bz,b1,b3⟩:=V.q3;have aM:=V.frozen 0;have a1:=V.frozen 1;have a9:=V.frozen 2;have az:=V.lt;have k9:=((V.set 0 ()).set 1 ()).set 2 ();have ad:Below rC w (((W.setCell ⟨rR,0,none⟩ ()).setCell ⟨rR,1,none⟩ ()).setCell ⟨rR,2,none⟩ ()):=((J.setCell u_ _).setCell u_ _).setCell u_ _;exact zu):=h
def KR(h:P:=by
 replace HN:Hid (dM A B s.data.toList=none):=h_ (HN.out s_);clear HK;obtain⟨bz,b1,b3⟩:=V.q3;have aM:=V.frozen 0;have a1:=V.frozen 1;have a9:=V.frozen 2;have az:=V.lt;have k9:=((V.set 0 ()).set 1 ()).set 2 ();have ad:Below rC w (((W5.setCell ⟨rR,0,none⟩ ()).setCell ⟨rR,1,none⟩ ()).setCell ⟨rR,2,none⟩ ()):=((bb.setCell u_ _).setCell u_ _).setCell u_ _;exact zu):=h
def vM(h:P:=by
 exact zu):=h
def PF(A B:Int)(hA:bj A)(cy:a_ B)(s:aj)(hs:s.size<=100000000)(w:World):
 Rv 74 #[.agg #[A,B],s] w (cj (dM A B s.data.toList)):=by
 obtain⟨kC,V,J⟩:=cr w #[A,B] 42 #[(),(),()] 46;have hl:s.data.toList.length=s.size:=UC;have HL:=h_ (cw (s.size:Int) 5 60);by_cases hO:s.data.toList=[79]
 .have hq:(s.toList==[79])=true:=by rw[Uy,hO];rfl
  have HN:Hid (dM A B s.data.toList=some (0,0,0)):=h_ (tI ⟨.inl ⟨rfl,rfl,rfl⟩,by rw[hO];rfl⟩);clear hO;go_enter Tryz.func74,Tryz.ntmps74;go_upto_region 1 with fail
  generalize (w.alloc _).alloc _=W at *;have h2:w.heap.size<w.heap.size+1:=o_;generalize w.heap.size+1=rR at *;generalize bs:w.heap.size=rC at *;have bx:Hid (w.heap.size=rC):=bs;clear bs;obtain⟨bz,b1,b3⟩:=V.q3;have aM:=V.frozen 0;have a1:=V.frozen 1;have a9:=V.frozen 2;have az:=V.lt;have k9:=((V.set 0 ()).set 1 ()).set 2 ();have ad:Below rC w (((W.setCell ⟨rR,0,none⟩ ()).setCell ⟨rR,1,none⟩ ()).setCell ⟨rR,2,none⟩ ()):=((J.setCell u_ _).setCell u_ _).setCell u_ _;go_wp2;generalize (World.setCell (World.setCell (World.setCell _ _ _) _ _) _ _)=w9 at k9 ad ⊢;obtain⟨q0,q1,q2⟩:=k9.q3;refine Uh (v:=.tuple #[.agg #[(),(),()],true]) zw rfl ?_;exact nd
 .have hq:(s.toList==[79])=false:=by rw[Uy,Uz];exact hO
  have hk:∀X Y E,gg A B s.data.toList X Y E->_:=λX Y E h=>yq h hO;rw[hl] at hk;by_cases hn:5<=s.size/\s.size<=60
  .have cz:av (s.size:Int) 5 60=true:=by unfold av;simp;omega
   have aG:0<s.size:=o_;have ac:s.size - 1<s.size:=o_;have ax:(1:Int)<=(s.size:Int):=o_;have a8:(5:Int)<=(s.size:Int):=o_;have b9:(s.size:Int)<=60:=o_;have b6:(s.size:Int) - 1<(s.size:Int):=o_;have dp:(0:Int)<=(s.size:Int) - 1:=o_;have cQ:IntKind.i64.wrap ((s.size:Int) - 1)=(s.size:Int) - 1:=Vd _ o_;rw[cz] at HL;have HS:Hid (∀W:World,Kp 61 #[.string (s.extract 1 (s.size - 1)),.int .u8 44] W λe w'=>∃v,e=.returned v/\cH w' W.heap.size v (bL (s.extract 1 (s.size - 1)) 44)/\Below W.heap.size W w'):=h_ λW=>gz _ 44 W u_;have b2:=oU (s.extract 1 (s.size - 1)) 44;have cM:(s.extract 1 (s.size - 1)).data.toList=(s.data.toList.drop 1).take (s.size - 1 - 1):=Lib.extract_data _ _ _;have aF:∀X Y E,gg A B s.data.toList X Y E->(s[0].toNat:Int)=40/\((s[s.size - 1]'ac).toNat:Int)=41/\cU 44 (s.extract 1 (s.size - 1)).data.toList=[cW X (E*E),cW Y (E*E*E)]:=λX Y E h=>by
    obtain⟨_,h1,h2,_⟩:=hk X Y E h;have a6:s.size=(gw X Y E).length+2:=by rw[<-hl,h1];simp
    have g0:s[0]=s.data.toList[0]'o_:=rfl;have g1:s[s.size - 1]'ac=s.data.toList[s.size - 1]'o_:=rfl;refine⟨?_,?_,?_⟩
    .rw[g0];simp only[h1];rfl
    .rw[g1];simp only[h1];rw[List.getElem_cons,XZ o_,List.getElem_append_right o_];simp [a6]
    .rw[cM,h1,a6,show (gw X Y E).length+2 - 1 - 1=(gw X Y E).length from rfl,UI,U0,List.take_left,Qy]
   have cm:∀x∈bL (s.extract 1 (s.size - 1)) 44,x.size<=s.size:=λx hx=>by
    have:=qK 44 (s.extract 1 (s.size - 1)).data.toList x.data.toList Ff;rw[cM] at this;rw[Lib.size_eq];simp only[Vs,UH] at this;omega
   rw[<-b2] at aF;clear cM b2 hk;have H:=h_ aF;clear aF;generalize bL (s.extract 1 (s.size - 1)) 44=xs at *;cases h0:((s[0].toNat:Int) != 40)
   .cases h1:(((s[s.size - 1]'ac).toNat:Int) != 41)
    .go_enter Tryz.func74,Tryz.ntmps74;go_upto_region 1 with fail
     generalize (w.alloc _).alloc _=W at *;have h2:w.heap.size<w.heap.size+1:=o_;generalize w.heap.size+1=rR at *;generalize bs:w.heap.size=rC at *;have bx:Hid (w.heap.size=rC):=bs;clear bs;go_wp2_with fail
     refine (HL.out _).mono ?_;rintro e w1 ⟨rfl,rfl⟩;go_wp2_with fail
     refine (HS.out _).mono ?_;rintro e w1 ⟨v,rfl,ov,I⟩;have lC:=kC.lt;replace kC:=kC.next I
     replace V:=V.next I
     have bb:=af I (Uo lC) J;clear lC J I HL HS h0 h1 dp cQ;have lC:=kC.lt;obtain⟨la,a2,rfl,bo,hf⟩:=ov.form;clear ov;by_cases cA:xs.length=2
     .have hm:((xs.length:Int) != 2)=false:=by simp [cA]
      have b8:(0:Int)<(xs.length:Int):=o_;have cc:(1:Int)<(xs.length:Int):=o_;obtain⟨g,rfl,q0,_,bq,_⟩:=hf 0 o_;obtain⟨g',e1,q1,_⟩:=hf 1 o_;simp only[Vz,XR,and_true] at e1;subst e1;have z0:=cm xs[0] (UA _);have z1:=cm xs[1] (UA _);have cu:∀X Y E,gg A B s.data.toList X Y E->xs[0].data.toList=cW X (E*E)/\xs[1].data.toList=cW Y (E*E*E):=λX Y E h=>by
       obtain⟨_,_,h3⟩:=H.out X Y E h;rw[D_ cA] at h3;obtain⟨e1,e2⟩:=VO h3;exact⟨e1,(VO e2).1⟩
      have hK:∀X Y E,gg A B s.data.toList X Y E->bu xs[0].data.toList=some (X,E*E)/\bu xs[1].data.toList=some (Y,E*E*E)/\ap (E*E)=E:=λX Y E h=>by
       obtain⟨h1,h2⟩:=cu X Y E h;obtain⟨_,_,_,h3,h4,_,h5⟩:=yq h hO;rw[h1,h2];exact⟨h3,h4,h5⟩
      clear H cu cm hf;generalize xs[0]=x0 at *;generalize xs[1]=x1 at *;clear cA;generalize xs.length=m at *;have HX:=h_ (xd x0 o_);have HY:=h_ (xd x1 o_);have ab:=uk x0.data.toList;have cv:=uk x1.data.toList;simp only[B9] at HX HY;have cB:=h_ (oT (gp (bu x0.data.toList)) o_);have cF:∀X Y E,gg A B s.data.toList X Y E->((bu x0.data.toList).isSome=true/\(bu x1.data.toList).isSome=true)/\il (bu x0.data.toList)=X/\il (bu x1.data.toList)=Y/\ap (gp (bu x0.data.toList))=E:=λX Y E h=>by
       obtain⟨h1,h2,h3⟩:=hK X Y E h;rw[h1,h2];exact⟨⟨rfl,rfl⟩,rfl,rfl,h3⟩
      clear hK;generalize bu x0.data.toList=fx at *;generalize bu x1.data.toList=fy at *;generalize il fx=X at *;generalize il fy=Y at *;generalize fx.isSome=one at *;generalize fy.isSome=two at *;generalize gp fx=b at *;generalize gp fy=d at *;generalize ap b=G at *;have HK:=h_ cF;clear cF hO;go_wp2_with fail
      refine ai (HX.out _) λw2 U=>?_;replace kC:=kC.next U
      replace V:=V.next U
      replace bb:=af U (Uo lC) bb;have cX:=(U.cell (p:=⟨g,1,none⟩) bq).trans q1;have cG:g<w2.heap.size:=Un bq U.size;clear lC U HX q0 q1;have lC:=kC.lt;have kF:=ag.new w2 #[X,b] 96;replace V:=V.alloc (.cells #[X,b] 96);replace kC:=kC.alloc (.cells #[X,b] 96);have ba:Below w2.heap.size w2 (w2.alloc (.cells #[X,b] 96)):=(Uk _ _).alloc (Ug _) _;replace bb:=af ba (Uo lC) bb;replace cX:=(ba.cell (p:=⟨g,1,none⟩) cG).trans cX;clear ba lC bq cG;have lC:=kC.lt;go_upto_region 10 with fail
      generalize World.alloc _ _=W3 at *;generalize w2.heap.size=rF at *;go_wp2_with fail
      refine ai (HY.out _) λw4 K=>?_;replace kF:=kF.next K
      replace kC:=kC.next K
      replace V:=V.next K
      replace bb:=af K (Uo lC) bb;clear lC K HY cX;have lC:=kC.lt;have kG:=ag.new w4 #[Y,d] 96;replace V:=V.alloc (.cells #[Y,d] 96);replace kC:=kC.alloc (.cells #[Y,d] 96);replace kF:=kF.alloc (.cells #[Y,d] 96);have ba:Below w4.heap.size w4 (w4.alloc (.cells #[Y,d] 96)):=(Uk _ _).alloc (Ug _) _;replace bb:=af ba (Uo lC) bb;clear ba lC;have lC:=kC.lt;go_upto_region 11 with fail
      generalize World.alloc _ _=W5 at *;generalize w4.heap.size=rG at *;have HN:Hid (¬(one=true/\two=true)->dM A B s.data.toList=none):=h_ λh1=>lf λx y e h=>h1 (HK.out _ _ _ h).1;cases one
      .exact KR
      .cases two
       .exact KR
       .clear HN;obtain⟨F,Z⟩:=kF.q2;have aL:=kF.lt;obtain⟨cT,cZ⟩:=kG.q2;have cP:=kG.lt;go_upto_region 13 with fail
        apply fO (λcs Wz=>ah [] W5 Wz/\(λ_=>True) Wz/\W5.heap.size<=cs/\ag cs #[X,Y,G] 46 Wz)
        .intro bp;refine br [] (λ_=>false) (λ_=>True) (KD (λ_=>True) []) k_ ⟨trivial,bR.nil _⟩ ?_;apply lc ⟨W5,ah.refl _ _,trivial,bR.nil _⟩ [ae,ae,ae,ae,ae,ae,ae,ae] 2 (KD.closed an _) aA k_ k_ k_ k_ s_
         .intro E hE bv cb;(repeat (first|(refine gB ?_;go_big_quiet_step ((go_at_call 106;exact Calls.quiet_clsS _ (cB.out _)));refine wpQuiet_nil ?_)|refine gA ?_));exact gC rfl
         refine aR [8] ?_;refine ak.cons ?_ ?_
         .refine dm (zs:=#[(),(),()]) (T:=46) an (λcs co b7 hne=>?_);refine ao ?_;refine aR [9] ?_;refine ak.cons ?_ ?_
          .refine fk (v:=.agg #[X,Y,G]) [] [] (.inl co) an (λ_ _ h _=>h) s_ (λhne=>?_)
           try simp only[Value.cells]
           exact Ic
          exact ak.nil
         exact ak.nil
        try dsimp only
        rintro rP W7 ⟨bi,_,b4,kP⟩;have b5:=bi.below;clear F Z aL cT cZ cP kF kG bi;replace kC:=kC.next b5
        replace V:=V.next b5
        replace bb:=af b5 (Uo lC) bb;clear b5 b4 lC;have lC:=kC.lt;have HI:=h_ (EJ A B X Y G hA cy);obtain⟨a4,a3⟩:=kC.q2;have a5:=kC.lt;obtain⟨bY,bZ,bX⟩:=kP.q3;have b0:=kP.lt;go_wp2_with fail
        refine ai (HI.out _) λw8 ca=>?_;replace kC:=kC.next ca
        replace kP:=kP.next ca
        replace V:=V.next ca
        replace bb:=af ca (Uo lC) bb;clear a4 a3 a5 bY bZ bX b0 ca HI lC;have lC:=kC.lt;cases aa:dN A B X Y G
        .have HN:Hid (dM A B s.data.toList=none):=h_ (lf λx y e h=>by
          obtain⟨_,h1,h2,h3⟩:=HK.out _ _ _ h;subst h1 h2 h3;rw[uI h.1] at aa;cases aa)
         clear aa HK;obtain⟨bz,b1,b3⟩:=V.q3;have aM:=V.frozen 0;have a1:=V.frozen 1;have a9:=V.frozen 2;have az:=V.lt;have k9:=((V.set 0 ()).set 1 ()).set 2 ();have ad:Below rC w (((w8.setCell ⟨rR,0,none⟩ ()).setCell ⟨rR,1,none⟩ ()).setCell ⟨rR,2,none⟩ ()):=((bb.setCell u_ _).setCell u_ _).setCell u_ _;exact vM
        .have HP:=h_ (zS aa);clear aa;have HT:=h_ (De A B X Y G HP.out);obtain⟨bY,bZ,bX⟩:=kP.q3;have b0:=kP.lt;go_wp2_with fail
         refine ai (HT.out _) λw9 aZ=>?_;replace kP:=kP.next aZ
         replace V:=V.next aZ
         replace bb:=af aZ (Uo lC) bb;clear bY bZ bX b0 aZ HT;cases hq:((gT X Y G).toList==s.toList)
         .have HN:Hid (dM A B s.data.toList=none):=h_ (lf λx y e h=>by
           obtain⟨_,h1,h2,h3⟩:=HK.out _ _ _ h;subst h1 h2 h3;have h4:=h.2;rw[<-qz] at h4;simp [Uy,h4] at hq)
          clear HK;obtain⟨bz,b1,b3⟩:=V.q3;have aM:=V.frozen 0;have a1:=V.frozen 1;have a9:=V.frozen 2;have az:=V.lt;have k9:=((V.set 0 ()).set 1 ()).set 2 ();have ad:Below rC w (((w9.setCell ⟨rR,0,none⟩ ()).setCell ⟨rR,1,none⟩ ()).setCell ⟨rR,2,none⟩ ()):=((bb.setCell u_ _).setCell u_ _).setCell u_ _;exact vM
         .have HN:Hid (dM A B s.data.toList=some (X,Y,G)):=h_ (tI ⟨HP.out,by
           rw[<-qz];simpa[Uy] using hq⟩)
          clear HK;obtain⟨bY,bZ,bX⟩:=kP.q3;have b0:=kP.lt;obtain⟨bz,b1,b3⟩:=V.q3;have aM:=V.frozen 0;have a1:=V.frozen 1;have a9:=V.frozen 2;have az:=V.lt;have k9:=((V.set 0 X).set 1 Y).set 2 G;have ad:Below rC w (((w9.setCell ⟨rR,0,none⟩ X).setCell ⟨rR,1,none⟩ Y).setCell ⟨rR,2,none⟩ G):=((bb.setCell u_ _).setCell u_ _).setCell u_ _;go_wp2;generalize (World.setCell (World.setCell (World.setCell _ _ _) _ _) _ _)=w9 at k9 ad ⊢;obtain⟨q0,q1,q2⟩:=k9.q3;refine Uh (v:=.tuple #[.agg #[X,Y,G],true]) zw rfl ?_;exact nd
     .have hm:((xs.length:Int) != 2)=true:=u_;have HN:Hid (dM A B s.data.toList=none):=h_ (lf λx y e h=>by
       have:=congrArg List.length (H.out _ _ _ h).2.2;rw[Wm] at this;exact cA this)
      clear H hf cm;obtain⟨bz,b1,b3⟩:=V.q3;have aM:=V.frozen 0;have a1:=V.frozen 1;have a9:=V.frozen 2;have az:=V.lt;have k9:=((V.set 0 ()).set 1 ()).set 2 ();have ad:Below rC w (((w1.setCell ⟨rR,0,none⟩ ()).setCell ⟨rR,1,none⟩ ()).setCell ⟨rR,2,none⟩ ()):=((bb.setCell u_ _).setCell u_ _).setCell u_ _;exact vM
    .have HN:Hid (dM A B s.data.toList=none):=h_ (lf λx y e h=>by
      have:=(H.out _ _ _ h).2.1;simp [this] at h1)
     exact K7
   .have HN:Hid (dM A B s.data.toList=none):=h_ (lf λx y e h=>by
     have:=(H.out _ _ _ h).1;simp [this] at h0)
    exact K7
  .have cz:av (s.size:Int) 5 60=false:=by
    cases h:av (s.size:Int) 5 60
    .rfl
    .have:=bH h;omega
   have HN:Hid (dM A B s.data.toList=none):=h_ (lf λx y e h=>hn (hk _ _ _ h).2.2.1);rw[cz] at HL;clear hk;go_enter Tryz.func74,Tryz.ntmps74;go_upto_region 1 with fail
   generalize (w.alloc _).alloc _=W at *;have h2:w.heap.size<w.heap.size+1:=o_;generalize w.heap.size+1=rR at *;generalize bs:w.heap.size=rC at *;have bx:Hid (w.heap.size=rC):=bs;clear bs;go_wp2_with fail
   refine (HL.out _).mono ?_;rintro e w1 ⟨rfl,rfl⟩;obtain⟨bz,b1,b3⟩:=V.q3;have aM:=V.frozen 0;have a1:=V.frozen 1;have a9:=V.frozen 2;have az:=V.lt;have k9:=((V.set 0 ()).set 1 ()).set 2 ();have ad:Below rC w (((W.setCell ⟨rR,0,none⟩ ()).setCell ⟨rR,1,none⟩ ()).setCell ⟨rR,2,none⟩ ()):=((J.setCell u_ _).setCell u_ _).setCell u_ _;exact vM
def yZ(h:P:=by simp [results,Tryz.results185,go_sem,q0,q1,q2,q3]):=h
def It(h:P:=by simp [results,Tryz.results130,go_sem,q0,q1,q2,q3]):=h
def RX:gM (0*4096 / 1) (-(-(0*4096) / 1))=true:=rfl
def Od(A B X Y E:Int)(n:Nat)(hA:bj A)(hB:a_ B)(hd:aP A B≠0)(hX:a_ X)(hE:0<=E/\E<=20)(hn:n<=5)(w):
 Rv 185 #[.agg #[A,B],.agg #[X,Y,E],n] w (lK (jZ A B X E n)):=by
 have⟨kC,kP,V,J⟩:=fh w #[A,B] 42 #[X,Y,E] 46 #[(),(),(),()] 145;have H:w.heap.size<=w.heap.size+1+1:=o_;have G:=h_ (Ov A B X Y E n hA hB hd hX hE hn);have HK:=h_ (MF A B hA hB);have HP:=h_ (PU n hn);have hk:=yV hA hB;have h4:=qS hn;have b5:=@yz A B X E n hX hE;have a6:∀r,jz A B X E n=some (some r)->Sz 80 r.1/\Sz 80 r.2:=λr h=>by
  unfold jz at h;split at h
  .cases h
  .have b7:=aJ (x:=E) (y:=E) 20 20 o_ o_;exact yw vL vL h
 have HV:Hid (jZ A B X E n=match jz A B X E n with
  |none=>none
  |some none=>some (0,0)
  |some (some r)=>some (lD (rtB r.1 r.2) (dL A B) (3*4 ^ n),mz (rtB r.1 r.2) (dL A B) (3*4 ^ n))):=rfl
 rw[HV.out];generalize jz A B X E n=bp at *;rcases bp with _|_|r
 .simp only[lK,sq];go_enter Tryz.func185,Tryz.ntmps185;go_upto_region 1 with fail
  generalize ((w.alloc _).alloc _).alloc _=W,hq:w.heap.size+1+1=rR at *;have⟨a4,a3⟩:=kC.q2;have a5:=kC.lt;have⟨bY,bZ,bX⟩:=kP.q3;have b0:=kP.lt;go_wp2_with fail
  refine (G.out W).mono ?_;rintro e w1 ⟨v,K,rfl,I,rfl,a,m,c,rfl,hm⟩;have aL:=af I J.size J;replace V:=V.next I
  have cm:(m:Int)<=(n:Int):=o_;have⟨bz,b1,b3,ca⟩:=V.q4;have aM:=V.frozen 0;have a1:=V.frozen 1;have a9:=V.frozen 2;have b9:=V.frozen 3;have k9:=(((V.set 0 ()).set 1 ()).set 2 ()).set 3 ();have ad:=(((aL.setCell (p:=rR) H ()).setCell (p:=⟨rR,1,none⟩) H ()).setCell (p:=⟨rR,2,none⟩) H ()).setCell (p:=⟨rR,3,none⟩) H ();go_wp2;generalize World.setCell _ _ _=w9 at ad k9 ⊢;have⟨q0,q1,q2,q3⟩:=k9.q4;exact Uh (v:=.tuple #[.agg #[(),(),(),()],false]) yZ rfl nZ
 .simp only[lK];have HM:=h_ (Dh 0 0 1 o_ o_ o_ RX);have e1:jB 0 0=.agg #[dr 0,cK 0,dr 0,cK 0]:=rfl;rw[e1];have e2:jB (0*4096 / 1) (-(-(0*4096) / 1))=.agg #[dr 0,cK 0,dr 0,cK 0]:=rfl;rw[e2] at HM;generalize dr 0=na,cK 0=da at *;go_enter Tryz.func185,Tryz.ntmps185;go_upto_region 1 with fail
  generalize ((w.alloc _).alloc _).alloc _=W,hq:w.heap.size+1+1=rR at *;have⟨a4,a3⟩:=kC.q2;have a5:=kC.lt;have⟨bY,bZ,bX⟩:=kP.q3;have b0:=kP.lt;go_wp2_with fail
  refine (G.out W).mono ?_;rintro e w1 ⟨v,K,rfl,I,rfl⟩;have aL:=af I J.size J;replace V:=V.next I
  go_wp2_with fail
  refine ai (HM.out w1) λw2 U=>?_;replace aL:=af U aL.size aL;replace V:=V.next U
  have⟨bz,b1,b3,ca⟩:=V.q4;have aM:=V.frozen 0;have a1:=V.frozen 1;have a9:=V.frozen 2;have b9:=V.frozen 3;have k9:=(((V.set 0 na).set 1 da).set 2 na).set 3 da;have ad:=(((aL.setCell (p:=rR) H na).setCell (p:=⟨rR,1,none⟩) H da).setCell (p:=⟨rR,2,none⟩) H na).setCell (p:=⟨rR,3,none⟩) H da;go_wp2;generalize World.setCell _ _ _=w9 at ad k9 ⊢;have⟨q0,q1,q2,q3⟩:=k9.q4;exact Uh (v:=.tuple #[.agg #[na,da,na,da],true]) yZ rfl nZ
 .have hb:=b5 rfl;have⟨zx,zz⟩:=a6 r rfl;have aa:=zM hb hk (show 1<=3*(4:Int) ^ n by omega);have e1:lD (rtB r.1 r.2) (dL A B) (3*4 ^ n)=max 0 (3*((rtB r.1 r.2:Int) - 1) - dL A B)*4096 / (3*4 ^ n):=by unfold lD;rw[Int.max_comm]
  have e2:mz (rtB r.1 r.2) (dL A B) (3*4 ^ n)=-(-((3*(rtB r.1 r.2:Int)+dL A B)*4096) / (3*4 ^ n)):=by unfold mz;rw[Int.neg_mul]
  have b6:=λW=>Dh (max 0 (3*((rtB r.1 r.2:Int) - 1) - dL A B)) (3*(rtB r.1 r.2:Int)+dL A B) (3*4 ^ n) o_ o_ o_ (by rw[<-e1,<-e2];exact aa) W;rw[<-e1,<-e2] at b6;have Z:=h_ b6;have ac:Hid (∀x y W,Rw 172 #[.int .i64 x,.int .i64 y] W (max x y:Int)):=h_ (λx y W=>(mU x y W).mono λ_ _ h=>⟨by rw[h.1];congr 2;omega,h.2.symm⟩);simp only[lK];unfold jB at Z ⊢;have⟨x,z⟩:=r;simp only at *;generalize lD (rtB x z) (dL A B) (3*4 ^ n)=lo,mz (rtB x z) (dL A B) (3*4 ^ n)=hi at *;have ab:=h_ (λW l1 l2=>Qb x z l1 l2 (Ui zx.len o_) (Ui zz.len o_) W);generalize rtB x z=b,dL A B=k,(4:Int) ^ n=p4,dr lo=na,cK lo=da,dr hi=nb,cK hi=db at *;go_enter Tryz.func185,Tryz.ntmps185;go_upto_region 1 with fail
  generalize ((w.alloc _).alloc _).alloc _=W,hq:w.heap.size+1+1=rR at *;have⟨a4,a3⟩:=kC.q2;have a5:=kC.lt;have⟨bY,bZ,bX⟩:=kP.q3;have b0:=kP.lt;go_wp2_with fail
  refine (G.out W).mono ?_;rintro e w1 ⟨v,K,rfl,I,rfl,hO⟩;have aL:=af I J.size J;replace V:=V.next I
  replace kC:=kC.next I
  obtain⟨g,F,ax,cx,az,cz,rfl,bq,_,g0,g1,g2,g3,rx,rz⟩:=hO.form;have cB:=h_ (λW (hb:Below w1 w1 W)=>ab.out W _ _ (rx.1.below hb) (rz.1.below hb));generalize (dg x.natAbs).length=nx,(dg z.natAbs).length=nz,decide (x<0)=sx,decide (z<0)=sz at *;have cm:¬((n+1:Nat):Int)<=(n:Int):=o_;have⟨a4,a3⟩:=kC.q2;have a5:=kC.lt;go_upto_region 6 with fail
  (refine bP k_ k_ ?_;(repeat (go_big_quiet_step ((first|(go_at_call 238;with_reducible exact Calls.quiet_cls an _ (cB.out _ (aU.over _).below))|(go_at_call 239;with_reducible exact Calls.quiet_cls an _ (HK.out _))))));refine wpQuiet_nil ?_;intro w2 U)
  replace aL:=af U aL.size aL;replace V:=V.next U
  go_wp2_with (first|(go_at_call 172;refine ay (ac.out _ _ _) ?_)|(go_at_call 240;refine ay (HP.out _) ?_))
  refine ai (Z.out w2) λw3 aF=>?_;replace aL:=af aF aL.size aL;replace V:=V.next aF
  have⟨bz,b1,b3,ca⟩:=V.q4;have aM:=V.frozen 0;have a1:=V.frozen 1;have a9:=V.frozen 2;have b9:=V.frozen 3;have k9:=(((V.set 0 na).set 1 da).set 2 nb).set 3 db;have ad:=(((aL.setCell (p:=rR) H na).setCell (p:=⟨rR,1,none⟩) H da).setCell (p:=⟨rR,2,none⟩) H nb).setCell (p:=⟨rR,3,none⟩) H db;go_wp2;generalize World.setCell _ _ _=w9 at ad k9 ⊢;have⟨q0,q1,q2,q3⟩:=k9.q4;exact Uh (v:=.tuple #[.agg #[na,da,nb,db],true]) yZ rfl nZ
def PT(A B X Y E n:Int)(hC:be A B=true)(G:bW A B (X,Y,E))(w):
 Rv 184 #[.agg #[A,B],.agg #[X,Y,E],n] w (.bool (av n 0 5)):=by
 have⟨kC,kP,J⟩:=cr w #[A,B] 42 #[X,Y,E] 46;have h0:=λW=>A_ A B X Y E hC W;rw[uI G] at h0;have HI:=h_ (cw n 0 5);generalize av n 0 5=g at *;go_enter Tryz.func184,Tryz.ntmps184;go_upto_region 1 with fail
 generalize (w.alloc _).alloc _=W at *;have⟨a4,a3⟩:=kC.q2;have⟨bY,bZ,bX⟩:=kP.q3;go_wp2_with fail
 refine ai ((h_ h0).out W) λw1 I=>?_;go_wp2_with ((go_at_call 104;refine ay (HI.out _) ?_))
 go_ret;exact pE
def NC(A B X Y E n:Int)(hC:be A B=true)(G:bW A B (X,Y,E))(w):
 Rv 130 #[.agg #[A,B],.agg #[X,Y,E],n] w (lK (iq A B X E n)):=by
 have⟨kC,kP,V,J⟩:=fh w #[A,B] 42 #[X,Y,E] 46 #[(),(),(),()] 145;have H:w.heap.size<=w.heap.size+1+1:=o_;have⟨hA,hB⟩:=fe hC;have⟨hX,_,hE⟩:=G.bd;simp only at hX hE;have h1:=λW=>PT A B X Y E n hC G W;have HV:Hid (iq A B X E n=if av n 0 5=true then jZ A B X E n.toNat else none):=rfl;rw[HV.out];cases hi:av n 0 5
 .rw[hi] at h1;rw[Uj s_];have F:=h_ h1;go_enter Tryz.func130,Tryz.ntmps130;go_upto_region 1 with fail
  generalize ((w.alloc _).alloc _).alloc _=W,hq:w.heap.size+1+1=rR at *;have⟨a4,a3⟩:=kC.q2;have a5:=kC.lt;have⟨bY,bZ,bX⟩:=kP.q3;have b0:=kP.lt;go_wp2_with fail
  refine ai (F.out W) λw1 I=>?_;have aL:=af I J.size J;replace V:=V.next I
  have⟨bz,b1,b3,ca⟩:=V.q4;have aM:=V.frozen 0;have a1:=V.frozen 1;have a9:=V.frozen 2;have b9:=V.frozen 3;have k9:=(((V.set 0 ()).set 1 ()).set 2 ()).set 3 ();have ad:=(((aL.setCell (p:=rR) H ()).setCell (p:=⟨rR,1,none⟩) H ()).setCell (p:=⟨rR,2,none⟩) H ()).setCell (p:=⟨rR,3,none⟩) H ();go_wp2;generalize World.setCell _ _ _=w9 at ad k9 ⊢;have⟨q0,q1,q2,q3⟩:=k9.q4;exact Uh (v:=.tuple #[.agg #[(),(),(),()],false]) It rfl nZ
 .rw[hi] at h1;rw[Um rfl];have hn:=bH hi;obtain⟨m,rfl⟩:∃m:Nat,n=m:=⟨n.toNat,by omega⟩
  rw[show ((m:Int)).toNat=m by omega];have g:=h_ (Od A B X Y E m hA hB (Bh hC) hX hE o_);obtain⟨na,da,nb,db,ok,hv⟩:∃na da nb db ok,lK (jZ A B X E m)=.tuple #[.agg #[.int .i64 na,.int .i64 da,.int .i64 nb,.int .i64 db],.bool ok]:=by
   cases jZ A B X E m with
   |none=>exact⟨_,_,_,_,_,rfl⟩
   |some p=>exact⟨_,_,_,_,_,rfl⟩
  rw[hv] at g ⊢;go_enter Tryz.func130,Tryz.ntmps130;go_upto_region 1 with fail
  generalize ((w.alloc _).alloc _).alloc _=W,hq:w.heap.size+1+1=rR at *;have⟨a4,a3⟩:=kC.q2;have a5:=kC.lt;have⟨bY,bZ,bX⟩:=kP.q3;have b0:=kP.lt;go_wp2_with fail
  refine ai ((h_ h1).out W) λw1 I=>?_;have aL:=af I J.size J;replace V:=V.next I
  replace kC:=kC.next I
  replace kP:=kP.next I
  have⟨a4,a3⟩:=kC.q2;have a5:=kC.lt;have⟨bY,bZ,bX⟩:=kP.q3;have b0:=kP.lt;go_wp2_with fail
  refine ai (g.out w1) λw2 U=>?_;replace aL:=af U aL.size aL;replace V:=V.next U
  have⟨bz,b1,b3,ca⟩:=V.q4;have aM:=V.frozen 0;have a1:=V.frozen 1;have a9:=V.frozen 2;have b9:=V.frozen 3;have k9:=(((V.set 0 na).set 1 da).set 2 nb).set 3 db;have ad:=(((aL.setCell (p:=rR) H na).setCell (p:=⟨rR,1,none⟩) H da).setCell (p:=⟨rR,2,none⟩) H nb).setCell (p:=⟨rR,3,none⟩) H db;go_wp2;generalize World.setCell _ _ _=w9 at ad k9 ⊢;have⟨q0,q1,q2,q3⟩:=k9.q4;exact Uh (v:=.tuple #[.agg #[na,da,nb,db],ok]) It rfl nZ
end Go.Proofs.YtaamhakdhaolmaaGreatDoor
