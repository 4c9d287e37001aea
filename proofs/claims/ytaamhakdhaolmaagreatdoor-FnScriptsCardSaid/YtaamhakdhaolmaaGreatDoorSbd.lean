/- Part 29. -/
import Derived.Test.YtaamhakdhaolmaaGreatDoorSal
import Derived.Test.YtaamhakdhaolmaaGreatDoorSax
import Derived.Test.YtaamhakdhaolmaaGreatDoorSbc
namespace Go.Proofs.YtaamhakdhaolmaaGreatDoor
open Go.RowKit Go.Proofs.Tryz
open World(setCell)
set_option maxHeartbeats 8000000
set_option maxRecDepth 100000
variable {P:Prop}
set_option linter.all false
def ql(h:P:=by simp [results,results102,go_sem,q0,q1]):=h
def qa(h:P:=by rw[nc,h1,h2];exact h.2):=h
def FY(h:P:=by rw[<-az];exact List.mem_map_of_mem (f:=λy:ak=>y.data.toList) hx):=h
def AU(h:P:=by show rR≠rF;omega):=h
def AG(h:P:=by show rR<=rF;omega):=h
def FN(h:P:=by
 go_wp2;generalize (setCell (setCell _ _ _) _ _)=w9 at k9 ad ⊢;have⟨q0,q1⟩:=k9.q2;refine Vk (v:=.tuple #[.agg #[(),()],false]) ql rfl ?_;exact⟨(by rw[HN.out];rfl),bv.out▸ad⟩):=h
def uY(h:P:=by
 exact⟨(by rw[HN.out];rfl),bv.out▸ad⟩):=h
def AK(h:P:=by
 have HN:Hid (bA s.data.toList=none):=h_ (jY λa b h=>by
  obtain⟨h1,h2⟩:=HK.out a b h;rw[h1,h2,h.1] at aa;cases aa)
 clear aa HK;have⟨bx,bz⟩:=V.q2;have⟨aM,a1⟩:=V.f2;have ax:=V.lt;have k9:=(V.set 0 ()).set 1 ();have ad:af rR w ((wG.setCell ⟨rR,0,none⟩ ()).setCell ⟨rR,1,none⟩ ()):=(a4.setCell s_ _).setCell s_ _;exact FN):=h
def zW(h:P:=by
 clear HK;have⟨bx,bz⟩:=V.q2;have⟨aM,a1⟩:=V.f2;have ax:=V.lt;have k9:=(V.set 0 ()).set 1 ();have ad:af rR w ((wT.setCell ⟨rR,0,none⟩ ()).setCell ⟨rR,1,none⟩ ()):=(a8.setCell s_ _).setCell s_ _;exact FN):=h
def IU(h:P:=by
 obtain⟨_,h1,h2,h3⟩:=uP h;rcases h1 with ⟨h1,rfl⟩|h1
 .rw[aZ] at h1;have:=(WX h1).2;cases this
 .rw[aZ] at h1;obtain⟨e1,e2⟩:=WX h1;have e3:=(WX e2).1;exact⟨by rw[aF.out,e1,h2],by rw[<-hd,e3,h3]⟩):=h
def IM(h:P:=by
 obtain⟨_,h1,h2,h3⟩:=uP h;have hc:=b3.out ae;rcases h1 with ⟨h1,rfl⟩|h1
 .rw[hc] at h1;have:=(WX h1).1;exact⟨by rw[aF.out,this,h2],rfl⟩
 .rw[hc] at h1;have:=(WX h1).2;cases this):=h
def uV(h:P:=by
 exact uY):=h
def L9(h:P:=by
 obtain⟨n,rfl⟩:∃n,n=r0:=⟨_,rfl⟩
 rcases ae with ae|ae
 .have HK:Hid (∀a b,fO s.data.toList a b->n=a/\1=b):=h_ λa b h=>by
   exact IM
  have a7:((m:Int)==2)=false:=u_;clear b3 b1 aF ae;have HG:=h_ (nd n (1));have⟨Z,aL,a2⟩:=kF.p2;go_wp2_with fail
  refine aj (HG.out _) λwG H=>?_;have bX:=V.lt;replace kF:=kF.next H
  replace V:=V.next H
  have a4:=ag H (Vq bX) F;clear Z aL a2 HG H;cases aa:bQ n (1)
  .exact AK
  .have HT:=h_ (ph n (1) aa);have⟨Z,aL,a2⟩:=kF.p2;have a6:=h_ aa;clear aa;go_wp2_with fail
   refine aj (HT.out _) λwT K=>?_;have bs:=V.lt;replace kF:=kF.next K
   replace V:=V.next K
   have a8:=ag K (Vq bs) a4;clear Z aL a2 HT K;have⟨Z,aL,a2⟩:=kF.p2;cases hq:((aH n (1)).toList==s.toList)
   .have HN:Hid (bA s.data.toList=none):=h_ (jY λa b h=>by
     obtain⟨h1,h2⟩:=HK.out a b h;have h3:((aH n (1)).toList==s.toList)=true:=iP.2 qa;rw[hq] at h3;cases h3)
    exact zW
   .have HN:Hid (bA s.data.toList=some (n,1)):=h_ (mV ⟨a6.out,by rw[<-nc];exact iP.1 hq⟩);clear HK;have⟨bx,bz⟩:=V.q2;have⟨aM,a1⟩:=V.f2;have ax:=V.lt;have k9:=(V.set 0 n).set 1 (1:Int);have ad:af rR w ((wT.setCell ⟨rR,0,none⟩ n).setCell ⟨rR,1,none⟩ (1:Int)):=(a8.setCell s_ _).setCell s_ _;go_wp2;generalize (setCell (setCell _ _ _) _ _)=w9 at k9 ad ⊢;have⟨q0,q1⟩:=k9.q2;refine Vk (v:=.tuple #[.agg #[n,(1:Int)],true]) ql rfl ?_;exact uV
 .have a7:((m:Int)==2)=true:=u_;obtain⟨x1,aZ,b7,q1⟩:=b1.out ae;have b4:=λW=>ue x1 o_ W;obtain⟨d,hd⟩:∃d:Int,bL 10 x1.data.toList=d:=⟨_,rfl⟩
  have HK:Hid (∀a b,fO s.data.toList a b->n=a/\d=b):=h_ λa b h=>by
   exact IU
  have bp:=tP x1.data.toList;have b5:=oU 10 x1.data.toList;rw[hd] at b4 bp b5;have a5:=h_ b4;have ca:W5.cell? ⟨g,1,none⟩=some (.string x1):=(ab.cell (p:=⟨g,1,none⟩) (by show g<_;omega)).trans q1;have cy:(1:Int)<(m:Int):=o_;have lF:=kF.lt;have cc:=V.lt;clear b3 b1 aF hd aZ b7 q1 ae b4;have⟨Z,aL⟩:=kF.q2;have⟨bZ,bY⟩:=kF.f2;have a2:=kF.lt;have f9:=kF.set 1 d;have r9:=V.far (p:=⟨rF,1,none⟩) AU d;have b9:af rR w (W5.setCell ⟨rF,1,none⟩ d):=F.setCell AG _;go_wp2_with fail
  refine (a5.out _).mono ?_;rintro e w6 ⟨rfl,rfl⟩;go_upto_region 9 with fail
  generalize (setCell _ _ _)=W7 at f9 r9 b9 ⊢;simp only[V7,Wj,Wx] at f9;clear Z aL bZ bY a2 kF V F ca ab;have kF:=f9;have V:=r9;have F:=b9;clear f9 r9 b9;have HG:=h_ (nd n d);have⟨Z,aL,a2⟩:=kF.p2;go_wp2_with fail
  refine aj (HG.out _) λwG H=>?_;have bX:=V.lt;replace kF:=kF.next H
  replace V:=V.next H
  have a4:=ag H (Vq bX) F;clear Z aL a2 HG H;cases aa:bQ n d
  .exact AK
  .have HT:=h_ (ph n d aa);have⟨Z,aL,a2⟩:=kF.p2;have a6:=h_ aa;clear aa;go_wp2_with fail
   refine aj (HT.out _) λwT K=>?_;have bs:=V.lt;replace kF:=kF.next K
   replace V:=V.next K
   have a8:=ag K (Vq bs) a4;clear Z aL a2 HT K;have⟨Z,aL,a2⟩:=kF.p2;cases hq:((aH n d).toList==s.toList)
   .have HN:Hid (bA s.data.toList=none):=h_ (jY λa b h=>by
     obtain⟨h1,h2⟩:=HK.out a b h;have h3:((aH n d).toList==s.toList)=true:=iP.2 qa;rw[hq] at h3;cases h3)
    exact zW
   .have HN:Hid (bA s.data.toList=some (n,d)):=h_ (mV ⟨a6.out,by rw[<-nc];exact iP.1 hq⟩);clear HK;have⟨bx,bz⟩:=V.q2;have⟨aM,a1⟩:=V.f2;have ax:=V.lt;have k9:=(V.set 0 n).set 1 d;have ad:af rR w ((wT.setCell ⟨rR,0,none⟩ n).setCell ⟨rR,1,none⟩ d):=(a8.setCell s_ _).setCell s_ _;go_wp2;generalize (setCell (setCell _ _ _) _ _)=w9 at k9 ad ⊢;have⟨q0,q1⟩:=k9.q2;refine Vk (v:=.tuple #[.agg #[n,d],true]) ql rfl ?_;exact uV):=h
def Lg(h:P:=by
 exact AK):=h
def Lz(h:P:=by
 clear hf az cm;have⟨bx,bz⟩:=V.q2;have⟨aM,a1⟩:=V.f2;have ax:=V.lt;have k9:=(V.set 0 ()).set 1 ();have ad:af rR w ((w1.setCell ⟨rR,0,none⟩ ()).setCell ⟨rR,1,none⟩ ()):=(F.setCell s_ _).setCell s_ _;go_wp2;generalize (setCell (setCell _ _ _) _ _)=w9 at k9 ad ⊢;have⟨q0,q1⟩:=k9.q2;refine Vk (v:=.tuple #[.agg #[(),()],false]) ql rfl ?_;exact uV):=h
def LJ(h:P:=by
 exact zW):=h
def nq(h:P:=by
 exact uV):=h
open Classical in
noncomputable def bA(l:List UInt8):Option (Int×Int):=if h:∃p:Int×Int,fO l p.1 p.2 then some h.choose else none
def mV{l}{a b}(h:fO l a b):bA l=some (a,b):=by
 have hx:∃p:Int×Int,fO l p.1 p.2:=⟨(a,b),h⟩
 unfold bA;rw[dif_pos hx];have h2:=fO.uniq hx.choose_spec h;exact congrArg some (Prod.ext h2.1 h2.2)
def jY{l}(h:∀a b,¬fO l a b):bA l=none:=by
 unfold bA;rw[Y4];rintro⟨p,G⟩;exact h _ _ G
def Ub{l}{p:Int×Int}(h:bA l=some p):fO l p.1 p.2:=by
 unfold bA at h;split at h
 .rename_i hx;cases h;exact hx.choose_spec
 .cases h
def oL:Option (Int×Int)->Value
 |some p=>.tuple #[.agg #[.int .i64 p.1,.int .i64 p.2],.bool true]
 |none=>.tuple #[.agg #[.int .i64 0,.int .i64 0],.bool false]
theorem re(b:UInt8):∀(l) (p),p∈cn b l->p.length<=l.length
 |[],p,h=>by simp [cn] at h;subst h;simp
 |x::l,p,h=>by
  rw[js] at h;split at h
  .rcases VL.1 h with h|h
   .subst h;simp
   .have:=re b l p h;simp;omega
  .cases hc:cn b l with
   |nil=>exact absurd hc (nX b l)
   |cons q g=>
    rw[hc] at h;simp only[jB,List.singleton_append,VL] at h;rcases h with h|h
    .have:=re b l q (by rw[hc];simp);subst h;simp;omega
    .have:=re b l p (by rw[hc];simp [h]);simp;omega
def tP(l):bL 10 l<10000000000:=by
 unfold bL;split
 .omega
 .rename_i h;simp at h;cases hd:Lib.decFrom 0 l with
  |none=>simp
  |some m=>
   have:=Lib.decFrom_lt l 0 m hd;have h2:10 ^ l.length<=10 ^ 10:=WD o_ o_;simp only;omega
def uP{l}{a b}(h:fO l a b):l.length<=22/\((cn 47 l=[Lib.itoa a]/\b=1)\/cn 47 l=[Lib.itoa a,Lib.itoa b])/\oH (Lib.itoa a)=a/\bL 10 (Lib.itoa b)=b:=by
 obtain⟨h1,rfl⟩:=h;have⟨hb,ha⟩:=po h1;refine⟨yQ h1,?_,Rh ha,NS hb⟩;by_cases I:b=1
 .subst I;exact .inl ⟨Py,rfl⟩
 .exact .inr (Rr I)
def Tj{α β:Type}{f:α->β}{xs:List α}(h:xs.length=1):xs.map f=[f (xs[0]'o_)]:=by
 match xs,h with
 |[x],_=>rfl
def ES{α β:Type}{f:α->β}{xs:List α}(h:xs.length=2):xs.map f=[f (xs[0]'o_),f (xs[1]'o_)]:=by
 match xs,h with
 |[x,y],_=>rfl
def iP{s t:ak}:(s.toList==t.toList)=true↔s.data.toList=t.data.toList:=by
 rw[WO,Vw,Vw]
def xI(s:ak)(hs:s.size<=100000000)(w:World):
 Rv 102 #[s] w (oL (bA s.data.toList)):=by
 have HS:Hid (∀W:World,Kp 61 #[s,.int .u8 47] W λe w'=>∃v,e=.returned v/\cU w' W v (bB s 47)/\af W W w'):=h_ λW=>gL s 47 W hs;have az:=ky s 47;have hl:s.data.toList.length=s.size:=Vy;have cZ:=(yd s 47).2;have cm:∀x∈bB s 47,x.size<=s.size:=λx hx=>by
  have:=re 47 s.data.toList x.data.toList FY;rw[hl] at this;rw[Lib.size_eq];exact this
 have⟨V,J⟩:=ay w #[(),()] 96;generalize bB s 47=xs at *;go_enter func102,ntmps102;go_upto_region 1 with fail
 generalize w.alloc _=W,a9:w.heap.size=rR at *;have bv:Hid (w.heap.size=rR):=a9;clear a9;go_wp2_with fail
 refine (HS.out _).mono ?_;rintro e w1 ⟨v,rfl,ov,I⟩;have lR:=V.lt;replace V:=V.next I
 have F:=ag I (Vq lR) J;have cu:=V.lt;obtain⟨la,b2,rfl,bo,hf⟩:=ov.form;clear ov HS I J lR;by_cases cA:22<s.size
 .have HN:Hid (bA s.data.toList=none):=h_ (jY λa b h=>by have:=(uP h).1;omega);have cb:(22:Int)<(s.size:Int):=o_;exact Lz
 .have cb:¬(22:Int)<(s.size:Int):=o_;by_cases h2:2<xs.length
  .have HN:=h_ (jY λa b h=>by
    have hx:=congrArg List.length az;rw[Yx] at hx;rcases (uP h).2.1 with ⟨h,_⟩|h
    .rw[h] at hx;simp at hx;omega
    .rw[h] at hx;simp at hx;omega)
   have b8:(2:Int)<(xs.length:Int):=o_;exact Lz
  .have b8:¬(2:Int)<(xs.length:Int):=o_;obtain⟨g,rfl,q0,_,bq,_⟩:=hf 0 o_;have aX:=cm xs[0] (VC _);have b3:Hid (xs.length=1->cn 47 s.data.toList=[xs[0].data.toList]):=h_ λh=>by
    rw[<-az];exact Tj h
   have b1:Hid (xs.length=2->∃x1,cn 47 s.data.toList=[xs[0].data.toList,x1.data.toList]/\x1.size<=s.size/\w1.cell? ⟨g,1,none⟩=some (.string x1)):=h_ λh=>by
    have⟨g',e1,q1,_⟩:=hf 1 o_;simp only[WI,YT,and_true] at e1;subst e1;refine⟨xs[1],?_,cm _ (VC _),q1⟩;rw[<-az];exact ES h
   have ae:xs.length=1\/xs.length=2:=o_;have co:(0:Int)<(xs.length:Int):=o_;clear hf az cm;generalize xs[0]=x0 at *;generalize xs.length=m at *;have ba:=h_ (ue x0 o_);have b6:=tP x0.data.toList;have cz:=oU 10 x0.data.toList;have a3:oH x0.data.toList=if x0.data.toList.head?=some 45 then -(bL 10 x0.data.toList.tail) else bL 10 x0.data.toList:=rfl
   generalize bL 10 x0.data.toList=r0 at *;have aG:=h_ a3;clear a3;go_wp2_with fail
   refine (ba.out _).mono ?_;rintro e w2 ⟨rfl,rfl⟩;go_upto_region 5 with fail
   have kF:=ah.new w1 #[r0,(1:Int)] 96;replace V:=V.alloc (.cells #[r0,(1:Int)] 96);have ab:af w1 w1 (w1.alloc (.cells #[r0,(1:Int)] 96)):=(Vn _ _).alloc (Vj _) _;have b0:=cu;replace F:=ag ab (Vq b0) F;generalize w1.alloc _=W5 at *;have cv:=(ab.cell (p:=g) bq).trans q0;generalize w1.heap.size=rF at *;clear q0 ba;by_cases hz:0<x0.size
   .have hh:=ux hz;have ac:(1:Int)<=(x0.size:Int):=o_;cases hq:((x0[0].toNat:Int)==45)
    .have aF:Hid (r0=oH x0.data.toList):=h_ (by
      rw[aG.out,Vm];rw[hh];intro h;injection h with h;rw[h] at hq;cases hq)
     clear hh aG;exact L9
    .have b4:=λW=>ue (x0.extract 1 x0.size) u_ W;have e0:(x0.extract 1 x0.size).data.toList=x0.data.toList.tail:=by
      rw[Lib.extract_data,VO s_];simp
     rw[e0] at b4;have I:=tP x0.data.toList.tail;have U:=oU 10 x0.data.toList.tail;have aF:Hid (-(bL 10 x0.data.toList.tail)=oH x0.data.toList):=h_ (by
      rw[aG.out,Vo];rw[hh];have h9:=by simpa using hq
      exact congrArg some (Xs.1 (by show x0[0].toNat=45;omega)))
     clear hh aG e0;generalize bL 10 x0.data.toList.tail=r1 at *;have a5:=h_ b4;have G:IntKind.i64.wrap (-r1)=-r1:=Wg _ o_;clear b4;obtain⟨n,hn⟩:∃n,n=-r1:=⟨_,rfl⟩
     have⟨Z,aL⟩:=kF.q2;have⟨bZ,bY⟩:=kF.f2;have a2:=kF.lt;have f9:=kF.set 0 (-r1:Int);have r9:=V.far (p:=rF) AU (-r1:Int);have b9:af rR w (W5.setCell rF (-r1:Int)):=F.setCell AG _;have x9:af rF w1 (W5.setCell rF (-r1:Int)):=ab.setCell s_ _;go_wp2_with fail
     refine (a5.out _).mono ?_;rintro e w6 ⟨rfl,rfl⟩;go_upto_region 7 with fail
     generalize (setCell _ _ _)=W6 at f9 r9 b9 x9 ⊢;simp only[V7,Wj,Wx] at f9;rw[<-hn] at aF f9;clear Z aL bZ bY a2 kF V F ab cv hn;have kF:=f9;have V:=r9;have F:=b9;have ab:=x9;clear f9 r9 b9 x9;rcases ae with ae|ae
     .have HK:Hid (∀a b,fO s.data.toList a b->n=a/\1=b):=h_ λa b h=>by
       exact IM
      have a7:((m:Int)==2)=false:=u_;clear b3 b1 aF ae;have HG:=h_ (nd n (1));have⟨Z,aL,a2⟩:=kF.p2;go_wp2_with fail
      refine aj (HG.out _) λwG H=>?_;have bX:=V.lt;replace kF:=kF.next H
      replace V:=V.next H
      have a4:=ag H (Vq bX) F;clear Z aL a2 HG H;cases aa:bQ n (1)
      .exact Lg
      .have HT:=h_ (ph n (1) aa);have⟨Z,aL,a2⟩:=kF.p2;have a6:=h_ aa;clear aa;go_wp2_with fail
       refine aj (HT.out _) λwT K=>?_;have bs:=V.lt;replace kF:=kF.next K
       replace V:=V.next K
       have a8:=ag K (Vq bs) a4;clear Z aL a2 HT K;have⟨Z,aL,a2⟩:=kF.p2;cases hq:((aH n (1)).toList==s.toList)
       .have HN:=h_ (jY λa b h=>by
         have⟨h1,h2⟩:=HK.out a b h;have h3:((aH n (1)).toList==s.toList)=true:=iP.2 qa;rw[hq] at h3;cases h3)
        exact LJ
       .have HN:Hid (bA s.data.toList=some (n,1)):=h_ (mV ⟨a6.out,by rw[<-nc];exact iP.1 hq⟩);clear HK;have⟨bx,bz⟩:=V.q2;have⟨aM,a1⟩:=V.f2;have ax:=V.lt;have k9:=(V.set 0 n).set 1 (1:Int);have ad:af rR w ((wT.setCell rR n).setCell ⟨rR,1,none⟩ (1:Int)):=(a8.setCell s_ _).setCell s_ _;go_wp2;generalize (setCell (setCell _ _ _) _ _)=w9 at k9 ad ⊢;have⟨q0,q1⟩:=k9.q2;refine Vk (v:=.tuple #[.agg #[n,(1:Int)],true]) ql rfl ?_;exact nq
     .have a7:((m:Int)==2)=true:=u_;have⟨x1,aZ,b7,q1⟩:=b1.out ae;have b4:=λW=>ue x1 o_ W;obtain⟨d,hd⟩:∃d:Int,bL 10 x1.data.toList=d:=⟨_,rfl⟩
      have HK:Hid (∀a b,fO s.data.toList a b->n=a/\d=b):=h_ λa b h=>by
       exact IU
      have bp:=tP x1.data.toList;have b5:=oU 10 x1.data.toList;rw[hd] at b4 bp b5;have a5:=h_ b4;have ca:=(ab.cell (p:=⟨g,1,none⟩) (by show g<_;omega)).trans q1;have cy:(1:Int)<(m:Int):=o_;have lF:=kF.lt;have cc:=V.lt;clear b3 b1 aF hd aZ b7 q1 ae b4;have⟨Z,aL⟩:=kF.q2;have⟨bZ,bY⟩:=kF.f2;have a2:=kF.lt;have f9:=kF.set 1 d;have r9:=V.far (p:=⟨rF,1,none⟩) AU d;have b9:af rR w (W6.setCell ⟨rF,1,none⟩ d):=F.setCell AG _;go_wp2_with fail
      refine (a5.out _).mono ?_;rintro e w6 ⟨rfl,rfl⟩;go_upto_region 9 with fail
      generalize (setCell _ _ _)=W7 at f9 r9 b9 ⊢;simp only[V7,Wj,Wx] at f9;clear Z aL bZ bY a2 kF V F ca ab;have kF:=f9;have V:=r9;have F:=b9;clear f9 r9 b9;have HG:=h_ (nd n d);have⟨Z,aL,a2⟩:=kF.p2;go_wp2_with fail
      refine aj (HG.out _) λwG H=>?_;have bX:=V.lt;replace kF:=kF.next H
      replace V:=V.next H
      have a4:=ag H (Vq bX) F;clear Z aL a2 HG H;cases aa:bQ n d
      .exact Lg
      .have HT:=h_ (ph n d aa);have⟨Z,aL,a2⟩:=kF.p2;have a6:=h_ aa;clear aa;go_wp2_with fail
       refine aj (HT.out _) λwT K=>?_;have bs:=V.lt;replace kF:=kF.next K
       replace V:=V.next K
       have a8:=ag K (Vq bs) a4;clear Z aL a2 HT K;have⟨Z,aL,a2⟩:=kF.p2;cases hq:((aH n d).toList==s.toList)
       .have HN:=h_ (jY λa b h=>by
         have⟨h1,h2⟩:=HK.out a b h;have h3:((aH n d).toList==s.toList)=true:=iP.2 qa;rw[hq] at h3;cases h3)
        exact LJ
       .have HN:Hid (bA s.data.toList=some (n,d)):=h_ (mV ⟨a6.out,by rw[<-nc];exact iP.1 hq⟩);clear HK;have⟨bx,bz⟩:=V.q2;have⟨aM,a1⟩:=V.f2;have ax:=V.lt;have k9:=(V.set 0 n).set 1 d;have ad:af rR w ((wT.setCell rR n).setCell ⟨rR,1,none⟩ d):=(a8.setCell s_ _).setCell s_ _;go_wp2;generalize (setCell (setCell _ _ _) _ _)=w9 at k9 ad ⊢;have⟨q0,q1⟩:=k9.q2;refine Vk (v:=.tuple #[.agg #[n,d],true]) ql rfl ?_;exact nq
   .have bi:¬(0:Int)<(x0.size:Int):=o_;have aF:Hid (r0=oH x0.data.toList):=h_ (by
     rw[aG.out,Vm];have:x0.data.toList=[]:=VY.1 (by have:x0.data.toList.length=x0.size:=Vy;omega);rw[this];simp)
    clear aG;exact L9
def An(h:P:=by simp [results,results89,go_sem,q0,q1]):=h
def Ad(h:P:=by
 go_wp2;generalize (setCell (setCell _ _ _) _ _)=w9 at k9 ad ⊢;have⟨q0,q1⟩:=k9.q2;refine Vk (v:=.tuple #[.agg #[(),()],false]) An rfl ?_;exact uY):=h
def Kt(h:P:=by
 have HN:Hid (bA s.data.toList=none):=h_ (jY λa b h=>by
  obtain⟨h1,h2⟩:=HK.out a b h;rw[h1,h2,h.1] at aa;cases aa)
 clear aa HK;have⟨bx,bz⟩:=V.q2;have⟨aM,a1⟩:=V.f2;have ax:=V.lt;have k9:=(V.set 0 ()).set 1 ();have ad:af rR w ((wG.setCell ⟨rR,0,none⟩ ()).setCell ⟨rR,1,none⟩ ()):=(a4.setCell s_ _).setCell s_ _;exact Ad):=h
def wH(h:P:=by
 replace F:=ag ab (Vq g) F;go_upto_region 7 with fail
 generalize World.alloc _ _=W5 at *;have⟨bx,bz⟩:=V.q2;have⟨aM,a1⟩:=V.f2;have ax:=V.lt;have k9:=(V.set 0 ()).set 1 ();have ad:af rR w ((W5.setCell ⟨rR,0,none⟩ ()).setCell ⟨rR,1,none⟩ ()):=(F.setCell s_ _).setCell s_ _;exact Ad):=h
def Lt(h:P:=by
 clear HK;have⟨bx,bz⟩:=V.q2;have⟨aM,a1⟩:=V.f2;have ax:=V.lt;have k9:=(V.set 0 ()).set 1 ();have ad:af rR w ((wT.setCell ⟨rR,0,none⟩ ()).setCell ⟨rR,1,none⟩ ()):=(a8.setCell s_ _).setCell s_ _;exact Ad):=h
def T9{l:List UInt8}{a b:Int}(h:fO l a b):((Lib.cut l [47]=(Lib.itoa a,[],false)/\b=1)\/Lib.cut l [47]=(Lib.itoa a,Lib.itoa b,true))/\Lib.atoiAll (Lib.itoa a)=.ok a/\Lib.atoiAll (Lib.itoa b)=.ok b:=by
 obtain⟨h1,rfl⟩:=h;obtain⟨hb,ha⟩:=po h1;refine⟨?_,(rp ha).2,(rp (a:=b) o_).2⟩;by_cases I:b=1
 .subst I;exact .inl ⟨qY,rfl⟩
 .exact .inr (rr I)
def wW(s:ak)(hs:s.size<=1000000)(w:World)(hE:PEnv w):
 Rv 89 #[s] w (oL (bA s.data.toList)):=by
 have HC:=h_ (λW h=>Fk s 47 o_ W h);have cm:=FA s.data.toList 47;have hl:s.data.toList.length=s.size:=Vy;have aX:=λa b (h:fO s.data.toList a b)=>T9 h;generalize Lib.cut s.data.toList [47]=cu at *;obtain⟨p,q,more⟩:=cu;simp only[Prod.mk.injEq] at HC cm aX;have HX:=h_ aX;clear aX;obtain⟨V,J⟩:=ay w #[(),()] 96;have hW:=h_ (hE.below J);clear hE;go_enter func89,ntmps89;go_upto_region 1 with fail
 generalize w.alloc _=W at *;generalize a9:w.heap.size=rR at *;have bv:Hid (w.heap.size=rR):=a9;clear a9;go_wp2_with fail
 refine aj (HC.out _ hW.out) λw1 I=>?_;have lR:=V.lt;replace V:=V.next I
 have F:=ag I (Vq lR) J;replace hW:=h_ (hW.out.below I);have b0:=V.lt;clear HC I J lR;have ae:(⟨p.toArray⟩:ak).size<=1048576:=by show p.toArray.size<=_;simp;omega
 have G:(⟨q.toArray⟩:ak).size<=1048576:=by show q.toArray.size<=_;simp;omega
 rcases uo p with ⟨n,hn⟩|hn
 .have HA:=h_ (uc ⟨p.toArray⟩ ae n hn);have cF:=Lib.atoiAll_bounds hn;have HP:Hid (∀a:Int,p=Lib.itoa a->Lib.atoiAll (Lib.itoa a)=.ok a->n=a):=h_ (λa h1 h2=>by
   rw[h1,h2] at hn;injection hn with hn;exact hn.symm)
  clear hn;go_wp2_with fail
  refine aj (HA.out _) λw2 U=>?_;replace V:=V.next U
  replace F:=ag U (Vq b0) F;replace hW:=h_ (hW.out.below U);have g:=V.lt;clear U b0 HA;cases more
  .have HK:Hid (∀a b,fO s.data.toList a b->n=a/\1=b):=h_ λa b h=>by
    obtain⟨h1,h2,_⟩:=HX.out a b h;rcases h1 with ⟨⟨h1,_,_⟩,h3⟩|⟨_,_,h1⟩
    .exact⟨HP.out a h1 h2,h3.symm⟩
    .cases h1
   clear HX HP cm ae G;have HG:=h_ (nE n (1));have kF:=ah.new w2 #[n,(1:Int)] 96;replace V:=V.alloc (.cells #[n,(1:Int)] 96);have ab:af w2 w2 (w2.alloc (.cells #[n,(1:Int)] 96)):=(Vn _ _).alloc (Vj _) _;replace F:=ag ab (Vq g) F;replace hW:=h_ (hW.out.below ab);go_upto_region 7 with fail
   generalize World.alloc _ _=W5 at *;generalize w2.heap.size=rF at *;have⟨Z,aL,a2⟩:=kF.p2;go_wp2_with fail
   refine aj (HG.out _) λwG H=>?_;have bX:=V.lt;replace kF:=kF.next H
   replace V:=V.next H
   have a4:=ag H (Vq bX) F;replace hW:=h_ (hW.out.below H);clear Z aL a2 HG H ab;cases aa:bQ n (1)
   .exact Kt
   .have HT:=h_ (λW ht=>qw n (1) aa W ht);have⟨Z,aL,a2⟩:=kF.p2;have a6:=h_ aa;clear aa;go_wp2_with fail
    refine aj (HT.out _ hW.out.1) λwT K=>?_;have bs:=V.lt;replace kF:=kF.next K
    replace V:=V.next K
    have a8:=ag K (Vq bs) a4;clear Z aL a2 HT K;have⟨Z,aL,a2⟩:=kF.p2;cases hq:((aH n (1)).toList==s.toList)
    .have HN:Hid (bA s.data.toList=none):=h_ (jY λa b h=>by
      obtain⟨h1,h2⟩:=HK.out a b h;have h3:((aH n (1)).toList==s.toList)=true:=iP.2 qa;rw[hq] at h3;cases h3)
     exact Lt
    .have HN:Hid (bA s.data.toList=some (n,1)):=h_ (mV ⟨a6.out,by rw[<-nc];exact iP.1 hq⟩);clear HK;have⟨bx,bz⟩:=V.q2;have⟨aM,a1⟩:=V.f2;have ax:=V.lt;have k9:=(V.set 0 n).set 1 (1:Int);have ad:af rR w ((wT.setCell ⟨rR,0,none⟩ n).setCell ⟨rR,1,none⟩ (1:Int)):=(a8.setCell s_ _).setCell s_ _;go_wp2;generalize (setCell (setCell _ _ _) _ _)=w9 at k9 ad ⊢;have⟨q0,q1⟩:=k9.q2;refine Vk (v:=.tuple #[.agg #[n,(1:Int)],true]) An rfl ?_;exact nq
  .rcases uo q with ⟨d,hd⟩|hd
   .have ac:=h_ (uc ⟨q.toArray⟩ G d hd);have bp:=Lib.atoiAll_bounds hd;have HK:Hid (∀a b,fO s.data.toList a b->n=a/\d=b):=h_ λa b h=>by
     obtain⟨h1,h2,h3⟩:=HX.out a b h;rcases h1 with ⟨⟨_,_,h1⟩,_⟩|⟨h1,h4,_⟩
     .cases h1
     .refine⟨HP.out a h1 h2,?_⟩;rw[h4,h3] at hd;injection hd with hd;exact hd.symm
    clear HX HP cm ae G hd;go_wp2_with fail
    refine aj (ac.out _) λw3 aF=>?_;replace V:=V.next aF
    replace F:=ag aF (Vq g) F;replace hW:=h_ (hW.out.below aF);clear g;have g:=V.lt;clear aF ac;have HG:=h_ (nE n d);have kF:=ah.new w3 #[n,d] 96;replace V:=V.alloc (.cells #[n,d] 96);have ab:af w3 w3 (w3.alloc (.cells #[n,d] 96)):=(Vn _ _).alloc (Vj _) _;replace F:=ag ab (Vq g) F;replace hW:=h_ (hW.out.below ab);go_upto_region 7 with fail
    generalize World.alloc _ _=W5 at *;generalize w3.heap.size=rF at *;have⟨Z,aL,a2⟩:=kF.p2;go_wp2_with fail
    refine aj (HG.out _) λwG H=>?_;have bX:=V.lt;replace kF:=kF.next H
    replace V:=V.next H
    have a4:=ag H (Vq bX) F;replace hW:=h_ (hW.out.below H);clear Z aL a2 HG H ab;cases aa:bQ n d
    .exact Kt
    .have HT:=h_ (λW ht=>qw n d aa W ht);have⟨Z,aL,a2⟩:=kF.p2;have a6:=h_ aa;clear aa;go_wp2_with fail
     refine aj (HT.out _ hW.out.1) λwT K=>?_;have bs:=V.lt;replace kF:=kF.next K
     replace V:=V.next K
     have a8:=ag K (Vq bs) a4;clear Z aL a2 HT K;have⟨Z,aL,a2⟩:=kF.p2;cases hq:((aH n d).toList==s.toList)
     .have HN:Hid (bA s.data.toList=none):=h_ (jY λa b h=>by
       obtain⟨h1,h2⟩:=HK.out a b h;have h3:((aH n d).toList==s.toList)=true:=iP.2 qa;rw[hq] at h3;cases h3)
      exact Lt
     .have HN:Hid (bA s.data.toList=some (n,d)):=h_ (mV ⟨a6.out,by rw[<-nc];exact iP.1 hq⟩);clear HK;have⟨bx,bz⟩:=V.q2;have⟨aM,a1⟩:=V.f2;have ax:=V.lt;have k9:=(V.set 0 n).set 1 d;have ad:af rR w ((wT.setCell ⟨rR,0,none⟩ n).setCell ⟨rR,1,none⟩ d):=(a8.setCell s_ _).setCell s_ _;go_wp2;generalize (setCell (setCell _ _ _) _ _)=w9 at k9 ad ⊢;have⟨q0,q1⟩:=k9.q2;refine Vk (v:=.tuple #[.agg #[n,d],true]) An rfl ?_;exact nq
   .have ac:=h_ (λW h=>tI ⟨q.toArray⟩ G hd W h);have HN:Hid (bA s.data.toList=none):=h_ (jY λa b h=>by
     obtain⟨h1,h2,h3⟩:=HX.out a b h;rcases h1 with ⟨⟨_,_,h1⟩,_⟩|⟨h1,h4,_⟩
     .cases h1
     .rw[h4] at hd;exact hd _ h3)
    clear HX HP cm ae G hd;go_wp2_with fail
    refine (ac.out _ hW.out).mono ?_;rintro e w3 ⟨y,az,aG,rfl,aF⟩;replace V:=V.next aF
    replace F:=ag aF (Vq g) F;replace hW:=h_ (hW.out.below aF);clear g;have g:=V.lt;clear aF ac;have kF:=ah.new w3 #[n,y] 96;replace V:=V.alloc (.cells #[n,y] 96);have ab:af w3 w3 (w3.alloc (.cells #[n,y] 96)):=(Vn _ _).alloc (Vj _) _;exact wH
 .have HA:=h_ (λW h=>tI ⟨p.toArray⟩ ae hn W h);have HN:Hid (bA s.data.toList=none):=h_ (jY λa b h=>by
   obtain⟨h1,h2,_⟩:=HX.out a b h;rcases h1 with ⟨⟨h1,_,_⟩,_⟩|⟨h1,_,_⟩
   .rw[h1] at hn;exact hn _ h2
   .rw[h1] at hn;exact hn _ h2)
  clear HX hn cm ae;go_wp2_with fail
  refine (HA.out _ hW.out).mono ?_;rintro e w2 ⟨x,tp,pp,rfl,U⟩;replace V:=V.next U
  replace F:=ag U (Vq b0) F;replace hW:=h_ (hW.out.below U);have g:=V.lt;clear U b0 HA;cases more
  .
    have kF:=ah.new w2 #[x,(1:Int)] 96;replace V:=V.alloc (.cells #[x,(1:Int)] 96);have ab:af w2 w2 (w2.alloc (.cells #[x,(1:Int)] 96)):=(Vn _ _).alloc (Vj _) _;exact wH
  .rcases uo q with ⟨d,hd⟩|hd
   .have ac:=h_ (uc ⟨q.toArray⟩ G d hd);have bp:=Lib.atoiAll_bounds hd;clear G hd;go_wp2_with fail
    refine aj (ac.out _) λw3 aF=>?_;replace V:=V.next aF
    replace F:=ag aF (Vq g) F;replace hW:=h_ (hW.out.below aF);clear g;have g:=V.lt;clear aF ac;have kF:=ah.new w3 #[x,d] 96;replace V:=V.alloc (.cells #[x,d] 96);have ab:af w3 w3 (w3.alloc (.cells #[x,d] 96)):=(Vn _ _).alloc (Vj _) _;exact wH
   .have ac:=h_ (λW h=>tI ⟨q.toArray⟩ G hd W h);clear G hd;go_wp2_with fail
    refine (ac.out _ hW.out).mono ?_;rintro e w3 ⟨y,az,aG,rfl,aF⟩;replace V:=V.next aF
    replace F:=ag aF (Vq g) F;replace hW:=h_ (hW.out.below aF);clear g;have g:=V.lt;clear aF ac;have kF:=ah.new w3 #[x,y] 96;replace V:=V.alloc (.cells #[x,y] 96);have ab:af w3 w3 (w3.alloc (.cells #[x,y] 96)):=(Vn _ _).alloc (Vj _) _;exact wH
def vH(h:P:=by simp [results,results101,go_sem]):=h
def AJ(h:P:=by simp [results,results85,go_sem]):=h
open Classical in
noncomputable def jD(l:List UInt8):Option Int:=if h:∃n:Int,fL l n then some h.choose else none
def C1{l}{n}(h:fL l n):jD l=some n:=by
 have hx:∃n:Int,fL l n:=⟨n,h⟩
 unfold jD;rw[dif_pos hx];exact congrArg some (fL.uniq hx.choose_spec h)
def CW{l}(h:∀n,¬fL l n):jD l=none:=by
 unfold jD;rw[Y4];rintro⟨p,G⟩;exact h _ G
def gB(l:List UInt8)(v:Value):Prop:=∃n:Int,v=.tuple #[n,.bool (jD l).isSome]/\(∀m,jD l=some m->n=m)
def CT(n):(aC n).data.toList=Lib.itoa n:=rfl
def gB.some{l}{n}(h:fL l n):gB l (.tuple #[n,true]):=by
 refine⟨n,?_,?_⟩
 .rw[C1 h];rfl
 .intro m hm;rw[C1 h] at hm;exact WW hm
def gB.none{l}{n:Int}(h:∀m,¬fL l m):gB l (.tuple #[n,false]):=by
 refine⟨n,?_,?_⟩
 .rw[CW h];rfl
 .intro m hm;rw[CW h] at hm;cases hm
def B6(l):bL 6 l<1000000:=by
 unfold bL;split
 .omega
 .rename_i h;simp at h;cases hd:Lib.decFrom 0 l with
  |none=>simp
  |some m=>
   have:=Lib.decFrom_lt l 0 m hd;have h2:10 ^ l.length<=10 ^ 6:=WD o_ o_;simp only;omega
def Cj(s:ak)(hs:s.size<=100000000)(w):
 Kp 101 #[s] w λe w'=>∃v,e=.returned v/\gB s.data.toList v/\w=w':=by
 have hl:s.data.toList.length=s.size:=Vy;have H:=h_ (CL s hs);have J:=B6 s.data.toList;have I:=oU 6 s.data.toList;have HP:Hid (0<=bL 6 s.data.toList/\bL 6 s.data.toList<=99999->fL s.data.toList (bL 6 s.data.toList)):=h_ QM;have HQ:Hid ((s.data.toList.head?≠some 45\/s.data.toList.length<=1)->¬(0<=bL 6 s.data.toList/\bL 6 s.data.toList<=99999)->∀n,¬fL s.data.toList n):=h_ Uh;generalize bL 6 s.data.toList=r0 at *;have HI:=h_ (cK r0 0 99999);by_cases hg:1<s.size
 .have hh:=ux (s:=s) o_;have bi:(0:Int)<(s.size:Int):=o_;have ac:(1:Int)<(s.size:Int):=o_;have ba:(1:Int)<=(s.size:Int):=o_;cases hq:((s[0].toNat:Int)==45)
  .have hne:s.data.toList.head?≠some 45:=by
    rw[hh];intro h;injection h with h;rw[h] at hq;cases hq
   go_enter func101,ntmps101;go_wp2_with fail
   refine (H.out _).mono ?_;rintro e w1 ⟨rfl,rfl⟩;go_wp2_with fail
   refine (HI.out _).mono ?_;rintro e w2 ⟨rfl,rfl⟩;go_wp2;refine Vk (v:=.tuple #[r0,.bool (aw r0 0 99999)]) vH rfl ⟨_,rfl,?_,rfl⟩;cases hi:aw r0 0 99999
   .exact gB.none (HQ.out (.inl hne) (λh=>by rw[show aw r0 0 99999=true by unfold aw;simp;omega] at hi;cases hi))
   .exact gB.some (HP.out (bO hi))
  .have g:s.data.toList=45::s.data.toList.tail:=by
    have h9:=by simpa using hq
    have:s[0]=45:=Xs.1 (by show s[0].toNat=45;omega);rw[this] at hh;cases hc:s.data.toList with
    |nil=>rw[hc] at hh;cases hh
    |cons x xs=>rw[hc] at hh;simp at hh;simp [hh]
   have b4:=λW=>CL (s.extract 1 s.size) u_ W;have e0:(s.extract 1 s.size).data.toList=s.data.toList.tail:=by
    rw[Lib.extract_data,VO s_];simp
   rw[e0] at b4;have U:=B6 s.data.toList.tail;have aF:=oU 6 s.data.toList.tail;have bx:Hid (bL 6 s.data.toList.tail<=0\/100000<=bL 6 s.data.toList.tail->∀n,¬fL s.data.toList n):=h_ λh n hn=>by
    rw[g] at hn;exact St h n (RT hn) hn
   have bs:Hid (0<bL 6 s.data.toList.tail/\bL 6 s.data.toList.tail<=99999->fL s.data.toList (-(bL 6 s.data.toList.tail))):=h_ λh=>by
    have:=PT h;rwa [<-g] at this
   generalize bL 6 s.data.toList.tail=r1 at *;have G:IntKind.i64.wrap (-r1)=-r1:=Wg _ o_;have HR:=h_ b4;by_cases hr:0<=-r1
   .go_enter func101,ntmps101;go_wp2_with fail
    refine (H.out _).mono ?_;rintro e w1 ⟨rfl,rfl⟩;go_wp2_with fail
    refine (HR.out _).mono ?_;rintro e w2 ⟨rfl,rfl⟩;go_wp2;exact Vk (v:=.tuple #[(),false]) vH rfl ⟨_,rfl,gB.none (bx.out o_),rfl⟩
   .go_enter func101,ntmps101;go_wp2_with fail
    refine (H.out _).mono ?_;rintro e w1 ⟨rfl,rfl⟩;go_wp2_with fail
    refine (HR.out _).mono ?_;rintro e w2 ⟨rfl,rfl⟩;go_wp2;refine Vk (v:=.tuple #[(-r1:Int),decide (-99999<=-r1)]) vH rfl ⟨_,rfl,?_,rfl⟩;by_cases hi:-99999<=-r1
    .rw[Xn hi];exact gB.some (bs.out o_)
    .rw[We hi];exact gB.none (bx.out o_)
 .have ac:¬(1:Int)<(s.size:Int):=o_;go_enter func101,ntmps101;go_wp2_with fail
  refine (H.out _).mono ?_;rintro e w1 ⟨rfl,rfl⟩;go_wp2_with fail
  refine (HI.out _).mono ?_;rintro e w2 ⟨rfl,rfl⟩;go_wp2;refine Vk (v:=.tuple #[r0,.bool (aw r0 0 99999)]) vH rfl ⟨_,rfl,?_,rfl⟩;cases hi:aw r0 0 99999
  .exact gB.none (HQ.out (.inr o_) (λh=>by rw[show aw r0 0 99999=true by unfold aw;simp;omega] at hi;cases hi))
  .exact gB.some (HP.out (bO hi))
def qy(s:ak)(hs:s.size<=1000000)(w)(hE:PEnv w):
 Kp 85 #[s] w λe w'=>∃v,e=.returned v/\gB s.data.toList v/\af w w w':=by
 rcases uo s.data.toList with ⟨n,hn⟩|hn
 .have HA:=h_ (uc s o_ n hn);have cF:=Lib.atoiAll_bounds hn;have HK:Hid (∀m,fL s.data.toList m->n=m):=h_ λm h=>by
   have h2:=(rp (a:=m) (by have:=h.1;omega)).2;rw[h.2,hn] at h2;injection h2
  go_enter func85,ntmps85;go_wp2_with fail
  refine aj (HA.out _) λw1 I=>?_;go_wp2_with fail
  refine ((h_ (dh n (-99999) 99999)).out _).mono ?_;rintro e w2 ⟨rfl,rfl⟩;cases hi:aw n (-99999) 99999
  .have HN:=h_ (gB.none (l:=s.data.toList) (n:=n) (λm h=>by
    have h1:=HK.out m h;subst h1;rw[show aw n (-99999) 99999=true by have:=h.1;unfold aw;simp;omega] at hi;cases hi))
   go_wp2;exact Vk (v:=.tuple #[n,false]) AJ rfl ⟨_,rfl,HN.out,I⟩
  .go_wp2_with fail
   refine aj ((h_ (λW h=>pn n o_ o_ W h)).out _ (h_ (hE.below I)).out) λw2 U=>?_;go_wp2;refine Vk (v:=.tuple #[n,.bool ((aC n).toList==s.toList)]) AJ rfl ⟨_,rfl,?_,ag U I.size I⟩;cases hq:((aC n).toList==s.toList)
   .exact gB.none (λm h=>by
     have h1:=HK.out m h;subst h1;have h2:=h.2;rw[iP.2 (by rw[CT];exact h2)] at hq;cases hq)
   .exact gB.some ⟨bO hi,by rw[<-iP.1 hq,CT]⟩
 .have HN:=h_ (λn=>gB.none (l:=s.data.toList) (n:=n) (λm h=>by
   have h2:=(rp (a:=m) (by have:=h.1;omega)).2;rw[h.2] at h2;exact hn _ h2))
  go_enter func85,ntmps85;go_wp2_with fail
  refine ((h_ (λW h=>tI s o_ hn W h)).out _ hE).mono ?_;rintro e w1 ⟨x,tp,q,rfl,I⟩;go_wp2;exact Vk (v:=.tuple #[x,false]) AJ rfl ⟨_,rfl,HN.out _,I⟩
def AP(h:P:=by simp [results,results87,go_sem,q0,q1,q2]):=h
def FG(h:P:=by
 go_wp2;generalize (setCell (setCell (setCell _ _ _) _ _) _ _)=w9 at k9 ad ⊢;have⟨q0,q1,q2⟩:=k9.q3;refine Vk (v:=.tuple #[.agg #[(),(),()],false]) AP rfl ?_;exact uY):=h
def A8(h:P:=by
 replace HN:Hid (dW A B s.data.toList=none):=h_ (HN.out s_);clear HK;have⟨bx,bz,b3⟩:=V.q3;have⟨aM,a1,ae⟩:=V.f3;have ax:=V.lt;have k9:=((V.set 0 ()).set 1 ()).set 2 ();have ad:af rC w (((W7.setCell ⟨rR,0,none⟩ ()).setCell ⟨rR,1,none⟩ ()).setCell ⟨rR,2,none⟩ ()):=((F.setCell u_ _).setCell u_ _).setCell u_ _;exact FG):=h
def Kd(h:P:=by
 exact FG):=h
open Classical in
noncomputable def dW(A B:Int)(l:List UInt8):Option P3:=if h:∃p:P3,gy A B l p.1 p.2.1 p.2.2 then some h.choose else none
def ug{A B:Int}{l:List UInt8}{X Y E:Int}(h:gy A B l X Y E):dW A B l=some (X,Y,E):=by
 have hx:∃p:P3,gy A B l p.1 p.2.1 p.2.2:=⟨(X,Y,E),h⟩
 unfold dW;rw[dif_pos hx];obtain⟨h1,h2,h3⟩:=gy.uniq hx.choose_spec h;exact congrArg some (Prod.ext h1 (Prod.ext h2 h3))
def lD{A B:Int}{l:List UInt8}(h:∀X Y E,¬gy A B l X Y E):dW A B l=none:=by
 unfold dW;rw[Y4];rintro⟨p,G⟩;exact h _ _ _ G
def TZ{A B:Int}{l:List UInt8}{p:P3}(h:dW A B l=some p):cf A B p:=by
 unfold dW at h;split at h
 .rename_i hx;cases h;exact hx.choose_spec.1
 .cases h
def Ax{A B X Y E:Int}(h:dS A B X Y E=true):cf A B (X,Y,E):=by
 unfold dS at h;simp only[Xt,VB,WO] at h;rcases h with ⟨⟨h1,h2⟩,h3⟩|h
 .exact .inl ⟨h1,h2,h3⟩
 .unfold kf at h;simp only[VB,WO] at h;exact .inr ⟨bO h.1.1.1.1,bO h.1.1.1.2,h.1.1.2,bO h.1.2,h.2⟩
def vk{A B X Y E:Int}(h:cf A B (X,Y,E)):dS A B X Y E=true:=by
 unfold dS;rcases h with ⟨h1,h2,h3⟩|⟨h1,h2,h3,h4,h5⟩
 .simp only at h1 h2 h3;subst h1 h2 h3;rfl
 .simp only at h1 h2 h3 h4 h5;unfold kf aw;simp only[Xt,VB,WO,V2];exact .inr ⟨⟨⟨⟨h1,h2⟩,h3⟩,h4⟩,h5⟩
def yT{A B:Int}{l:List UInt8}{X Y E:Int}(h:gy A B l X Y E)(hO:l≠[79]):(1<=E/\E<=20)/\l=40::(gJ X Y E++[41])/\(5<=l.length/\l.length<=60)/\bA (dr X (E*E))=some (X,E*E)/\bA (dr Y (E*E*E))=some (Y,E*E*E)/\cl (E*E)=true/\aq (E*E)=E:=by
 obtain⟨G,rfl⟩:=h;rcases G with ⟨h1,h2,h3⟩|hf
 .exact absurd (by unfold iJ;rw[Vo h3]) hO
 .have hE:=hf.2.1;obtain⟨f1,f2⟩:=px hf;have hl:=Ep hf;refine⟨hE,?_,hl,mV ⟨f1,rfl⟩,mV ⟨f2,rfl⟩,zu E,uG o_⟩;unfold iJ;rw[Vm o_]
def iE(r:Option (Int×Int)):Int:=match r with|some p=>p.1|none=>0
def gE(r:Option (Int×Int)):Int:=match r with|some p=>p.2|none=>0
def CI(r:Option (Int×Int)):oL r=.tuple #[.agg #[iE r,gE r],r.isSome]:=by
 cases r<;>rfl
def uJ(l:List UInt8):(-1000000000<=iE (bA l)/\iE (bA l)<=1000000000)/\(0<=gE (bA l)/\gE (bA l)<=1000000000):=by
 cases h:bA l with
 |none=>simp [iE,gE]
 |some p=>
  have:=po (Ub h).1;simp only[iE,gE];omega
def NA(A B:Int)(s:ak)(hC:be A B=true)(hs:s.size<=1000000)(w:World)(hE:PEnv w):
 Rv 87 #[.agg #[A,B],s] w (cw (dW A B s.data.toList)):=by
 obtain⟨kC,V,J⟩:=cO w #[A,B] 42 #[(),(),()] 46;have hW:=h_ (hE.below J);clear hE;have hl:s.data.toList.length=s.size:=Vy;by_cases hO:s.data.toList=[79]
 .have hq:(s.toList==[79])=true:=by rw[Vw,hO];rfl
  have HN:Hid (dW A B s.data.toList=some (0,0,0)):=h_ (ug ⟨.inl ⟨rfl,rfl,rfl⟩,by rw[hO];rfl⟩);clear hO;go_enter func87,ntmps87;go_upto_region 1 with fail
  generalize (w.alloc _).alloc _=W at *;have h2:w.heap.size<w.heap.size+1:=o_;generalize w.heap.size+1=rR at *;generalize a9:w.heap.size=rC at *;have bv:Hid (w.heap.size=rC):=a9;clear a9;have⟨bx,bz,b3⟩:=V.q3;have⟨aM,a1,ae⟩:=V.f3;have ax:=V.lt;have k9:=((V.set 0 ()).set 1 ()).set 2 ();have ad:af rC w (((W.setCell ⟨rR,0,none⟩ ()).setCell ⟨rR,1,none⟩ ()).setCell ⟨rR,2,none⟩ ()):=((J.setCell u_ _).setCell u_ _).setCell u_ _;go_wp2;generalize (setCell (setCell (setCell _ _ _) _ _) _ _)=w9 at k9 ad ⊢;have⟨q0,q1,q2⟩:=k9.q3;refine Vk (v:=.tuple #[.agg #[(),(),()],true]) AP rfl ?_;exact nq
 .have hq:(s.toList==[79])=false:=by rw[Vw,VD];exact hO
  have a6:=Lib.trimPrefix_le s.data.toList [40];have aG:=Lib.trimSuffix_le (Lib.trimPrefix s.data.toList [40]) [41];have H:=FA (Lib.trimSuffix (Lib.trimPrefix s.data.toList [40]) [41]) 44;have ac:∀X Y E,gy A B s.data.toList X Y E->(1<=E/\E<=20)/\Lib.cut (Lib.trimSuffix (Lib.trimPrefix s.data.toList [40]) [41]) [44]=(dr X (E*E),dr Y (E*E*E),true)/\bA (dr X (E*E))=some (X,E*E)/\bA (dr Y (E*E*E))=some (Y,E*E*E)/\cl (E*E)=true/\aq (E*E)=E:=λX Y E h=>by
   obtain⟨h1,h2,_,h4,h5,h6,h7⟩:=yT h hO;refine⟨h1,?_,h4,h5,h6,h7⟩;have ht:Lib.trimSuffix (Lib.trimPrefix s.data.toList [40]) [41]=gJ X Y E:=by
    have:=yc (X:=X) (Y:=Y) (E:=E) o_;rw[h.2] at this;exact this
   rw[ht,yE]
  have aX:=h_ (Rp s 40);have az:=h_ (yj ⟨(Lib.trimPrefix s.data.toList [40]).toArray⟩ 41 (by show (Lib.trimPrefix s.data.toList [40]).toArray.size<=_;simp;omega));have aF:=h_ (λW h=>Fk ⟨(Lib.trimSuffix (Lib.trimPrefix s.data.toList [40]) [41]).toArray⟩ 44 (by show (Lib.trimSuffix (Lib.trimPrefix s.data.toList [40]) [41]).toArray.size<=_;simp;omega) W h);generalize Lib.trimPrefix s.data.toList [40]=t1 at *;generalize Lib.trimSuffix t1 [41]=t2 at *;generalize Lib.cut t2 [44]=cu at *;obtain⟨f,g,more⟩:=cu;simp only[Prod.mk.injEq] at aF H ac;have HX:=h_ (λW h=>wW ⟨f.toArray⟩ (by show f.toArray.size<=_;simp;omega) W h);have HY:=h_ (λW h=>wW ⟨g.toArray⟩ (by show g.toArray.size<=_;simp;omega) W h);have ab:=uJ f;have cF:=uJ g;have hK:∀X Y E,gy A B s.data.toList X Y E->(bA f).isSome=true/\(bA g).isSome=true/\cl (gE (bA f))=true/\iE (bA f)=X/\iE (bA g)=Y/\aq (gE (bA f))=E:=λX Y E h=>by
   obtain⟨h1,⟨h2,h3,_⟩,h4,h5,h6,h7⟩:=ac X Y E h;rw[h2,h3,h4,h5];exact⟨rfl,rfl,h6,rfl,rfl,h7⟩
  simp only[CI] at HX HY;have cB:=h_ (xj (gE (bA f)) o_);have cG:∀X Y E,gy A B s.data.toList X Y E->((bA f).isSome=true/\(bA g).isSome=true/\cl (gE (bA f))=true)/\iE (bA f)=X/\iE (bA g)=Y/\(if cl (gE (bA f))=true then aq (gE (bA f)) else 0)=E:=λX Y E h=>by
   obtain⟨h1,h2,h3,h4,h5,h6⟩:=hK X Y E h;exact⟨⟨h1,h2,h3⟩,h4,h5,by rw[Vo h3];exact h6⟩
  clear hK ac;generalize bA f=fx at *;generalize bA g=fy at *;generalize iE fx=X at *;generalize iE fy=Y at *;generalize fx.isSome=one at *;generalize fy.isSome=two at *;generalize gE fx=b at *;generalize gE fy=d at *;generalize (if cl b=true then aq b else 0)=G at *;generalize cl b=three at *;have HK:=h_ cG;have HC:=h_ hC;clear cG hC a6 aG H ab cF hO hs hl;go_enter func87,ntmps87;go_upto_region 1 with fail
  generalize (w.alloc _).alloc _=W at *;have h2:w.heap.size<w.heap.size+1:=o_;generalize w.heap.size+1=rR at *;generalize a9:w.heap.size=rC at *;have bv:Hid (w.heap.size=rC):=a9;clear a9;go_wp2_with fail
  refine (aX.out _).mono ?_;rintro e w1 ⟨rfl,rfl⟩;go_wp2_with fail
  refine (az.out _).mono ?_;rintro e w1 ⟨rfl,rfl⟩;go_wp2_with fail
  refine aj (aF.out _ hW.out) λw1 I=>?_;have lC:=kC.lt;replace kC:=kC.next I
  replace V:=V.next I
  have F:=ag I (Vq lC) J;replace hW:=h_ (hW.out.below I);clear lC J I aX az aF;have lC:=kC.lt;go_wp2_with fail
  refine aj (HX.out _ hW.out) λw2 U=>?_;replace kC:=kC.next U
  replace V:=V.next U
  replace F:=ag U (Vq lC) F;replace hW:=h_ (hW.out.below U);clear lC U HX;have lC:=kC.lt;have kF:=ah.new w2 #[X,b] 96;replace V:=V.alloc (.cells #[X,b] 96);replace kC:=kC.alloc (.cells #[X,b] 96);have ab:af w2 w2 (w2.alloc (.cells #[X,b] 96)):=(Vn _ _).alloc (Vj _) _;replace F:=ag ab (Vq lC) F;replace hW:=h_ (hW.out.below ab);clear ab lC;have lC:=kC.lt;go_upto_region 5 with fail
  generalize World.alloc _ _=W3 at *;generalize w2.heap.size=rF at *;go_wp2_with fail
  refine aj (HY.out _ hW.out) λw4 K=>?_;have lF:=kF.lt;replace kF:=kF.next K
  replace kC:=kC.next K
  replace V:=V.next K
  replace F:=ag K (Vq lC) F;replace hW:=h_ (hW.out.below K);clear lC lF K HY;have lC:=kC.lt;have kG:=ah.new w4 #[Y,d] 96;replace V:=V.alloc (.cells #[Y,d] 96);replace kC:=kC.alloc (.cells #[Y,d] 96);replace kF:=kF.alloc (.cells #[Y,d] 96);have ab:af w4 w4 (w4.alloc (.cells #[Y,d] 96)):=(Vn _ _).alloc (Vj _) _;replace F:=ag ab (Vq lC) F;replace hW:=h_ (hW.out.below ab);clear ab lC;have lC:=kC.lt;go_upto_region 6 with fail
  generalize World.alloc _ _=W5 at *;generalize w4.heap.size=rG at *;have⟨Z,aL,a2⟩:=kF.p2;go_wp2_with fail
  refine (cB.out _).mono ?_;rintro e w6 ⟨rfl,rfl⟩;have kP:=ah.new W5 #[X,Y,G] 46;replace V:=V.alloc (.cells #[X,Y,G] 46);replace kC:=kC.alloc (.cells #[X,Y,G] 46);have ab:af W5 W5 (W5.alloc (.cells #[X,Y,G] 46)):=(Vn _ _).alloc (Vj _) _;replace F:=ag ab (Vq lC) F;replace hW:=h_ (hW.out.below ab);go_upto_region 7 with fail
  have⟨cT,cX,cP⟩:=kG.p2;go_upto_region 8 with fail
  generalize World.alloc _ _=W7 at *;generalize W5.heap.size=rP at *;clear Z aL a2 cT cX cP ab lC kF kG cB;have HN:Hid (¬(one=true/\two=true/\three=true)->dW A B s.data.toList=none):=h_ λh1=>lD λx y e h=>h1 (HK.out _ _ _ h).1;cases one
  .exact A8
  .cases two
   .exact A8
   .cases three
    .exact A8
    .clear HN;have HI:=h_ (tN A B X Y G HC.out);have⟨a4,a3,a5⟩:=kC.p2;have⟨bY,bZ,bX,b0⟩:=kP.p3;go_wp2_with fail
     refine aj (HI.out _) λw8 ca=>?_;have lC:=kC.lt;replace kC:=kC.next ca
     replace kP:=kP.next ca
     replace V:=V.next ca
     replace F:=ag ca (Vq lC) F;replace hW:=h_ (hW.out.below ca);clear a4 a3 a5 bY bZ bX b0 ca HI;cases aa:dS A B X Y G
     .have HN:Hid (dW A B s.data.toList=none):=h_ (lD λx y e h=>by
       obtain⟨_,h1,h2,h3⟩:=HK.out _ _ _ h;subst h1 h2 h3;rw[vk h.1] at aa;cases aa)
      clear aa HK;have⟨bx,bz,b3⟩:=V.q3;have⟨aM,a1,ae⟩:=V.f3;have ax:=V.lt;have k9:=((V.set 0 ()).set 1 ()).set 2 ();have ad:af rC w (((w8.setCell ⟨rR,0,none⟩ ()).setCell ⟨rR,1,none⟩ ()).setCell ⟨rR,2,none⟩ ()):=((F.setCell u_ _).setCell u_ _).setCell u_ _;exact Kd
     .have HP:=h_ (Ax aa);clear aa;have HT:=h_ (λW ht=>BO A B X Y G HP.out W ht);have⟨bY,bZ,bX,b0⟩:=kP.p3;go_wp2_with fail
      refine aj (HT.out _ hW.out.1) λw9 aZ=>?_;replace lC:=kC.lt;replace kP:=kP.next aZ
      replace V:=V.next aZ
      replace F:=ag aZ (Vq lC) F;clear bY bZ bX b0 aZ HT;cases hq:((im X Y G).toList==s.toList)
      .have HN:Hid (dW A B s.data.toList=none):=h_ (lD λx y e h=>by
        obtain⟨_,h1,h2,h3⟩:=HK.out _ _ _ h;subst h1 h2 h3;have h4:=h.2;rw[<-qT] at h4;simp [Vw,h4] at hq)
       clear HK;have⟨bx,bz,b3⟩:=V.q3;have⟨aM,a1,ae⟩:=V.f3;have ax:=V.lt;have k9:=((V.set 0 ()).set 1 ()).set 2 ();have ad:af rC w (((w9.setCell ⟨rR,0,none⟩ ()).setCell ⟨rR,1,none⟩ ()).setCell ⟨rR,2,none⟩ ()):=((F.setCell u_ _).setCell u_ _).setCell u_ _;exact Kd
      .have HN:Hid (dW A B s.data.toList=some (X,Y,G)):=h_ (ug ⟨HP.out,by
        rw[<-qT];simpa[Vw] using hq⟩)
       clear HK;have⟨bY,bZ,bX,b0⟩:=kP.p3;have⟨bx,bz,b3⟩:=V.q3;have⟨aM,a1,ae⟩:=V.f3;have ax:=V.lt;have k9:=((V.set 0 X).set 1 Y).set 2 G;have ad:af rC w (((w9.setCell ⟨rR,0,none⟩ X).setCell ⟨rR,1,none⟩ Y).setCell ⟨rR,2,none⟩ G):=((F.setCell u_ _).setCell u_ _).setCell u_ _;go_wp2;generalize (setCell (setCell (setCell _ _ _) _ _) _ _)=w9 at k9 ad ⊢;have⟨q0,q1,q2⟩:=k9.q3;refine Vk (v:=.tuple #[.agg #[X,Y,G],true]) AP rfl ?_;exact nq
def Ar(h:P:=by simp [results,results215,go_sem,q0,q1]):=h
def Gs(h:P:=by simp [results,results159,go_sem,q0,q1,q2,q3]):=h
def wl(h:P:=by unfold Sz;omega):=h
def Jo(h:P:=by
 generalize setCell _ _ _=w9 at ad k9 ⊢;have⟨q0,q1,q2,q3⟩:=k9.q4;refine Vk (v:=.tuple #[.agg #[(),(),(),()],false]) Gs rfl ?_
 first|exact⟨rfl,ad⟩|exact⟨rfl,HQ.out▸ad⟩):=h
def oB(h:P:=by
 first|exact⟨rfl,ad⟩|exact⟨rfl,HQ.out▸ad⟩):=h
def lW(b k d:Int):Int:=max (3*(b - 1) - k) 0*4096 / d
def mK(b k d:Int):Int:=-(-(3*b+k)*4096 / d)
def At{b k d}(hb:0<=b/\b<=1120)(hk:0<=k/\k<=64)(hd:1<=d):ia (lW b k d) (mK b k d)=true:=by
 have h1:0<=max (3*(b - 1) - k) 0*4096 / d:=Xh o_ o_;have h2:max (3*(b - 1) - k) 0*4096 / d<=(3*b+k)*4096 / d:=Int.ediv_le_ediv o_ o_;have h3:(3*b+k)*4096 / d<=-(-(3*b+k)*4096 / d):=by
  have e1:=Yw ((3*b+k)*4096) d;have e2:=Yw (-(3*b+k)*4096) d;have r1:=VS ((3*b+k)*4096) (show d≠0 by omega);have r2:=VS (-(3*b+k)*4096) (show d≠0 by omega);have e3:-(3*b+k)*4096=-((3*b+k)*4096):=by rw[Int.neg_mul]
  rw[e3] at e2 r2 ⊢;generalize (3*b+k)*4096=m at *;generalize m / d=p,-m / d=q at *;have h:d*(p+q)<=0:=by rw[Wn];omega
  rcases VJ 0 (p+q) with h9|h9
  .have:=VW (show 1<=p+q by omega) (show 0<=d by omega);omega
  .omega
 have h4:-(-(3*b+k)*4096 / d)<=409600000:=by
  have e2:=Yw (-(3*b+k)*4096) d;have r2:=VN (-(3*b+k)*4096) (show 0<d by omega);generalize hm:-(3*b+k)*4096=m at *;have cm:-15000000<=m:=o_;have:m<=m / d*1\/m / d>=-15000000:=by
   right;rcases VJ (m / d) (-15000000) with h|h
   .have h5:=VW (show m / d+1<=-15000000 by omega) (show 0<=d by omega);rw[Wn] at h5;omega
   .exact h
  omega
 unfold ia lW mK;simp;omega
def kq(A B X E:Int)(n:Nat):Option (Int×Int):=match jM A B X E n with
 |none=>none
 |some none=>some (0,0)
 |some (some r)=>some (lW (rtB r.1 r.2) (dV A B) (3*4 ^ n),mK (rtB r.1 r.2) (dV A B) (3*4 ^ n))
def za{A B X E}{n}(hX:a_ X)(hE:0<=E/\E<=20){r:Int×Int}(h:jM A B X E n=some (some r)):0<=(rtB r.1 r.2:Int)/\(rtB r.1 r.2:Int)<=1120:=by
 unfold jM at h;split at h
 .cases h
 .have b8:=aN (x:=E) (y:=E) 20 20 o_ o_;have:=yX wl wl h;have:=TM this.1.len this.2.len;omega
def Fq{A B X E}{n}(hA:bh A)(hB:a_ B)(hX:a_ X)(hE:0<=E/\E<=20)(hn:n<=5){p:Int×Int}(h:kq A B X E n=some p):ia p.1 p.2=true:=by
 unfold kq at h;split at h
 .cases h
 .cases h;rfl
 .rename_i r hr;cases h;have h4:=rn hn;exact At (za hX hE hr) (zE hA hB) o_
def hsR:Option (Int×Int)->Value
 |none=>.tuple #[.agg #[.int .i64 0,.int .i64 0],.bool false]
 |some p=>.tuple #[.agg #[.int .i64 p.1,.int .i64 p.2],.bool true]
def mc:Option (Int×Int)->Value
 |none=>.tuple #[sY,.bool false]
 |some p=>.tuple #[jQ p.1 p.2,.bool true]
def Pa(A B X Y E:Int)(n:Nat)(hA:bh A)(hB:a_ B)(hd:aP A B≠0)(hX:a_ X)(hE:0<=E/\E<=20)(hn:n<=5)(w):
 Rv 215 #[.agg #[A,B],.agg #[X,Y,E],n] w (hsR (kq A B X E n)):=by
 have⟨kC,kP,V,J⟩:=fv w #[A,B] 42 #[X,Y,E] 46 #[(),()] 196;have G:=h_ (RF A B X Y E n hA hB hd hX hE hn);have HK:=h_ (MB A B hA hB);have HP:=h_ (PO n hn);have hk:=zE hA hB;have h4:=rn hn;have b6:=@za A B X E n hX hE;have H:w.heap.size<=w.heap.size+1+1:=o_;have HV:Hid (kq A B X E n=match jM A B X E n with
  |none=>none
  |some none=>some (0,0)
  |some (some r)=>some (lW (rtB r.1 r.2) (dV A B) (3*4 ^ n),mK (rtB r.1 r.2) (dV A B) (3*4 ^ n))):=rfl
 rw[HV.out];generalize jM A B X E n=bp at *;rcases bp with _|_|r
 .go_enter func215,ntmps215;go_upto_region 1 with fail
  generalize ((w.alloc _).alloc _).alloc _=W,hq:w.heap.size+1+1=rR at *;have⟨a4,a3,a5⟩:=kC.p2;have⟨bY,bZ,bX,b0⟩:=kP.p3;go_wp2_with fail
  refine aj (G.out W) λw1 I=>?_;have aL:=ag I J.size J;replace V:=V.next I
  simp only[wR];have⟨bx,bz⟩:=V.q2;have⟨aM,a1⟩:=V.f2;have k9:=(V.set 0 ()).set 1 ();have ad:=(aL.setCell (p:=rR) H ()).setCell (p:=⟨rR,1,none⟩) H ();go_wp2;generalize setCell _ _ _=w9 at ad k9 ⊢;have⟨q0,q1⟩:=k9.q2;exact Vk (v:=.tuple #[.agg #[(),()],false]) Ar rfl ⟨rfl,ad⟩
 .go_enter func215,ntmps215;go_upto_region 1 with fail
  generalize ((w.alloc _).alloc _).alloc _=W,hq:w.heap.size+1+1=rR at *;have⟨a4,a3,a5⟩:=kC.p2;have⟨bY,bZ,bX,b0⟩:=kP.p3;go_wp2_with fail
  refine aj (G.out W) λw1 I=>?_;have aL:=ag I J.size J;replace V:=V.next I
  simp only[wR];have⟨bx,bz⟩:=V.q2;have⟨aM,a1⟩:=V.f2;have k9:=(V.set 0 ()).set 1 ();have ad:=(aL.setCell (p:=rR) H ()).setCell (p:=⟨rR,1,none⟩) H ();go_wp2;generalize setCell _ _ _=w9 at ad k9 ⊢;have⟨q0,q1⟩:=k9.q2;exact Vk (v:=.tuple #[.agg #[(),()],true]) Ar rfl ⟨rfl,ad⟩
 .have hb:=b6 rfl;have aa:=At hb hk (show 1<=3*(4:Int) ^ n by omega);have a6:∀W,Kp 254 #[.int .i64 (max (3*((rtB r.1 r.2:Int) - 1) - dV A B) 0*4096),(3*4 ^ n:Int)] W λe w'=>e=.returned (lW (rtB r.1 r.2) (dV A B) (3*4 ^ n):Int)/\w'=W:=λW=>CE (max (3*((rtB r.1 r.2:Int) - 1) - dV A B) 0*4096) (3*4 ^ n) o_ o_ W;have ab:=λW=>CE (-(3*(rtB r.1 r.2:Int)+dV A B)*4096) (3*4 ^ n) o_ o_ W;have g:mK (rtB r.1 r.2) (dV A B) (3*4 ^ n)=-(-(3*(rtB r.1 r.2:Int)+dV A B)*4096 / (3*4 ^ n)):=rfl;simp only;rw[g] at aa ⊢;unfold ia at aa;simp at aa;have F:=h_ a6;have co:=h_ ab;clear a6 ab b6 g;simp only[wR] at G;generalize lW (rtB r.1 r.2) (dV A B) (3*4 ^ n)=lo at *;generalize (rtB r.1 r.2:Int)=b at *;generalize dV A B=k at *;generalize (4:Int) ^ n=p4 at *;generalize -(3*b+k)*4096 / (3*p4)=hi at *;go_enter func215,ntmps215;go_upto_region 1 with fail
  generalize ((w.alloc _).alloc _).alloc _=W,hq:w.heap.size+1+1=rR at *;have⟨a4,a3,a5⟩:=kC.p2;have⟨bY,bZ,bX,b0⟩:=kP.p3;go_wp2_with fail
  refine aj (G.out W) λw1 I=>?_;have aL:=ag I J.size J;replace V:=V.next I
  replace kC:=kC.next I
  have⟨a4,a3,a5⟩:=kC.p2;go_wp2_with fail
  refine aj (HK.out w1) λw2 U=>?_;replace aL:=ag U aL.size aL;replace V:=V.next U
  have⟨bx,bz⟩:=V.q2;have⟨aM,a1⟩:=V.f2;have ax:=V.lt;have k9:=(V.set 0 lo).set 1 (-hi:Int);have ad:=(aL.setCell (p:=rR) H lo).setCell (p:=⟨rR,1,none⟩) H (-hi:Int);go_wp2_with ((go_at_call 269;refine aA (HP.out _) ?_))
  refine (F.out _).mono ?_;rintro e w3 ⟨rfl,rfl⟩;go_wp2_with fail
  refine (co.out _).mono ?_;rintro e w4 ⟨rfl,rfl⟩;have hh:-409600000<=-hi/\-hi<=409600000:=o_;go_wp2;generalize setCell _ _ _=w9 at ad k9 ⊢;have⟨q0,q1⟩:=k9.q2;refine Vk (v:=.tuple #[.agg #[lo,(-hi:Int)],true]) Ar rfl ?_;exact⟨rfl,ad⟩
def iI(A B X E n:Int):Option (Int×Int):=if aw n 0 5=true then kq A B X E n.toNat else none
def BM{A B}(h:be A B=true):aP A B≠0:=by
 unfold be at h;simp at h;exact h.2
def Ox(A B X Y E n:Int)(hC:be A B=true)(G:cf A B (X,Y,E))(w):
 Rv 159 #[.agg #[A,B],.agg #[X,Y,E],n] w (mc (iI A B X E n)):=by
 have⟨kC,kP,V,J⟩:=fv w #[A,B] 42 #[X,Y,E] 46 #[(),(),(),()] 145;have H:w.heap.size<=w.heap.size+1+1:=o_;have⟨hA,hB⟩:=fs hC;have⟨hX,_,hE⟩:=G.bd;simp only at hX hE;have h0:=λW=>tN A B X Y E hC W;rw[vk G] at h0;have F:=h_ h0;have h1:=λW=>dh n 0 5 W;have HV:Hid (iI A B X E n=if aw n 0 5=true then kq A B X E n.toNat else none):=rfl;rw[HV.out];cases hi:aw n 0 5
 .rw[hi] at h1;rw[Vm s_];have HI:=h_ h1;go_enter func159,ntmps159;go_upto_region 1 with fail
  generalize ((w.alloc _).alloc _).alloc _=W,hq:w.heap.size+1+1=rR at *;have⟨a4,a3,a5⟩:=kC.p2;have⟨bY,bZ,bX,b0⟩:=kP.p3;go_wp2_with fail
  refine aj (F.out W) λw1 I=>?_;have aL:=ag I J.size J;replace V:=V.next I
  have⟨bx,bz,b3,bb⟩:=V.q4;have⟨aM,a1,ae,a8⟩:=V.f4;have k9:=(((V.set 0 ()).set 1 ()).set 2 ()).set 3 ();have ad:=(((aL.setCell (p:=rR) H ()).setCell (p:=⟨rR,1,none⟩) H ()).setCell (p:=⟨rR,2,none⟩) H ()).setCell (p:=⟨rR,3,none⟩) H ();go_wp2_with (go_at_call 63;refine aA (HI.out _) ?_)
  exact Jo
 .rw[hi] at h1;rw[Vo rfl];have HI:=h_ h1;have hn:=bO hi;obtain⟨m,rfl⟩:∃m:Nat,n=m:=⟨n.toNat,o_⟩
  rw[show ((m:Int)).toNat=m by omega];have g:=h_ (Pa A B X Y E m hA hB (BM hC) hX hE o_);have aa:=@Fq A B X E m hA hB hX hE o_;generalize kq A B X E m=hv at *;cases hv with
  |none=>
   simp only[hsR] at g;have HS:=h_ (OH 0 0);simp only[mc,sY] at HS ⊢;go_enter func159,ntmps159;go_upto_region 1 with fail
   generalize ((w.alloc _).alloc _).alloc _=W,hq:w.heap.size+1+1=rR at *;have⟨a4,a3,a5⟩:=kC.p2;have⟨bY,bZ,bX,b0⟩:=kP.p3;go_wp2_with fail
   refine aj (F.out W) λw1 I=>?_;have aL:=ag I J.size J;replace V:=V.next I
   replace kC:=kC.next I
   replace kP:=kP.next I
   have⟨a4,a3,a5⟩:=kC.p2;have⟨bY,bZ,bX,b0⟩:=kP.p3;go_wp2_with ((go_at_call 63;refine aA (HI.out _) ?_))
   refine aj (g.out w1) λw2 U=>?_;replace aL:=ag U aL.size aL;replace V:=V.next U
   have⟨kS,ab⟩:=ay w2 #[(),()] 196;replace aL:=ag ab aL.size aL;replace V:=V.next ab
   go_upto_region 4 with fail
   generalize w2.alloc _=W3,w2.heap.size=rS at *;have⟨ba,aZ,cu⟩:=kS.p2;go_wp2_with fail
   refine aj (HS.out W3) λw4 K=>?_;replace aL:=ag K aL.size aL;replace V:=V.next K
   have⟨bx,bz,b3,bb⟩:=V.q4;have⟨aM,a1,ae,a8⟩:=V.f4;have k9:=(((V.set 0 ()).set 1 ()).set 2 ()).set 3 ();have ad:=(((aL.setCell (p:=rR) H ()).setCell (p:=⟨rR,1,none⟩) H ()).setCell (p:=⟨rR,2,none⟩) H ()).setCell (p:=⟨rR,3,none⟩) H ();go_wp2;exact Jo
  |some p=>
   have⟨a,b⟩:=p;have HS:=h_ (M0 a b (aa rfl));simp only[hsR] at g;simp only[mc];unfold jQ at HS ⊢;generalize dE a=na,cY a=da,dE b=nb,cY b=db at *;go_enter func159,ntmps159;go_upto_region 1 with fail
   generalize ((w.alloc _).alloc _).alloc _=W,hq:w.heap.size+1+1=rR at *;have⟨a4,a3,a5⟩:=kC.p2;have⟨bY,bZ,bX,b0⟩:=kP.p3;go_wp2_with fail
   refine aj (F.out W) λw1 I=>?_;have aL:=ag I J.size J;replace V:=V.next I
   replace kC:=kC.next I
   replace kP:=kP.next I
   have⟨a4,a3,a5⟩:=kC.p2;have⟨bY,bZ,bX,b0⟩:=kP.p3;go_wp2_with ((go_at_call 63;refine aA (HI.out _) ?_))
   refine aj (g.out w1) λw2 U=>?_;replace aL:=ag U aL.size aL;replace V:=V.next U
   have⟨kS,ab⟩:=ay w2 #[a,b] 196;replace aL:=ag ab aL.size aL;replace V:=V.next ab
   go_upto_region 4 with fail
   generalize w2.alloc _=W3,w2.heap.size=rS at *;have⟨ba,aZ,cu⟩:=kS.p2;go_wp2_with fail
   refine aj (HS.out W3) λw4 K=>?_;replace aL:=ag K aL.size aL;replace V:=V.next K
   have⟨bx,bz,b3,bb⟩:=V.q4;have⟨aM,a1,ae,a8⟩:=V.f4;have k9:=(((V.set 0 na).set 1 da).set 2 nb).set 3 db;have ad:=(((aL.setCell (p:=rR) H na).setCell (p:=⟨rR,1,none⟩) H da).setCell (p:=⟨rR,2,none⟩) H nb).setCell (p:=⟨rR,3,none⟩) H db;go_wp2;generalize setCell _ _ _=w9 at ad k9 ⊢;have⟨q0,q1,q2,q3⟩:=k9.q4;exact Vk (v:=.tuple #[.agg #[na,da,nb,db],true]) Gs rfl oB
def Uf(a b:Int)(ha:iZ a)(hb:1<=b/\b<=4000000000000000000)(hq:-4000000000000000000<=-a / b/\-a / b<=4000000000000000000)(w):
 Kp 287 #[a,b] w λe w'=>e=.returned (-(-a / b):Int)/\w'=w:=by
 have HF:=h_ (Ds (-a) b o_ hb);generalize -a / b=q at *;go_enter func287,ntmps287;go_wp2_with fail
 refine (HF.out _).mono ?_;rintro e w1 ⟨rfl,rfl⟩;exact qe
def DR(a b d)(ha:-1000000<=a/\a<=1000000)(hb:-1000000<=b/\b<=1000000)(hd:1<=d/\d<=4000000000000000000)(h:ia (a*4096 / d) (-(-(b*4096) / d))=true)(w):
 Rv 237 #[a,b,d] w (.tuple #[jQ (a*4096 / d) (-(-(b*4096) / d)),true]):=by
 have⟨V,J⟩:=ay w #[(),(),(),()] 145;have bv:=by unfold ia at h;simpa[YQ] using h
 have HD:=h_ (Ds (a*4096) d o_ hd);have K:=h_ (Uf (b*4096) d o_ hd o_);have HM:=h_ (Q_ _ _ h);unfold jQ at HM ⊢;have H:w.heap.size<=w.heap.size:=Vj _;generalize a*4096 / d=lo,-(-(b*4096) / d)=hi at *;generalize dE lo=na,cY lo=da,dE hi=nb,cY hi=db at *;obtain⟨rR,hq⟩:∃r,w.heap.size=r:=⟨_,rfl⟩
 go_enter func237,ntmps237;go_upto_region 1 with fail
 generalize w.alloc _=W at *;rw[hq] at V J;have HQ:=h_ hq;go_wp2_with fail
 refine (HD.out _).mono ?_;rintro e w1 ⟨rfl,rfl⟩;go_wp2_with fail
 refine (K.out _).mono ?_;rintro e w1 ⟨rfl,rfl⟩;go_wp2_with fail
 refine aj (HM.out _) λw2 U=>?_;have aL:=ag U (HQ.out▸J.size) J;replace V:=V.next U
 have H:rR<=rR:=Vj _;have⟨bx,bz,b3,bb⟩:=V.q4;have⟨aM,a1,ae,a8⟩:=V.f4;have k9:=(((V.set 0 na).set 1 da).set 2 nb).set 3 db;have ad:=(((aL.setCell (p:=rR) H na).setCell (p:=⟨rR,1,none⟩) H da).setCell (p:=⟨rR,2,none⟩) H nb).setCell (p:=⟨rR,3,none⟩) H db;go_wp2;generalize setCell _ _ _=w9 at ad k9 ⊢;have⟨q0,q1,q2,q3⟩:=k9.q4;exact Vk (v:=.tuple #[.agg #[na,da,nb,db],true]) (by simp [results,results237,go_sem,q0,q1,q2,q3]) rfl oB
def Al(h:P:=by simp [results,results74,go_sem,q0,q1,q2]):=h
def IV(h:P:=by
 refine jp k_ (λWz a7 aX=>?_) _;exact bp cv Wz ⟨a7,aX.1,o_,aX.2.head⟩):=h
def Aj(h:P:=by
 go_wp2;generalize (setCell (setCell (setCell _ _ _) _ _) _ _)=w9 at k9 ad ⊢;have⟨q0,q1,q2⟩:=k9.q3;refine Vk (v:=.tuple #[.agg #[(),(),()],false]) Al rfl ?_;exact uY):=h
def LW(h:P:=by
 clear H HS cm;go_enter func74,ntmps74;go_upto_region 1 with fail
 generalize (w.alloc _).alloc _=W at *;have h2:w.heap.size<w.heap.size+1:=o_;generalize w.heap.size+1=rR at *;generalize a9:w.heap.size=rC at *;have bv:Hid (w.heap.size=rC):=a9;clear a9;go_wp2_with fail
 refine (HL.out _).mono ?_;rintro e w1 ⟨rfl,rfl⟩;have⟨bx,bz,b3⟩:=V.q3;have⟨aM,a1,ae⟩:=V.f3;have ax:=V.lt;have k9:=((V.set 0 ()).set 1 ()).set 2 ();have ad:af rC w (((W.setCell ⟨rR,0,none⟩ ()).setCell ⟨rR,1,none⟩ ()).setCell ⟨rR,2,none⟩ ()):=((J.setCell u_ _).setCell u_ _).setCell u_ _;exact Aj):=h
def LL(h:P:=by
 replace HN:Hid (dW A B s.data.toList=none):=h_ (HN.out s_);clear HK;have⟨bx,bz,b3⟩:=V.q3;have⟨aM,a1,ae⟩:=V.f3;have ax:=V.lt;have k9:=((V.set 0 ()).set 1 ()).set 2 ();have ad:af rC w (((W5.setCell ⟨rR,0,none⟩ ()).setCell ⟨rR,1,none⟩ ()).setCell ⟨rR,2,none⟩ ()):=((F.setCell u_ _).setCell u_ _).setCell u_ _;exact Aj):=h
def wn(h:P:=by
 exact Aj):=h
def Qu(A B:Int)(hA:bh A)(b6:a_ B)(s:ak)(hs:s.size<=100000000)(w:World):
 Rv 74 #[.agg #[A,B],s] w (cw (dW A B s.data.toList)):=by
 obtain⟨kC,V,J⟩:=cO w #[A,B] 42 #[(),(),()] 46;have hl:s.data.toList.length=s.size:=Vy;have HL:=h_ (cK (s.size:Int) 5 60);by_cases hO:s.data.toList=[79]
 .have hq:(s.toList==[79])=true:=by rw[Vw,hO];rfl
  have HN:Hid (dW A B s.data.toList=some (0,0,0)):=h_ (ug ⟨.inl ⟨rfl,rfl,rfl⟩,by rw[hO];rfl⟩);clear hO;go_enter func74,ntmps74;go_upto_region 1 with fail
  generalize (w.alloc _).alloc _=W at *;have h2:w.heap.size<w.heap.size+1:=o_;generalize w.heap.size+1=rR at *;generalize a9:w.heap.size=rC at *;have bv:Hid (w.heap.size=rC):=a9;clear a9;have⟨bx,bz,b3⟩:=V.q3;have⟨aM,a1,ae⟩:=V.f3;have ax:=V.lt;have k9:=((V.set 0 ()).set 1 ()).set 2 ();have ad:af rC w (((W.setCell ⟨rR,0,none⟩ ()).setCell ⟨rR,1,none⟩ ()).setCell ⟨rR,2,none⟩ ()):=((J.setCell u_ _).setCell u_ _).setCell u_ _;go_wp2;generalize (setCell (setCell (setCell _ _ _) _ _) _ _)=w9 at k9 ad ⊢;have⟨q0,q1,q2⟩:=k9.q3;refine Vk (v:=.tuple #[.agg #[(),(),()],true]) Al rfl ?_;exact nq
 .have hq:(s.toList==[79])=false:=by rw[Vw,VD];exact hO
  have hk:∀X Y E,gy A B s.data.toList X Y E->_:=λX Y E h=>yT h hO;rw[hl] at hk;by_cases hn:5<=s.size/\s.size<=60
  .have cz:aw (s.size:Int) 5 60=true:=by unfold aw;simp;omega
   have aG:0<s.size:=o_;have cb:s.size - 1<s.size:=o_;have ac:(1:Int)<=(s.size:Int):=o_;have ba:(5:Int)<=(s.size:Int):=o_;have cc:(s.size:Int)<=60:=o_;have b9:(s.size:Int) - 1<(s.size:Int):=o_;have d0:(0:Int)<=(s.size:Int) - 1:=o_;have cQ:IntKind.i64.wrap ((s.size:Int) - 1)=(s.size:Int) - 1:=Wg _ o_;rw[cz] at HL;have HS:Hid (∀W:World,Kp 61 #[.string (s.extract 1 (s.size - 1)),.int .u8 44] W λe w'=>∃v,e=.returned v/\cU w' W.heap.size v (bB (s.extract 1 (s.size - 1)) 44)/\af W.heap.size W w'):=h_ λW=>gL _ 44 W u_;have az:=ky (s.extract 1 (s.size - 1)) 44;have cN:(s.extract 1 (s.size - 1)).data.toList=(s.data.toList.drop 1).take (s.size - 1 - 1):=Lib.extract_data _ _ _;have aF:∀X Y E,gy A B s.data.toList X Y E->(s[0].toNat:Int)=40/\((s[s.size - 1]'cb).toNat:Int)=41/\cn 44 (s.extract 1 (s.size - 1)).data.toList=[dr X (E*E),dr Y (E*E*E)]:=λX Y E h=>by
    obtain⟨_,h1,h2,_⟩:=hk X Y E h;have a6:s.size=(gJ X Y E).length+2:=by rw[<-hl,h1];simp
    have g0:s[0]=s.data.toList[0]'o_:=rfl;have g1:s[s.size - 1]'cb=s.data.toList[s.size - 1]'o_:=rfl;refine⟨?_,?_,?_⟩
    .rw[g0];simp only[h1];rfl
    .rw[g1];simp only[h1];rw[List.getElem_cons,Y4 o_,List.getElem_append_right o_];simp [a6]
    .rw[cN,h1,a6,show (gJ X Y E).length+2 - 1 - 1=(gJ X Y E).length from rfl,VQ,V1,List.take_left,Rk]
   have cm:∀x∈bB (s.extract 1 (s.size - 1)) 44,x.size<=s.size:=λx hx=>by
    have:=re 44 (s.extract 1 (s.size - 1)).data.toList x.data.toList FY;rw[cN] at this;rw[Lib.size_eq];simp only[WF,VM] at this;omega
   rw[<-az] at aF;clear cN az hk;have H:=h_ aF;clear aF;generalize bB (s.extract 1 (s.size - 1)) 44=xs at *;cases h0:((s[0].toNat:Int) != 40)
   .cases h1:(((s[s.size - 1]'cb).toNat:Int) != 41)
    .go_enter func74,ntmps74;go_upto_region 1 with fail
     generalize (w.alloc _).alloc _=W at *;have h2:w.heap.size<w.heap.size+1:=o_;generalize w.heap.size+1=rR at *;generalize a9:w.heap.size=rC at *;have bv:Hid (w.heap.size=rC):=a9;clear a9;go_wp2_with fail
     refine (HL.out _).mono ?_;rintro e w1 ⟨rfl,rfl⟩;go_wp2_with fail
     refine (HS.out _).mono ?_;rintro e w1 ⟨v,rfl,ov,I⟩;have lC:=kC.lt;replace kC:=kC.next I
     replace V:=V.next I
     have F:=ag I (Vq lC) J;clear lC J I HL HS h0 h1 d0 cQ;have lC:=kC.lt;obtain⟨la,b2,rfl,bo,hf⟩:=ov.form;clear ov;by_cases cA:xs.length=2
     .have hm:((xs.length:Int) != 2)=false:=by simp [cA]
      have co:(0:Int)<(xs.length:Int):=o_;have cy:(1:Int)<(xs.length:Int):=o_;obtain⟨g,rfl,q0,_,bq,_⟩:=hf 0 o_;obtain⟨g',e1,q1,_⟩:=hf 1 o_;simp only[WI,YT,and_true] at e1;subst e1;have z0:=cm xs[0] (VC _);have z1:=cm xs[1] (VC _);have b7:∀X Y E,gy A B s.data.toList X Y E->xs[0].data.toList=dr X (E*E)/\xs[1].data.toList=dr Y (E*E*E):=λX Y E h=>by
       obtain⟨_,_,h3⟩:=H.out X Y E h;rw[ES cA] at h3;obtain⟨e1,e2⟩:=WX h3;exact⟨e1,(WX e2).1⟩
      have hK:∀X Y E,gy A B s.data.toList X Y E->bA xs[0].data.toList=some (X,E*E)/\bA xs[1].data.toList=some (Y,E*E*E)/\aq (E*E)=E:=λX Y E h=>by
       obtain⟨h1,h2⟩:=b7 X Y E h;obtain⟨_,_,_,h3,h4,_,h5⟩:=yT h hO;rw[h1,h2];exact⟨h3,h4,h5⟩
      clear H b7 cm hf;generalize xs[0]=x0 at *;generalize xs[1]=x1 at *;clear cA;generalize xs.length=m at *;have HX:=h_ (xI x0 o_);have HY:=h_ (xI x1 o_);have ab:=uJ x0.data.toList;have cF:=uJ x1.data.toList;simp only[CI] at HX HY;have cB:=h_ (pg (gE (bA x0.data.toList)) o_);have cG:∀X Y E,gy A B s.data.toList X Y E->((bA x0.data.toList).isSome=true/\(bA x1.data.toList).isSome=true)/\iE (bA x0.data.toList)=X/\iE (bA x1.data.toList)=Y/\aq (gE (bA x0.data.toList))=E:=λX Y E h=>by
       obtain⟨h1,h2,h3⟩:=hK X Y E h;rw[h1,h2];exact⟨⟨rfl,rfl⟩,rfl,rfl,h3⟩
      clear hK;generalize bA x0.data.toList=fx at *;generalize bA x1.data.toList=fy at *;generalize iE fx=X at *;generalize iE fy=Y at *;generalize fx.isSome=one at *;generalize fy.isSome=two at *;generalize gE fx=b at *;generalize gE fy=d at *;generalize aq b=G at *;have HK:=h_ cG;clear cG hO;go_wp2_with fail
      refine aj (HX.out _) λw2 U=>?_;replace kC:=kC.next U
      replace V:=V.next U
      replace F:=ag U (Vq lC) F;have cW:=(U.cell (p:=⟨g,1,none⟩) bq).trans q1;have cM:g<w2.heap.size:=Vp bq U.size;clear lC U HX q0 q1;have lC:=kC.lt;have kF:=ah.new w2 #[X,b] 96;replace V:=V.alloc (.cells #[X,b] 96);replace kC:=kC.alloc (.cells #[X,b] 96);have a8:af w2 w2 (w2.alloc (.cells #[X,b] 96)):=(Vn _ _).alloc (Vj _) _;replace F:=ag a8 (Vq lC) F;replace cW:=(a8.cell (p:=⟨g,1,none⟩) cM).trans cW;clear a8 lC bq cM;have lC:=kC.lt;go_upto_region 10 with fail
      generalize World.alloc _ _=W3 at *;generalize w2.heap.size=rF at *;go_wp2_with fail
      refine aj (HY.out _) λw4 K=>?_;replace kF:=kF.next K
      replace kC:=kC.next K
      replace V:=V.next K
      replace F:=ag K (Vq lC) F;clear lC K HY cW;have lC:=kC.lt;have kG:=ah.new w4 #[Y,d] 96;replace V:=V.alloc (.cells #[Y,d] 96);replace kC:=kC.alloc (.cells #[Y,d] 96);replace kF:=kF.alloc (.cells #[Y,d] 96);have a8:af w4 w4 (w4.alloc (.cells #[Y,d] 96)):=(Vn _ _).alloc (Vj _) _;replace F:=ag a8 (Vq lC) F;clear a8 lC;have lC:=kC.lt;go_upto_region 11 with fail
      generalize World.alloc _ _=W5 at *;generalize w4.heap.size=rG at *;have HN:Hid (¬(one=true/\two=true)->dW A B s.data.toList=none):=h_ λh1=>lD λx y e h=>h1 (HK.out _ _ _ h).1;cases one
      .exact LL
      .cases two
       .exact LL
       .clear HN;have⟨Z,aL,a2⟩:=kF.p2;have⟨cT,cX,cP⟩:=kG.p2;go_upto_region 13 with fail
        apply fZ (λcv Wz=>ai [] W5 Wz/\(λ_=>True) Wz/\W5.heap.size<=cv/\ah cv #[X,Y,G] 46 Wz)
        .intro bp;refine bw [] (λ_=>false) (λ_=>True) (KD (λ_=>True) []) k_ ⟨trivial,bU.nil _⟩ ?_;apply lw ⟨W5,ai.refl _ _,trivial,bU.nil _⟩ (cj 8 0) 2 (KD.closed ao _) aB k_ k_ k_ k_ s_
         .intro E hE bs b8;(repeat (first|(refine gN ?_;go_big_quiet_step ((go_at_call 106;exact Calls.quiet_clsS _ (cB.out _)));refine wpQuiet_nil ?_)|refine gM ?_));exact gO rfl
         refine aR [8] ?_;refine am.cons ?_ ?_
         .refine dB (zs:=#[(),(),()]) (T:=46) ao (λcv cu b5 hne=>?_);refine ap ?_;refine aR [9] ?_;refine am.cons ?_ ?_
          .refine fB (v:=.agg #[X,Y,G]) [] [] (.inl cu) ao (λ_ _ h _=>h) s_ (λhne=>?_)
           try simp only[Value.cells]
           exact IV
          exact am.nil
         exact am.nil
        try dsimp only
        rintro rP W7 ⟨bi,_,b4,kP⟩;have b1:=bi.below;clear Z aL a2 cT cX cP kF kG bi;replace kC:=kC.next b1
        replace V:=V.next b1
        replace F:=ag b1 (Vq lC) F;clear b1 b4 lC;have lC:=kC.lt;have HI:=h_ (Fu A B X Y G hA b6);have⟨a4,a3,a5⟩:=kC.p2;have⟨bY,bZ,bX,b0⟩:=kP.p3;go_wp2_with fail
        refine aj (HI.out _) λw8 ca=>?_;replace kC:=kC.next ca
        replace kP:=kP.next ca
        replace V:=V.next ca
        replace F:=ag ca (Vq lC) F;clear a4 a3 a5 bY bZ bX b0 ca HI lC;have lC:=kC.lt;cases aa:dS A B X Y G
        .have HN:Hid (dW A B s.data.toList=none):=h_ (lD λx y e h=>by
          obtain⟨_,h1,h2,h3⟩:=HK.out _ _ _ h;subst h1 h2 h3;rw[vk h.1] at aa;cases aa)
         clear aa HK;have⟨bx,bz,b3⟩:=V.q3;have⟨aM,a1,ae⟩:=V.f3;have ax:=V.lt;have k9:=((V.set 0 ()).set 1 ()).set 2 ();have ad:af rC w (((w8.setCell ⟨rR,0,none⟩ ()).setCell ⟨rR,1,none⟩ ()).setCell ⟨rR,2,none⟩ ()):=((F.setCell u_ _).setCell u_ _).setCell u_ _;exact wn
        .have HP:=h_ (Ax aa);clear aa;have HT:=h_ (DP A B X Y G HP.out);have⟨bY,bZ,bX,b0⟩:=kP.p3;go_wp2_with fail
         refine aj (HT.out _) λw9 aZ=>?_;replace kP:=kP.next aZ
         replace V:=V.next aZ
         replace F:=ag aZ (Vq lC) F;clear bY bZ bX b0 aZ HT;cases hq:((im X Y G).toList==s.toList)
         .have HN:Hid (dW A B s.data.toList=none):=h_ (lD λx y e h=>by
           obtain⟨_,h1,h2,h3⟩:=HK.out _ _ _ h;subst h1 h2 h3;have h4:=h.2;rw[<-qT] at h4;simp [Vw,h4] at hq)
          clear HK;have⟨bx,bz,b3⟩:=V.q3;have⟨aM,a1,ae⟩:=V.f3;have ax:=V.lt;have k9:=((V.set 0 ()).set 1 ()).set 2 ();have ad:af rC w (((w9.setCell ⟨rR,0,none⟩ ()).setCell ⟨rR,1,none⟩ ()).setCell ⟨rR,2,none⟩ ()):=((F.setCell u_ _).setCell u_ _).setCell u_ _;exact wn
         .have HN:Hid (dW A B s.data.toList=some (X,Y,G)):=h_ (ug ⟨HP.out,by
           rw[<-qT];simpa[Vw] using hq⟩)
          clear HK;have⟨bY,bZ,bX,b0⟩:=kP.p3;have⟨bx,bz,b3⟩:=V.q3;have⟨aM,a1,ae⟩:=V.f3;have ax:=V.lt;have k9:=((V.set 0 X).set 1 Y).set 2 G;have ad:af rC w (((w9.setCell ⟨rR,0,none⟩ X).setCell ⟨rR,1,none⟩ Y).setCell ⟨rR,2,none⟩ G):=((F.setCell u_ _).setCell u_ _).setCell u_ _;go_wp2;generalize (setCell (setCell (setCell _ _ _) _ _) _ _)=w9 at k9 ad ⊢;have⟨q0,q1,q2⟩:=k9.q3;refine Vk (v:=.tuple #[.agg #[X,Y,G],true]) Al rfl ?_;exact nq
     .have hm:((xs.length:Int) != 2)=true:=u_;have HN:Hid (dW A B s.data.toList=none):=h_ (lD λx y e h=>by
       have:=congrArg List.length (H.out _ _ _ h).2.2;rw[Yx] at this;exact cA this)
      clear H hf cm;have⟨bx,bz,b3⟩:=V.q3;have⟨aM,a1,ae⟩:=V.f3;have ax:=V.lt;have k9:=((V.set 0 ()).set 1 ()).set 2 ();have ad:af rC w (((w1.setCell ⟨rR,0,none⟩ ()).setCell ⟨rR,1,none⟩ ()).setCell ⟨rR,2,none⟩ ()):=((F.setCell u_ _).setCell u_ _).setCell u_ _;exact wn
    .have HN:Hid (dW A B s.data.toList=none):=h_ (lD λx y e h=>by
      have:=(H.out _ _ _ h).2.1;simp [this] at h1)
     exact LW
   .have HN:Hid (dW A B s.data.toList=none):=h_ (lD λx y e h=>by
     have:=(H.out _ _ _ h).1;simp [this] at h0)
    exact LW
  .have cz:aw (s.size:Int) 5 60=false:=by
    cases h:aw (s.size:Int) 5 60
    .rfl
    .have:=bO h;omega
   have HN:Hid (dW A B s.data.toList=none):=h_ (lD λx y e h=>hn (hk _ _ _ h).2.2.1);rw[cz] at HL;clear hk;go_enter func74,ntmps74;go_upto_region 1 with fail
   generalize (w.alloc _).alloc _=W at *;have h2:w.heap.size<w.heap.size+1:=o_;generalize w.heap.size+1=rR at *;generalize a9:w.heap.size=rC at *;have bv:Hid (w.heap.size=rC):=a9;clear a9;go_wp2_with fail
   refine (HL.out _).mono ?_;rintro e w1 ⟨rfl,rfl⟩;have⟨bx,bz,b3⟩:=V.q3;have⟨aM,a1,ae⟩:=V.f3;have ax:=V.lt;have k9:=((V.set 0 ()).set 1 ()).set 2 ();have ad:af rC w (((W.setCell ⟨rR,0,none⟩ ()).setCell ⟨rR,1,none⟩ ()).setCell ⟨rR,2,none⟩ ()):=((J.setCell u_ _).setCell u_ _).setCell u_ _;exact wn
def zL(h:P:=by simp [results,results185,go_sem,q0,q1,q2,q3]):=h
def I_(h:P:=by simp [results,results130,go_sem,q0,q1,q2,q3]):=h
def S4:ia (0*4096 / 1) (-(-(0*4096) / 1))=true:=rfl
def OZ(A B X Y E:Int)(n:Nat)(hA:bh A)(hB:a_ B)(hd:aP A B≠0)(hX:a_ X)(hE:0<=E/\E<=20)(hn:n<=5)(w):
 Rv 185 #[.agg #[A,B],.agg #[X,Y,E],n] w (mc (kq A B X E n)):=by
 have⟨kC,kP,V,J⟩:=fv w #[A,B] 42 #[X,Y,E] 46 #[(),(),(),()] 145;have H:w.heap.size<=w.heap.size+1+1:=o_;have G:=h_ (Pg A B X Y E n hA hB hd hX hE hn);have HK:=h_ (Nv A B hA hB);have HP:=h_ (QH n hn);have hk:=zE hA hB;have h4:=rn hn;have b6:=@za A B X E n hX hE;have a6:∀r,jM A B X E n=some (some r)->Sz 80 r.1/\Sz 80 r.2:=λr h=>by
  unfold jM at h;split at h
  .cases h
  .have b8:=aN (x:=E) (y:=E) 20 20 o_ o_;exact yX wl wl h
 have HV:Hid (kq A B X E n=match jM A B X E n with
  |none=>none
  |some none=>some (0,0)
  |some (some r)=>some (lW (rtB r.1 r.2) (dV A B) (3*4 ^ n),mK (rtB r.1 r.2) (dV A B) (3*4 ^ n))):=rfl
 rw[HV.out];generalize jM A B X E n=bp at *;rcases bp with _|_|r
 .simp only[mc,sY];go_enter func185,ntmps185;go_upto_region 1 with fail
  generalize ((w.alloc _).alloc _).alloc _=W,hq:w.heap.size+1+1=rR at *;have⟨a4,a3,a5⟩:=kC.p2;have⟨bY,bZ,bX,b0⟩:=kP.p3;go_wp2_with fail
  refine (G.out W).mono ?_;rintro e w1 ⟨v,K,rfl,I,rfl,a,m,c,rfl,hm⟩;have aL:=ag I J.size J;replace V:=V.next I
  have cm:(m:Int)<=(n:Int):=o_;have⟨bx,bz,b3,bb⟩:=V.q4;have⟨aM,a1,ae,a8⟩:=V.f4;have k9:=(((V.set 0 ()).set 1 ()).set 2 ()).set 3 ();have ad:=(((aL.setCell (p:=rR) H ()).setCell (p:=⟨rR,1,none⟩) H ()).setCell (p:=⟨rR,2,none⟩) H ()).setCell (p:=⟨rR,3,none⟩) H ();go_wp2;generalize setCell _ _ _=w9 at ad k9 ⊢;have⟨q0,q1,q2,q3⟩:=k9.q4;exact Vk (v:=.tuple #[.agg #[(),(),(),()],false]) zL rfl oB
 .simp only[mc];have HM:=h_ (DR 0 0 1 o_ o_ o_ S4);have e1:jQ 0 0=.agg #[dE 0,cY 0,dE 0,cY 0]:=rfl;rw[e1];have e2:jQ (0*4096 / 1) (-(-(0*4096) / 1))=.agg #[dE 0,cY 0,dE 0,cY 0]:=rfl;rw[e2] at HM;generalize dE 0=na,cY 0=da at *;go_enter func185,ntmps185;go_upto_region 1 with fail
  generalize ((w.alloc _).alloc _).alloc _=W,hq:w.heap.size+1+1=rR at *;have⟨a4,a3,a5⟩:=kC.p2;have⟨bY,bZ,bX,b0⟩:=kP.p3;go_wp2_with fail
  refine (G.out W).mono ?_;rintro e w1 ⟨v,K,rfl,I,rfl⟩;have aL:=ag I J.size J;replace V:=V.next I
  go_wp2_with fail
  refine aj (HM.out w1) λw2 U=>?_;replace aL:=ag U aL.size aL;replace V:=V.next U
  have⟨bx,bz,b3,bb⟩:=V.q4;have⟨aM,a1,ae,a8⟩:=V.f4;have k9:=(((V.set 0 na).set 1 da).set 2 na).set 3 da;have ad:=(((aL.setCell (p:=rR) H na).setCell (p:=⟨rR,1,none⟩) H da).setCell (p:=⟨rR,2,none⟩) H na).setCell (p:=⟨rR,3,none⟩) H da;go_wp2;generalize setCell _ _ _=w9 at ad k9 ⊢;have⟨q0,q1,q2,q3⟩:=k9.q4;exact Vk (v:=.tuple #[.agg #[na,da,na,da],true]) zL rfl oB
 .have hb:=b6 rfl;have⟨zx,zz⟩:=a6 r rfl;have aa:=At hb hk (show 1<=3*(4:Int) ^ n by omega);have e1:lW (rtB r.1 r.2) (dV A B) (3*4 ^ n)=max 0 (3*((rtB r.1 r.2:Int) - 1) - dV A B)*4096 / (3*4 ^ n):=by unfold lW;rw[Int.max_comm]
  have e2:mK (rtB r.1 r.2) (dV A B) (3*4 ^ n)=-(-((3*(rtB r.1 r.2:Int)+dV A B)*4096) / (3*4 ^ n)):=by unfold mK;rw[Int.neg_mul]
  have b2:=λW=>DR (max 0 (3*((rtB r.1 r.2:Int) - 1) - dV A B)) (3*(rtB r.1 r.2:Int)+dV A B) (3*4 ^ n) o_ o_ o_ (by rw[<-e1,<-e2];exact aa) W;rw[<-e1,<-e2] at b2;have Z:=h_ b2;have ac:Hid (∀x y W,Rw 172 #[.int .i64 x,.int .i64 y] W (max x y:Int)):=h_ (λx y W=>(ng x y W).mono λ_ _ h=>⟨by rw[h.1];congr 2;omega,h.2.symm⟩);simp only[mc];unfold jQ at Z ⊢;have⟨x,z⟩:=r;simp only at *;generalize lW (rtB x z) (dV A B) (3*4 ^ n)=lo,mK (rtB x z) (dV A B) (3*4 ^ n)=hi at *;have ab:=h_ (λW l1 l2=>QW x z l1 l2 (Vl zx.len o_) (Vl zz.len o_) W);generalize rtB x z=b,dV A B=k,(4:Int) ^ n=p4,dE lo=na,cY lo=da,dE hi=nb,cY hi=db at *;go_enter func185,ntmps185;go_upto_region 1 with fail
  generalize ((w.alloc _).alloc _).alloc _=W,hq:w.heap.size+1+1=rR at *;have⟨a4,a3,a5⟩:=kC.p2;have⟨bY,bZ,bX,b0⟩:=kP.p3;go_wp2_with fail
  refine (G.out W).mono ?_;rintro e w1 ⟨v,K,rfl,I,rfl,hO⟩;have aL:=ag I J.size J;replace V:=V.next I
  replace kC:=kC.next I
  obtain⟨g,F,ax,cx,az,cz,rfl,bq,_,g0,g1,g2,g3,rx,rz⟩:=hO.form;have cB:=h_ (λW (hb:af w1 w1 W)=>ab.out W _ _ (rx.1.below hb) (rz.1.below hb));generalize (dg x.natAbs).length=nx,(dg z.natAbs).length=nz,decide (x<0)=sx,decide (z<0)=sz at *;have cm:¬((n+1:Nat):Int)<=(n:Int):=o_;have⟨a4,a3,a5⟩:=kC.p2;go_upto_region 6 with fail
  (refine bR k_ k_ ?_;(repeat (go_big_quiet_step ((first|(go_at_call 238;with_reducible exact Calls.quiet_cls ao _ (cB.out _ (aU.over _).below))|(go_at_call 239;with_reducible exact Calls.quiet_cls ao _ (HK.out _))))));refine wpQuiet_nil ?_;intro w2 U)
  replace aL:=ag U aL.size aL;replace V:=V.next U
  go_wp2_with (first|(go_at_call 172;refine aA (ac.out _ _ _) ?_)|(go_at_call 240;refine aA (HP.out _) ?_))
  refine aj (Z.out w2) λw3 aF=>?_;replace aL:=ag aF aL.size aL;replace V:=V.next aF
  have⟨bx,bz,b3,bb⟩:=V.q4;have⟨aM,a1,ae,a8⟩:=V.f4;have k9:=(((V.set 0 na).set 1 da).set 2 nb).set 3 db;have ad:=(((aL.setCell (p:=rR) H na).setCell (p:=⟨rR,1,none⟩) H da).setCell (p:=⟨rR,2,none⟩) H nb).setCell (p:=⟨rR,3,none⟩) H db;go_wp2;generalize setCell _ _ _=w9 at ad k9 ⊢;have⟨q0,q1,q2,q3⟩:=k9.q4;exact Vk (v:=.tuple #[.agg #[na,da,nb,db],true]) zL rfl oB
def QG(A B X Y E n:Int)(hC:be A B=true)(G:cf A B (X,Y,E))(w):
 Rv 184 #[.agg #[A,B],.agg #[X,Y,E],n] w (.bool (aw n 0 5)):=by
 have⟨kC,kP,J⟩:=cO w #[A,B] 42 #[X,Y,E] 46;have h0:=λW=>BG A B X Y E hC W;rw[vk G] at h0;have HI:=h_ (cK n 0 5);generalize aw n 0 5=g at *;go_enter func184,ntmps184;go_upto_region 1 with fail
 generalize (w.alloc _).alloc _=W at *;have⟨a4,a3⟩:=kC.q2;have⟨bY,bZ,bX⟩:=kP.q3;go_wp2_with fail
 refine aj ((h_ h0).out W) λw1 I=>?_;go_wp2_with ((go_at_call 104;refine aA (HI.out _) ?_))
 go_ret;exact qb
def Ou(A B X Y E n:Int)(hC:be A B=true)(G:cf A B (X,Y,E))(w):
 Rv 130 #[.agg #[A,B],.agg #[X,Y,E],n] w (mc (iI A B X E n)):=by
 have⟨kC,kP,V,J⟩:=fv w #[A,B] 42 #[X,Y,E] 46 #[(),(),(),()] 145;have H:w.heap.size<=w.heap.size+1+1:=o_;have⟨hA,hB⟩:=fs hC;have⟨hX,_,hE⟩:=G.bd;simp only at hX hE;have h1:=λW=>QG A B X Y E n hC G W;have HV:Hid (iI A B X E n=if aw n 0 5=true then kq A B X E n.toNat else none):=rfl;rw[HV.out];cases hi:aw n 0 5
 .rw[hi] at h1;rw[Vm s_];have F:=h_ h1;go_enter func130,ntmps130;go_upto_region 1 with fail
  generalize ((w.alloc _).alloc _).alloc _=W,hq:w.heap.size+1+1=rR at *;have⟨a4,a3,a5⟩:=kC.p2;have⟨bY,bZ,bX,b0⟩:=kP.p3;go_wp2_with fail
  refine aj (F.out W) λw1 I=>?_;have aL:=ag I J.size J;replace V:=V.next I
  have⟨bx,bz,b3,bb⟩:=V.q4;have⟨aM,a1,ae,a8⟩:=V.f4;have k9:=(((V.set 0 ()).set 1 ()).set 2 ()).set 3 ();have ad:=(((aL.setCell (p:=rR) H ()).setCell (p:=⟨rR,1,none⟩) H ()).setCell (p:=⟨rR,2,none⟩) H ()).setCell (p:=⟨rR,3,none⟩) H ();go_wp2;generalize setCell _ _ _=w9 at ad k9 ⊢;have⟨q0,q1,q2,q3⟩:=k9.q4;exact Vk (v:=.tuple #[.agg #[(),(),(),()],false]) I_ rfl oB
 .rw[hi] at h1;rw[Vo rfl];have hn:=bO hi;obtain⟨m,rfl⟩:∃m:Nat,n=m:=⟨n.toNat,o_⟩
  rw[show ((m:Int)).toNat=m by omega];have g:=h_ (OZ A B X Y E m hA hB (BM hC) hX hE o_);obtain⟨na,da,nb,db,ok,hv⟩:∃na da nb db ok,mc (kq A B X E m)=.tuple #[.agg #[.int .i64 na,.int .i64 da,.int .i64 nb,.int .i64 db],.bool ok]:=by
   cases kq A B X E m with
   |none=>exact⟨_,_,_,_,_,rfl⟩
   |some p=>exact⟨_,_,_,_,_,rfl⟩
  rw[hv] at g ⊢;go_enter func130,ntmps130;go_upto_region 1 with fail
  generalize ((w.alloc _).alloc _).alloc _=W,hq:w.heap.size+1+1=rR at *;have⟨a4,a3,a5⟩:=kC.p2;have⟨bY,bZ,bX,b0⟩:=kP.p3;go_wp2_with fail
  refine aj ((h_ h1).out W) λw1 I=>?_;have aL:=ag I J.size J;replace V:=V.next I
  replace kC:=kC.next I
  replace kP:=kP.next I
  have⟨a4,a3,a5⟩:=kC.p2;have⟨bY,bZ,bX,b0⟩:=kP.p3;go_wp2_with fail
  refine aj (g.out w1) λw2 U=>?_;replace aL:=ag U aL.size aL;replace V:=V.next U
  have⟨bx,bz,b3,bb⟩:=V.q4;have⟨aM,a1,ae,a8⟩:=V.f4;have k9:=(((V.set 0 na).set 1 da).set 2 nb).set 3 db;have ad:=(((aL.setCell (p:=rR) H na).setCell (p:=⟨rR,1,none⟩) H da).setCell (p:=⟨rR,2,none⟩) H nb).setCell (p:=⟨rR,3,none⟩) H db;go_wp2;generalize setCell _ _ _=w9 at ad k9 ⊢;have⟨q0,q1,q2,q3⟩:=k9.q4;exact Vk (v:=.tuple #[.agg #[na,da,nb,db],ok]) I_ rfl oB
end Go.Proofs.YtaamhakdhaolmaaGreatDoor
