/- Part 18. -/
import Derived.Test.YtaamhakdhaolmaaGreatDoorAag
import Derived.Test.YtaamhakdhaolmaaGreatDoorAao
import Derived.Test.YtaamhakdhaolmaaGreatDoorAap
namespace Go.Proofs.YtaamhakdhaolmaaGreatDoor
open Go.RowKit
set_option maxHeartbeats 8000000
set_option maxRecDepth 100000
variable {P:Prop}
set_option linter.all false
def zf(h:P:=by
 rcases Dd h with h|h
 .exact .inl h
 .exact .inr o_):=h
def fB(l:List UInt8)(n:Int):Prop:=(-99999<=n/\n<=99999)/\Lib.itoa n=l
def fB.uniq{l}{m n}(h:fB l m)(k:fB l n):m=n:=tM (h.2.trans k.2.symm)
def bF(k:Nat)(l:List UInt8):Int:=if l.length=0\/k<l.length\/(l.head?=some 48/\1<l.length) then -1 else match Lib.decFrom 0 l with|some m=>m|none=>-1
def qm{k u}(h:(Lib.decDigits u).length<=k):bF k (Lib.decDigits u)=u:=by
 have h1:=Vi.2 (nP u);unfold bF;rw[Uj,sN];rintro (h2|h2|⟨h2,h3⟩)
 .omega
 .omega
 .have:=Qo u h2;subst this;rw[mi o_] at h3;simp at h3
def Bs{k}{l}(h:0<=bF k l):∃u:Nat,bF k l=u/\Lib.decDigits u=l:=by
 unfold bF at *;split at h
 .omega
 .rename_i hc;rw[Uj hc];simp only[not_or,not_and,Nat.not_lt] at hc;cases hd:Lib.decFrom 0 l with
  |none=>rw[hd] at h;simp at h
  |some m=>exact⟨m,rfl,Qz _ l m rfl (λe=>hc.1 (by rw[e];rfl)) (λe=>by have:=hc.2.2 e;omega) hd⟩
def oJ(k)(l):-1<=bF k l:=by
 unfold bF;split
 .omega
 .cases Lib.decFrom 0 l with
  |none=>simp
  |some m=>simp only;omega
def Rp{l}(h:bF 6 l<=0\/100000<=bF 6 l)(n)(hn:n<0):¬fB (45::l) n:=by
 rintro⟨h1,h2⟩;obtain⟨u,rfl⟩:∃u:Nat,n=-(u:Int):=⟨n.natAbs,by omega⟩
 rw[jF o_] at h2;have:=qm (k:=6) (u:=u) (Ui (me 4 u o_) o_);rw[((VO h2).2)] at this;omega
def Q0{l}{n}(h:fB (45::l) n):n<0:=by
 rcases mf n with ⟨u,rfl⟩|⟨u,hu,rfl⟩
 .have h2:=h.2;rw[iw] at h2;have:=pd u 45 (by rw[h2];simp);exact uH
 .omega
def O3{l}(h:0<bF 6 l/\bF 6 l<=99999):fB (45::l) (-(bF 6 l)):=by
 have⟨u,h1,h2⟩:=Bs (show 0<=bF 6 l by omega);rw[h1] at h ⊢;exact⟨by omega,by rw[jF o_,h2]⟩
def P1{l}(h:0<=bF 6 l/\bF 6 l<=99999):fB l (bF 6 l):=by
 have⟨u,h1,h2⟩:=Bs h.1;rw[h1] at h ⊢;exact⟨by omega,by rw[iw,h2]⟩
def Tg{l}(h0:l.head?≠some 45\/l.length<=1)(h:¬(0<=bF 6 l/\bF 6 l<=99999))(n):¬fB l n:=by
 rintro⟨h1,h2⟩;rcases mf n with ⟨u,rfl⟩|⟨u,hu,rfl⟩
 .rw[iw] at h2;have:=qm (k:=6) (u:=u) (Ui (me 4 u o_) o_);rw[h2] at this;omega
 .rw[jF hu] at h2;rcases h0 with h0|h0
  .exact h0 (by rw[<-h2];rfl)
  .have:=Vi.2 (nP u);rw[<-h2] at h0;simp at h0;exact nP u h0
def cW(a b:Int):List UInt8:=if b=1 then Lib.itoa a else Lib.itoa a++47::Lib.itoa b
def fE(l:List UInt8)(a b:Int):Prop:=bJ a b=true/\cW a b=l
def sd(a):(47:UInt8)∉Lib.itoa a:=St d_ (.inl d_)
def qH{a}:Lib.cut (cW a 1) [47]=(Lib.itoa a,[],false):=by
 unfold cW;rw[Um rfl,QG (sd a)]
def qU{a b}(hb:b≠1):Lib.cut (cW a b) [47]=(Lib.itoa a,Lib.itoa b,true):=by
 unfold cW;rw[Uj hb,Ef _ (sd a)]
def OJ{a}:cU 47 (cW a 1)=[Lib.itoa a]:=by
 unfold cW;rw[Um rfl,tK _ _ (sd a)]
def QD{a b}(hb:b≠1):cU 47 (cW a b)=[Lib.itoa a,Lib.itoa b]:=by
 unfold cW;rw[Uj hb,xt _ _ _ (sd a),tK _ _ (sd b)]
def fE.uniq{l}{a b c d}(h:fE l a b)(k:fE l c d):a=c/\b=d:=by
 have⟨_,h⟩:=h;have⟨_,k⟩:=k;subst h;by_cases hb:b=1<;>by_cases hd:d=1
 .subst hb hd;have h1:=qH (a:=a);rw[<-k,qH] at h1;exact⟨tM (congrArg Prod.fst h1).symm,rfl⟩
 .subst hb;have h1:=qH (a:=a);rw[<-k,qU hd] at h1;have:=congrArg (·.2.2) h1;simp at this
 .subst hd;have h1:=qU (a:=a) hb;rw[<-k,qH] at h1;have:=congrArg (·.2.2) h1;simp at this
 .have h1:=qU (a:=a) hb;rw[<-k,qU hd] at h1;exact⟨tM (congrArg Prod.fst h1).symm,tM (congrArg (·.2.1) h1).symm⟩
def pa{a b}(h:bJ a b=true):(1<=b/\b<=1000000000)/\(-1000000000<=a/\a<=1000000000):=by
 exact FA
def qT{a}(h:sn a):(Lib.itoa a).length<=11/\Lib.atoiAll (Lib.itoa a)=.ok a:=⟨CY 9 o_,OO o_⟩
def yo{a b}(h:bJ a b=true):(cW a b).length<=22:=by
 have⟨h1,h2⟩:=pa h;have l1:=(qT h2).1;have l2:(Lib.itoa b).length<=10:=by
  obtain⟨u,rfl⟩:∃u:Nat,b=u:=⟨b.toNat,by omega⟩
  rw[iw];exact me 9 u o_
 unfold cW;split
 .omega
 .rw[UE,Uw];omega
def ot(l:List UInt8):Int:=if l.head?=some 45 then -(bF 10 l.tail) else bF 10 l
def Qv{a}(h:sn a):ot (Lib.itoa a)=a:=by
 unfold ot;rcases mf a with ⟨u,rfl⟩|⟨u,hu,rfl⟩
 .rw[iw,Uj,qm (me 9 u o_)];intro e;have:=pd u 45 (List.mem_of_mem_head? (by rw[e];rfl));exact uH
 .rw[jF hu,Um r_,List.tail_cons,qm (me 9 u o_)]
def M1{b}(h:1<=b/\b<=1000000000):bF 10 (Lib.itoa b)=b:=by
 obtain⟨u,rfl⟩:∃u:Nat,b=u:=⟨b.toNat,by omega⟩
 rw[iw,qm (me 9 u o_)]
def Ti{a b}{x:UInt8}(h:x∈cW a b):x=45\/(47<=x.toNat/\x.toNat<=57):=by
 unfold cW at h;split at h
 .exact zf
 .rcases Vx.1 h with h|h
  .exact zf
  .rcases UM.1 h with h|h
   .subst h;exact .inr d_
   .exact zf
def AJ(a b):(44:UInt8)∉cW a b:=λh=>by
 rcases Ti h with h|h
 .exact absurd h d_
 .have e2:(44:UInt8).toNat=44:=rfl;omega
def Ew(a b):cW a b≠[]:=by
 unfold cW;split
 .exact Ed a
 .have:=Ed a;intro h;exact this (List.append_eq_nil_iff.1 h).1
def gw(X Y E:Int):List UInt8:=cW X (E*E)++44::cW Y (E*E*E)
def it(X Y E:Int):List UInt8:=if E=0 then [79] else 40::(gw X Y E++[41])
def gg(A B:Int)(l:List UInt8)(X Y E:Int):Prop:=ju A B X Y E/\it X Y E=l
def TV{A B X Y E}(h:eC A B X Y E):ar Y E=1:=by
 have hX:Nat.Coprime X.natAbs E.natAbs:=by
  have:=h.2.2.1;unfold ar at this;have h1:Int.gcd X E=1:=o_;exact h1
 have hY:=by
  have d1:Int.gcd Y E∣E.natAbs:=Xm _ _;have d2:((Int.gcd Y E:Nat):Int)∣X*X*X:=by
   have hc:=h.2.2.2.2;have⟨k,hk⟩:=Vt Y E;have⟨m,hm⟩:=Vf Y E;refine⟨k*Y - A*X*m*E*E*E - B*m*E*E*E*E*E,?_⟩;unfold cvV at hc;generalize ((Int.gcd Y E:Nat):Int)=g at *;grind
  have d3:Int.gcd Y E∣X.natAbs*X.natAbs*X.natAbs:=by
   rw[<-U8,<-U8];exact Xe.1 d2
  have c1:=Nat.Coprime.coprime_dvd_left d1 (X7.1 hX);have c3:=WF (WF c1 c1) c1;exact Nat.Coprime.eq_one_of_dvd c3 d3
 unfold ar;omega
def yi{a b c}(h:ar a b=1)(k:ar a c=1):ar a (b*c)=1:=by
 unfold ar at *;have h1:Nat.Coprime a.natAbs b.natAbs:=by
  have:Int.gcd a b=1:=by omega
  exact this
 have h2:Nat.Coprime a.natAbs c.natAbs:=by
  have:Int.gcd a c=1:=by omega
  exact this
 have h3:Nat.gcd a.natAbs (b.natAbs*c.natAbs)=1:=WF h1 h2;unfold Int.gcd;rw[U8,h3];rfl
def pi{A B X Y E}(h:eC A B X Y E):bJ X (E*E)=true/\bJ Y (E*E*E)=true:=by
 have hg:=TV h;have⟨hX,hE,gx,hY,_⟩:=h;have e2:=aJ 20 20 (x:=E) (y:=E) o_ o_;have e3:=aJ 400 20 (x:=E*E) (y:=E) o_ o_;have p2:=UG (show 0<E by omega) (show 0<E by omega);have p3:=UG p2 (show 0<E by omega);unfold bJ;rw[yi gx gx,yi (yi hg hg) hg,gc o_ o_,gc o_ o_,gc o_ o_,gc o_ o_];exact⟨rfl,rfl⟩
def yc(X Y E):Lib.cut (gw X Y E) [44]=(cW X (E*E),cW Y (E*E*E),true):=by
 unfold gw;exact Ef _ (AJ _ _)
def Qy(X Y E):cU 44 (gw X Y E)=[cW X (E*E),cW Y (E*E*E)]:=by
 unfold gw;rw[xt _ _ _ (AJ _ _),tK _ _ (AJ _ _)]
def xD{X Y E}(hE:E≠0):Lib.trimSuffix (Lib.trimPrefix (it X Y E) [40]) [41]=gw X Y E:=by
 unfold it;rw[Uj hE];have h1:Lib.hasPrefix (40::(gw X Y E++[41])) [40]=true:=rfl;unfold Lib.trimPrefix;rw[Um h1];show Lib.trimSuffix (gw X Y E++[41]) [41]=_;have h2:Lib.hasSuffix (gw X Y E++[41]) [41]=true:=Wa.2 ⟨gw X Y E,rfl⟩;unfold Lib.trimSuffix;rw[Um h2,UE,XQ,List.take_left' rfl]
def DK{A B X Y E}(h:eC A B X Y E):5<=(it X Y E).length/\(it X Y E).length<=60:=by
 have⟨f1,f2⟩:=pi h;have l1:=yo f1;have l2:=yo f2;have p1:=Vi.2 (Ew X (E*E));have p2:=Vi.2 (Ew Y (E*E*E));have hE:=h.2.1;unfold it gw;rw[Uj o_];simp;omega
def gg.uniq{A B}{l}{X Y E F G g}(h:gg A B l X Y E)(k:gg A B l F G g):X=F/\Y=G/\E=g:=by
 have⟨h,e⟩:=h;have⟨k,f⟩:=k;have hO:∀{X Y E:Int},E≠0->it X Y E≠[79]:=fun {X Y E} hE hh=>by
  unfold it at hh;rw[Uj hE] at hh;have:=(VO hh).1;exact absurd this d_
 rcases h with ⟨rfl,rfl,rfl⟩|h<;>rcases k with ⟨rfl,rfl,rfl⟩|k
 .exact⟨rfl,rfl,rfl⟩
 .have h0:it 0 0 0=[79]:=rfl;rw[<-e,h0] at f;exact absurd f (hO (by have:=k.2.1;omega))
 .have h0:it 0 0 0=[79]:=rfl;rw[<-f,h0] at e;exact absurd e (hO (by have:=h.2.1;omega))
 .have hE:=h.2.1;have kE:=k.2.1;have t1:=xD (X:=X) (Y:=Y) (E:=E) o_;rw[e,<-f,(xD (X:=F) (Y:=G) (E:=g) o_)] at t1;have c1:=yc X Y E;rw[<-t1,yc] at c1;have⟨f1,f2⟩:=pi h;have⟨g1,g2⟩:=pi k;have u1:=fE.uniq (l:=cW X (E*E)) ⟨f1,rfl⟩ ⟨g1,congrArg Prod.fst c1⟩;refine⟨u1.1,(fE.uniq (l:=cW Y (E*E*E)) ⟨f2,rfl⟩ ⟨g2,congrArg (·.2.1) c1⟩).1,?_⟩;have h3:(E - g)*(E+g)=0:=by have:=u1.2;grind
  rcases VH.1 h3 with h|h<;>omega
def zT(h:P:=by simp [results,Tryz.results166,go_sem]):=h
def yX(h:P:=by simp [results,Tryz.results167,go_sem]):=h
def Lb(h:P:=by
 have hv:=h_ (hD.out i aG m hm.out o_ o_);have e1:IntKind.u8.wrap ((s[i].toNat:Int) - 48)=(s[i].toNat:Int) - 48:=IntWalk.u8_in _ o_;have e2:(((m*10+(s[i].toNat - 48):Nat)):Int)=10*(m:Int)+((s[i].toNat:Int) - 48):=o_;have bv:=h_ e2;clear e2;go_wp2;go_roundw
 case rel=>exact⟨i+1,m*10+(s[i].toNat - 48),by omega,by go_num,by rw[bv.out],hv,trivial⟩
 case measure=>exact aO):=h
def Fo(h:P:=by
 go_enter Tryz.func166,Tryz.ntmps166;go_wp2_with ((go_at_call 104;refine ay (cw _ _ _ _) ?_))
 refine Uh (v:=.int .i64 (-1)) zT rfl ?_;exact⟨by rw[hr.out],rfl⟩):=h
def Je(h:P:=by
 go_enter Tryz.func167,Tryz.ntmps167;go_wp2_with ((go_at_call 104;refine ay (cw _ _ _ _) ?_))
 refine Uh (v:=.int .i64 (-1)) yX rfl ?_;exact⟨by rw[hr.out],rfl⟩):=h
def I4(h:P:=by
 show _=_;unfold bF;rw[Um];refine .inr (.inr ⟨?_,by omega⟩);rw[hh];have h9:(s[0].toNat:Int)=48:=by simpa using hz.1
 exact congrArg some (Wn.1 (by show s[0].toNat=48;omega))):=h
def Hu(h:P:=by
 rw[hr.out];cases hd:Lib.decFrom 0 s.data.toList with
 |none=>rfl
 |some m=>
  obtain⟨d,bo⟩:=Lib.digit_of_decFrom _ 0 m hd k s[k] (Ax hk);obtain⟨g1,g2,_⟩:=Lib.digitVal_eq bo;omega):=h
def Jn(h:P:=by
 show _=_;unfold bF;refine (Uj ?_).trans ?_
 rotate_left
 .cases Lib.decFrom 0 s.data.toList<;>rfl
 rw[hl,hh];rintro (h|h|⟨h,h2⟩)
 .omega
 .omega
 .injection h with h;exact hz ⟨by rw[h];rfl,h2⟩):=h
def FQ(h:P:=by
 go_wp2;refine Uh (v:=.int .i64 (-1)) zT rfl ?_;exact⟨by rw[hv.out],rfl⟩):=h
def IY(h:P:=by
 go_wp2;refine Uh (v:=.int .i64 (-1)) yX rfl ?_;exact⟨by rw[hv.out],rfl⟩):=h
def Hm(h:P:=by
 cases hq:((s[0].toNat:Int)==48)
 .exact .inl rfl
 .exact .inr ⟨rfl,λh=>hz ⟨hq,by omega⟩⟩):=h
def G7(h:P:=by
 show _=_;unfold bF;rw[Um];rw[hl];unfold av at h1;simp at h1;omega):=h
def t_{s:aj}(h:0<s.size):s.data.toList.head?=some s[0]:=by
 have hl:s.data.toList.length=s.size:=UC;rw[List.head?_eq_getElem?,Us o_];rfl
def Ax{s:aj}{k}(h:k<s.size):s.data.toList[k]?=some s[k]:=by
 have hl:s.data.toList.length=s.size:=UC;rw[Us o_];rfl
def Ce(s:aj)(hs:s.size<=100000000)(w):
 Rw 166 #[s] w (bF 6 s.data.toList):=by
 have hl:s.data.toList.length=s.size:=UC;cases h1:av s.size 1 6
 .have hr:Hid (bF 6 s.data.toList=-1):=by
   exact G7
  exact Fo
 .have hb:=bH h1;have h0:0<s.size:=o_;have hh:=t_ h0;by_cases hz:((s[0].toNat:Int)==48)=true/\1<s.size
  .have hr:Hid (bF 6 s.data.toList=-1):=by
    exact I4
   obtain⟨ax,a8⟩:=hz;have b9:(1:Int)<(s.size:Int):=o_;exact Fo
  .have hr:Hid (bF 6 s.data.toList=match Lib.decFrom 0 s.data.toList with|some m=>(m:Int)|none=>-1):=by
    exact Jn
   have hD:Hid (∀k (hk:k<s.size) (m:Nat),Lib.decFrom 0 (s.data.toList.take k)=some m->48<=(s[k].toNat:Int)->(s[k].toNat:Int)<=57->Lib.decFrom 0 (s.data.toList.take (k+1))=some (m*10+(s[k].toNat - 48))):=λk hk m hm h8 h9=>
    Lib.decFrom_take _ k 0 m s[k] (s[k].toNat - 48) hm (Ax hk) (by unfold Lib.digitVal;rw[Um o_])
   have hN:Hid (∀k (hk:k<s.size),((s[k].toNat:Int)<48\/57<(s[k].toNat:Int))->bF 6 s.data.toList=-1):=λk hk h9=>by
    exact Hu
   have hE:Hid (∀m:Nat,Lib.decFrom 0 (s.data.toList.take s.size)=some m->bF 6 s.data.toList=m):=λm hm=>by
    rw[UP o_] at hm;rw[hr.out,hm]
   have g:Hid (∀k (_:k<=s.size) (m:Nat),Lib.decFrom 0 (s.data.toList.take k)=some m->m<1000000):=λk hk m hm=>by
    have:=Lib.decFrom_lt _ 0 m hm;have h2:10 ^ (s.data.toList.take k).length<=10 ^ 6:=Vw o_ nV;omega
   have hg:((s[0].toNat:Int)==48)=false\/(((s[0].toNat:Int)==48)=true/\¬(1:Int)<(s.size:Int)):=by
    exact Hm
   generalize bF 6 s.data.toList=V at *;rcases hg with hg|⟨hg,cm⟩
   all_goals
    go_enter Tryz.func166,Tryz.ntmps166;go_wp2_with ((go_at_call 104;refine ay (cw _ _ _ _) ?_))
    go_loopw [3,4] (λnv iv wr=>∃(i m:Nat),i<=s.size/\iv=.int .i64 i/\nv=.int .i64 m/\Hid (Lib.decFrom 0 (s.data.toList.take i)=some m)/\w=wr) (λ_ iv _=>s.size - (intOf iv).toNat)
    case atStart=>exact⟨0,0,by omega,rfl,rfl,rfl,rfl⟩
    case round=>
     obtain⟨i,m,hi,rfl,rfl,hm,rfl⟩:=hrel;have F:=g.out i hi m hm.out;by_cases aG:i<s.size
     .by_cases hA:(s[i].toNat:Int)<48
      .have hv:=h_ (hN.out i aG (.inl hA));exact FQ
      .by_cases hB:(57:Int)<(s[i].toNat:Int)
       .have hv:=h_ (hN.out i aG (.inr hB));exact FQ
       .exact Lb
     .obtain rfl:i=s.size:=by omega
      have hv:=h_ (hE.out m hm.out);go_wp2;exact Uh (v:=.int .i64 m) zT rfl ⟨by rw[hv.out],rfl⟩
def tG(s:aj)(hs:s.size<=100000000)(w):
 Rw 167 #[s] w (bF 10 s.data.toList):=by
 have hl:s.data.toList.length=s.size:=UC;cases h1:av s.size 1 10
 .have hr:Hid (bF 10 s.data.toList=-1):=by
   exact G7
  exact Je
 .have hb:=bH h1;have h0:0<s.size:=o_;have hh:=t_ h0;by_cases hz:((s[0].toNat:Int)==48)=true/\1<s.size
  .have hr:Hid (bF 10 s.data.toList=-1):=by
    exact I4
   obtain⟨ax,a8⟩:=hz;have b9:(1:Int)<(s.size:Int):=o_;exact Je
  .have hr:Hid (bF 10 s.data.toList=match Lib.decFrom 0 s.data.toList with|some m=>(m:Int)|none=>-1):=by
    exact Jn
   have hD:Hid (∀k (hk:k<s.size) (m:Nat),Lib.decFrom 0 (s.data.toList.take k)=some m->48<=(s[k].toNat:Int)->(s[k].toNat:Int)<=57->Lib.decFrom 0 (s.data.toList.take (k+1))=some (m*10+(s[k].toNat - 48))):=λk hk m hm h8 h9=>
    Lib.decFrom_take _ k 0 m s[k] (s[k].toNat - 48) hm (Ax hk) (by unfold Lib.digitVal;rw[Um o_])
   have hN:Hid (∀k (hk:k<s.size),((s[k].toNat:Int)<48\/57<(s[k].toNat:Int))->bF 10 s.data.toList=-1):=λk hk h9=>by
    exact Hu
   have hE:Hid (∀m:Nat,Lib.decFrom 0 (s.data.toList.take s.size)=some m->bF 10 s.data.toList=m):=λm hm=>by
    rw[UP o_] at hm;rw[hr.out,hm]
   have g:Hid (∀k (_:k<=s.size) (m:Nat),Lib.decFrom 0 (s.data.toList.take k)=some m->m<10000000000):=λk hk m hm=>by
    have:=Lib.decFrom_lt _ 0 m hm;have h2:10 ^ (s.data.toList.take k).length<=10 ^ 10:=Vw o_ nV;omega
   have hg:((s[0].toNat:Int)==48)=false\/(((s[0].toNat:Int)==48)=true/\¬(1:Int)<(s.size:Int)):=by
    exact Hm
   generalize bF 10 s.data.toList=V at *;rcases hg with hg|⟨hg,cm⟩
   all_goals
    go_enter Tryz.func167,Tryz.ntmps167;go_wp2_with ((go_at_call 104;refine ay (cw _ _ _ _) ?_))
    go_loopw [3,4] (λnv iv wr=>∃(i m:Nat),i<=s.size/\iv=.int .i64 i/\nv=.int .i64 m/\Hid (Lib.decFrom 0 (s.data.toList.take i)=some m)/\w=wr) (λ_ iv _=>s.size - (intOf iv).toNat)
    case atStart=>exact⟨0,0,by omega,rfl,rfl,rfl,rfl⟩
    case round=>
     obtain⟨i,m,hi,rfl,rfl,hm,rfl⟩:=hrel;have F:=g.out i hi m hm.out;by_cases aG:i<s.size
     .by_cases hA:(s[i].toNat:Int)<48
      .have hv:=h_ (hN.out i aG (.inl hA));exact IY
      .by_cases hB:(57:Int)<(s[i].toNat:Int)
       .have hv:=h_ (hN.out i aG (.inr hB));exact IY
       .exact Lb
     .obtain rfl:i=s.size:=by omega
      have hv:=h_ (hE.out m hm.out);go_wp2;exact Uh (v:=.int .i64 m) yX rfl ⟨by rw[hv.out],rfl⟩
end Go.Proofs.YtaamhakdhaolmaaGreatDoor
