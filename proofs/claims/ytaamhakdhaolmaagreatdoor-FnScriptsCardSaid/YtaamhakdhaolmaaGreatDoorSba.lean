/- Part 26. -/
import Derived.Test.YtaamhakdhaolmaaGreatDoorSag
import Derived.Test.YtaamhakdhaolmaaGreatDoorSas
import Derived.Test.YtaamhakdhaolmaaGreatDoorSaz
namespace Go.Proofs.YtaamhakdhaolmaaGreatDoor
open Go.RowKit Go.Proofs.Tryz
set_option maxHeartbeats 8000000
set_option maxRecDepth 100000
variable {P:Prop}
set_option linter.all false
def zT(h:P:=by
 rcases DO h with h|h
 .exact .inl h
 .exact .inr o_):=h
def fL(l:List UInt8)(n:Int):Prop:=(-99999<=n/\n<=99999)/\Lib.itoa n=l
def fL.uniq{l}{m n}(h:fL l m)(k:fL l n):m=n:=uk (h.2.trans k.2.symm)
def bL(k:Nat)(l:List UInt8):Int:=if l.length=0\/k<l.length\/(l.head?=some 48/\1<l.length) then -1 else match Lib.decFrom 0 l with|some m=>m|none=>-1
def qC{k u}(h:(Lib.decDigits u).length<=k):bL k (Lib.decDigits u)=u:=by
 have h1:=Wm.2 (og u);unfold bL;rw[Vm,tw];rintro (h2|h2|⟨h2,h3⟩)
 .omega
 .omega
 .have:=Ra u h2;subst this;rw[mw o_] at h3;simp at h3
def BX{k}{l}(h:0<=bL k l):∃u:Nat,bL k l=u/\Lib.decDigits u=l:=by
 unfold bL at *;split at h
 .omega
 .rename_i hc;rw[Vm hc];simp only[not_or,not_and,Nat.not_lt] at hc;cases hd:Lib.decFrom 0 l with
  |none=>rw[hd] at h;simp at h
  |some m=>exact⟨m,rfl,Rn _ l m rfl (λe=>hc.1 (by rw[e];rfl)) (λe=>by have:=hc.2.2 e;omega) hd⟩
def oU(k)(l):-1<=bL k l:=by
 unfold bL;split
 .omega
 .cases Lib.decFrom 0 l with
  |none=>simp
  |some m=>simp only;omega
def St{l}(h:bL 6 l<=0\/100000<=bL 6 l)(n)(hn:n<0):¬fL (45::l) n:=by
 rintro⟨h1,h2⟩;obtain⟨u,rfl⟩:∃u:Nat,n=-(u:Int):=⟨n.natAbs,o_⟩
 rw[jU o_] at h2;have:=qC (k:=6) (u:=u) (Vl (ms 4 u o_) o_);rw[((WX h2).2)] at this;omega
def RT{l}{n}(h:fL (45::l) n):n<0:=by
 rcases mu n with ⟨u,rfl⟩|⟨u,hu,rfl⟩
 .have h2:=h.2;rw[iL] at h2;have:=pt u 45 (by rw[h2];simp);exact vj
 .omega
def PT{l}(h:0<bL 6 l/\bL 6 l<=99999):fL (45::l) (-(bL 6 l)):=by
 have⟨u,h1,h2⟩:=BX (show 0<=bL 6 l by omega);rw[h1] at h ⊢;exact⟨o_,by rw[jU o_,h2]⟩
def QM{l}(h:0<=bL 6 l/\bL 6 l<=99999):fL l (bL 6 l):=by
 have⟨u,h1,h2⟩:=BX h.1;rw[h1] at h ⊢;exact⟨o_,by rw[iL,h2]⟩
def Uh{l}(h0:l.head?≠some 45\/l.length<=1)(h:¬(0<=bL 6 l/\bL 6 l<=99999))(n):¬fL l n:=by
 rintro⟨h1,h2⟩;rcases mu n with ⟨u,rfl⟩|⟨u,hu,rfl⟩
 .rw[iL] at h2;have:=qC (k:=6) (u:=u) (Vl (ms 4 u o_) o_);rw[h2] at this;omega
 .rw[jU hu] at h2;rcases h0 with h0|h0
  .exact h0 (by rw[<-h2];rfl)
  .have:=Wm.2 (og u);rw[<-h2] at h0;simp at h0;exact og u h0
def dr(a b:Int):List UInt8:=if b=1 then Lib.itoa a else Lib.itoa a++47::Lib.itoa b
def fO(l:List UInt8)(a b:Int):Prop:=bQ a b=true/\dr a b=l
def sM(a):(47:UInt8)∉Lib.itoa a:=Tq d_ (.inl d_)
def qY{a}:Lib.cut (dr a 1) [47]=(Lib.itoa a,[],false):=by
 unfold dr;rw[Vo rfl,Ru (sM a)]
def rr{a b}(hb:b≠1):Lib.cut (dr a b) [47]=(Lib.itoa a,Lib.itoa b,true):=by
 unfold dr;rw[Vm hb,EY _ (sM a)]
def Py{a}:cn 47 (dr a 1)=[Lib.itoa a]:=by
 unfold dr;rw[Vo rfl,ui _ _ (sM a)]
def Rr{a b}(hb:b≠1):cn 47 (dr a b)=[Lib.itoa a,Lib.itoa b]:=by
 unfold dr;rw[Vm hb,tT _ _ _ (sM a),ui _ _ (sM b)]
def fO.uniq{l}{a b c d}(h:fO l a b)(k:fO l c d):a=c/\b=d:=by
 have⟨_,h⟩:=h;have⟨_,k⟩:=k;subst h;by_cases hb:b=1<;>by_cases hd:d=1
 .subst hb hd;have h1:=qY (a:=a);rw[<-k,qY] at h1;exact⟨uk (congrArg Prod.fst h1).symm,rfl⟩
 .subst hb;have h1:=qY (a:=a);rw[<-k,rr hd] at h1;have:=congrArg (·.2.2) h1;simp at this
 .subst hd;have h1:=rr (a:=a) hb;rw[<-k,qY] at h1;have:=congrArg (·.2.2) h1;simp at this
 .have h1:=rr (a:=a) hb;rw[<-k,rr hd] at h1;exact⟨uk (congrArg Prod.fst h1).symm,uk (congrArg (·.2.1) h1).symm⟩
def po{a b}(h:bQ a b=true):(1<=b/\b<=1000000000)/\(-1000000000<=a/\a<=1000000000):=by
 exact Gg
def rp{a}(h:sV a):(Lib.itoa a).length<=11/\Lib.atoiAll (Lib.itoa a)=.ok a:=⟨DA 9 o_,PE o_⟩
def yQ{a b}(h:bQ a b=true):(dr a b).length<=22:=by
 have⟨h1,h2⟩:=po h;have l1:=(rp h2).1;have l2:(Lib.itoa b).length<=10:=by
  obtain⟨u,rfl⟩:∃u:Nat,b=u:=⟨b.toNat,o_⟩
  rw[iL];exact ms 9 u o_
 unfold dr;split
 .omega
 .rw[VI,VA];omega
def oH(l:List UInt8):Int:=if l.head?=some 45 then -(bL 10 l.tail) else bL 10 l
def Rh{a}(h:sV a):oH (Lib.itoa a)=a:=by
 unfold oH;rcases mu a with ⟨u,rfl⟩|⟨u,hu,rfl⟩
 .rw[iL,Vm,qC (ms 9 u o_)];intro e;have:=pt u 45 (List.mem_of_mem_head? (by rw[e];rfl));exact vj
 .rw[jU hu,Vo r_,List.tail_cons,qC (ms 9 u o_)]
def NS{b}(h:1<=b/\b<=1000000000):bL 10 (Lib.itoa b)=b:=by
 obtain⟨u,rfl⟩:∃u:Nat,b=u:=⟨b.toNat,o_⟩
 rw[iL,qC (ms 9 u o_)]
def Uj{a b}{x:UInt8}(h:x∈dr a b):x=45\/(47<=x.toNat/\x.toNat<=57):=by
 unfold dr at h;split at h
 .exact zT
 .rcases Wy.1 h with h|h
  .exact zT
  .rcases VL.1 h with h|h
   .subst h;exact .inr d_
   .exact zT
def Bf(a b):(44:UInt8)∉dr a b:=λh=>by
 rcases Uj h with h|h
 .exact absurd h d_
 .have e2:(44:UInt8).toNat=44:=rfl;omega
def Fi(a b):dr a b≠[]:=by
 unfold dr;split
 .exact EW a
 .have:=EW a;intro h;exact this (List.append_eq_nil_iff.1 h).1
def gJ(X Y E:Int):List UInt8:=dr X (E*E)++44::dr Y (E*E*E)
def iJ(X Y E:Int):List UInt8:=if E=0 then [79] else 40::(gJ X Y E++[41])
def gy(A B:Int)(l:List UInt8)(X Y E:Int):Prop:=jI A B X Y E/\iJ X Y E=l
def U0{A B X Y E}(h:eN A B X Y E):au Y E=1:=by
 have hX:Nat.Coprime X.natAbs E.natAbs:=by
  have:=h.2.2.1;unfold au at this;have h1:Int.gcd X E=1:=o_;exact h1
 have hY:=by
  have d1:Int.gcd Y E∣E.natAbs:=Yn _ _;have d2:((Int.gcd Y E:Nat):Int)∣X*X*X:=by
   have hc:=h.2.2.2.2;have⟨k,hk⟩:=WA Y E;have⟨m,hm⟩:=Wi Y E;refine⟨k*Y - A*X*m*E*E*E - B*m*E*E*E*E*E,?_⟩;unfold cvV at hc;generalize ((Int.gcd Y E:Nat):Int)=g at *;grind
  have d3:Int.gcd Y E∣X.natAbs*X.natAbs*X.natAbs:=by
   rw[<-V_,<-V_];exact Yf.1 d2
  have c1:=Nat.Coprime.coprime_dvd_left d1 (Y_.1 hX);have c3:=XR (XR c1 c1) c1;exact Nat.Coprime.eq_one_of_dvd c3 d3
 unfold au;omega
def yK{a b c}(h:au a b=1)(k:au a c=1):au a (b*c)=1:=by
 unfold au at *;have h1:Nat.Coprime a.natAbs b.natAbs:=by
  have:Int.gcd a b=1:=o_
  exact this
 have h2:Nat.Coprime a.natAbs c.natAbs:=by
  have:Int.gcd a c=1:=o_
  exact this
 have h3:Nat.gcd a.natAbs (b.natAbs*c.natAbs)=1:=XR h1 h2;unfold Int.gcd;rw[V_,h3];rfl
def px{A B X Y E}(h:eN A B X Y E):bQ X (E*E)=true/\bQ Y (E*E*E)=true:=by
 have hg:=U0 h;have⟨hX,hE,gx,hY,_⟩:=h;have e2:=aN 20 20 (x:=E) (y:=E) o_ o_;have e3:=aN 400 20 (x:=E*E) (y:=E) o_ o_;have p2:=VK (show 0<E by omega) (show 0<E by omega);have p3:=VK p2 (show 0<E by omega);unfold bQ;rw[yK gx gx,yK (yK hg hg) hg,gv o_ o_,gv o_ o_,gv o_ o_,gv o_ o_];exact⟨rfl,rfl⟩
def yE(X Y E):Lib.cut (gJ X Y E) [44]=(dr X (E*E),dr Y (E*E*E),true):=by
 unfold gJ;exact EY _ (Bf _ _)
def Rk(X Y E):cn 44 (gJ X Y E)=[dr X (E*E),dr Y (E*E*E)]:=by
 unfold gJ;rw[tT _ _ _ (Bf _ _),ui _ _ (Bf _ _)]
def yc{X Y E}(hE:E≠0):Lib.trimSuffix (Lib.trimPrefix (iJ X Y E) [40]) [41]=gJ X Y E:=by
 unfold iJ;rw[Vm hE];have h1:Lib.hasPrefix (40::(gJ X Y E++[41])) [40]=true:=rfl;unfold Lib.trimPrefix;rw[Vo h1];show Lib.trimSuffix (gJ X Y E++[41]) [41]=_;have h2:Lib.hasSuffix (gJ X Y E++[41]) [41]=true:=WN.2 ⟨gJ X Y E,rfl⟩;unfold Lib.trimSuffix;rw[Vo h2,VI,YS,List.take_left' rfl]
def Ep{A B X Y E}(h:eN A B X Y E):5<=(iJ X Y E).length/\(iJ X Y E).length<=60:=by
 have⟨f1,f2⟩:=px h;have l1:=yQ f1;have l2:=yQ f2;have p1:=Wm.2 (Fi X (E*E));have p2:=Wm.2 (Fi Y (E*E*E));have hE:=h.2.1;unfold iJ gJ;rw[Vm o_];simp;omega
def gy.uniq{A B}{l}{X Y E F G g}(h:gy A B l X Y E)(k:gy A B l F G g):X=F/\Y=G/\E=g:=by
 have⟨h,e⟩:=h;have⟨k,f⟩:=k;have hO:∀{X Y E:Int},E≠0->iJ X Y E≠[79]:=fun {X Y E} hE hh=>by
  unfold iJ at hh;rw[Vm hE] at hh;have:=(WX hh).1;exact absurd this d_
 rcases h with ⟨rfl,rfl,rfl⟩|h<;>rcases k with ⟨rfl,rfl,rfl⟩|k
 .exact⟨rfl,rfl,rfl⟩
 .have h0:iJ 0 0 0=[79]:=rfl;rw[<-e,h0] at f;exact absurd f (hO (by have:=k.2.1;omega))
 .have h0:iJ 0 0 0=[79]:=rfl;rw[<-f,h0] at e;exact absurd e (hO (by have:=h.2.1;omega))
 .have hE:=h.2.1;have kE:=k.2.1;have t1:=yc (X:=X) (Y:=Y) (E:=E) o_;rw[e,<-f,(yc (X:=F) (Y:=G) (E:=g) o_)] at t1;have c1:=yE X Y E;rw[<-t1,yE] at c1;have⟨f1,f2⟩:=px h;have⟨g1,g2⟩:=px k;have u1:=fO.uniq (l:=dr X (E*E)) ⟨f1,rfl⟩ ⟨g1,congrArg Prod.fst c1⟩;refine⟨u1.1,(fO.uniq (l:=dr Y (E*E*E)) ⟨f2,rfl⟩ ⟨g2,congrArg (·.2.1) c1⟩).1,?_⟩;have h3:(E - g)*(E+g)=0:=by have:=u1.2;grind
  rcases WQ.1 h3 with h|h<;>omega
def Ay(h:P:=by simp [results,results166,go_sem]):=h
def zJ(h:P:=by simp [results,results167,go_sem]):=h
def L3(h:P:=by
 have hv:=h_ (hD.out i aG m hm.out o_ o_);have e1:IntKind.u8.wrap ((s[i].toNat:Int) - 48)=(s[i].toNat:Int) - 48:=IntWalk.u8_in _ o_;have e2:(((m*10+(s[i].toNat - 48):Nat)):Int)=10*(m:Int)+((s[i].toNat:Int) - 48):=o_;have a8:=h_ e2;clear e2;go_wp2;go_roundw
 case rel=>exact⟨i+1,m*10+(s[i].toNat - 48),o_,by go_num,by rw[a8.out],hv,trivial⟩
 case measure=>exact aJ):=h
def F6(h:P:=by
 go_enter func166,ntmps166;go_wp2_with ((go_at_call 104;refine aA (cK _ _ _ _) ?_))
 refine Vk (v:=.int .i64 (-1)) Ay rfl ?_;exact⟨by rw[hr.out],rfl⟩):=h
def JU(h:P:=by
 go_enter func167,ntmps167;go_wp2_with ((go_at_call 104;refine aA (cK _ _ _ _) ?_))
 refine Vk (v:=.int .i64 (-1)) zJ rfl ?_;exact⟨by rw[hr.out],rfl⟩):=h
def JI(h:P:=by
 show _=_;unfold bL;rw[Vo];refine .inr (.inr ⟨?_,o_⟩);rw[hh];have h9:(s[0].toNat:Int)=48:=by simpa using hz.1
 exact congrArg some (Xs.1 (by show s[0].toNat=48;omega))):=h
def IG(h:P:=by
 rw[hr.out];cases hd:Lib.decFrom 0 s.data.toList with
 |none=>rfl
 |some m=>
  obtain⟨d,bp⟩:=Lib.digit_of_decFrom _ 0 m hd k s[k] (A1 hk);obtain⟨g1,g2,_⟩:=Lib.digitVal_eq bp;omega):=h
def J7(h:P:=by
 show _=_;unfold bL;refine (Vm ?_).trans ?_
 rotate_left
 .cases Lib.decFrom 0 s.data.toList<;>rfl
 rw[hl,hh];rintro (h|h|⟨h,h2⟩)
 .omega
 .omega
 .injection h with h;exact hz ⟨by rw[h];rfl,h2⟩):=h
def Gx(h:P:=by
 go_wp2;refine Vk (v:=.int .i64 (-1)) Ay rfl ?_;exact⟨by rw[hv.out],rfl⟩):=h
def JC(h:P:=by
 go_wp2;refine Vk (v:=.int .i64 (-1)) zJ rfl ?_;exact⟨by rw[hv.out],rfl⟩):=h
def IA(h:P:=by
 cases hq:((s[0].toNat:Int)==48)
 .exact .inl rfl
 .exact .inr ⟨rfl,λh=>hz ⟨hq,o_⟩⟩):=h
def Im(h:P:=by
 show _=_;unfold bL;rw[Vo];rw[hl];unfold aw at h1;simp at h1;omega):=h
def ux{s:ak}(h:0<s.size):s.data.toList.head?=some s[0]:=by
 have hl:s.data.toList.length=s.size:=Vy;rw[List.head?_eq_getElem?,Vv o_];rfl
def A1{s:ak}{k}(h:k<s.size):s.data.toList[k]?=some s[k]:=by
 have hl:s.data.toList.length=s.size:=Vy;rw[Vv o_];rfl
def CL(s:ak)(hs:s.size<=100000000)(w):
 Rw 166 #[s] w (bL 6 s.data.toList):=by
 have hl:s.data.toList.length=s.size:=Vy;cases h1:aw s.size 1 6
 .have hr:Hid (bL 6 s.data.toList=-1):=by
   exact Im
  exact F6
 .have hb:=bO h1;have h0:0<s.size:=o_;have hh:=ux h0;by_cases hz:((s[0].toNat:Int)==48)=true/\1<s.size
  .have hr:Hid (bL 6 s.data.toList=-1):=by
    exact JI
   obtain⟨ac,ba⟩:=hz;have cc:(1:Int)<(s.size:Int):=o_;exact F6
  .have hr:Hid (bL 6 s.data.toList=match Lib.decFrom 0 s.data.toList with|some m=>(m:Int)|none=>-1):=by
    exact J7
   have hD:Hid (∀k (hk:k<s.size) (m:Nat),Lib.decFrom 0 (s.data.toList.take k)=some m->48<=(s[k].toNat:Int)->(s[k].toNat:Int)<=57->Lib.decFrom 0 (s.data.toList.take (k+1))=some (m*10+(s[k].toNat - 48))):=λk hk m hm h8 h9=>
    Lib.decFrom_take _ k 0 m s[k] (s[k].toNat - 48) hm (A1 hk) (by unfold Lib.digitVal;rw[Vo o_])
   have hN:Hid (∀k (hk:k<s.size),((s[k].toNat:Int)<48\/57<(s[k].toNat:Int))->bL 6 s.data.toList=-1):=λk hk h9=>by
    exact IG
   have hE:Hid (∀m:Nat,Lib.decFrom 0 (s.data.toList.take s.size)=some m->bL 6 s.data.toList=m):=λm hm=>by
    rw[VO o_] at hm;rw[hr.out,hm]
   have g:Hid (∀k (_:k<=s.size) (m:Nat),Lib.decFrom 0 (s.data.toList.take k)=some m->m<1000000):=λk hk m hm=>by
    have:=Lib.decFrom_lt _ 0 m hm;have h2:10 ^ (s.data.toList.take k).length<=10 ^ 6:=WD o_ ot;omega
   have hg:((s[0].toNat:Int)==48)=false\/(((s[0].toNat:Int)==48)=true/\¬(1:Int)<(s.size:Int)):=by
    exact IA
   generalize bL 6 s.data.toList=V at *;rcases hg with hg|⟨hg,cm⟩
   all_goals
    go_enter func166,ntmps166;go_wp2_with ((go_at_call 104;refine aA (cK _ _ _ _) ?_))
    go_loopw [3,4] (λnv iv wr=>∃(i m:Nat),i<=s.size/\iv=.int .i64 i/\nv=.int .i64 m/\Hid (Lib.decFrom 0 (s.data.toList.take i)=some m)/\w=wr) (λ_ iv _=>s.size - (intOf iv).toNat)
    case atStart=>exact⟨0,0,o_,rfl,rfl,rfl,rfl⟩
    case round=>
     obtain⟨i,m,hi,rfl,rfl,hm,rfl⟩:=hrel;have F:=g.out i hi m hm.out;by_cases aG:i<s.size
     .by_cases hA:(s[i].toNat:Int)<48
      .have hv:=h_ (hN.out i aG (.inl hA));exact Gx
      .by_cases hB:(57:Int)<(s[i].toNat:Int)
       .have hv:=h_ (hN.out i aG (.inr hB));exact Gx
       .exact L3
     .obtain rfl:i=s.size:=o_
      have hv:=h_ (hE.out m hm.out);go_wp2;exact Vk (v:=.int .i64 m) Ay rfl ⟨by rw[hv.out],rfl⟩
def ue(s:ak)(hs:s.size<=100000000)(w):
 Rw 167 #[s] w (bL 10 s.data.toList):=by
 have hl:s.data.toList.length=s.size:=Vy;cases h1:aw s.size 1 10
 .have hr:Hid (bL 10 s.data.toList=-1):=by
   exact Im
  exact JU
 .have hb:=bO h1;have h0:0<s.size:=o_;have hh:=ux h0;by_cases hz:((s[0].toNat:Int)==48)=true/\1<s.size
  .have hr:Hid (bL 10 s.data.toList=-1):=by
    exact JI
   obtain⟨ac,ba⟩:=hz;have cc:(1:Int)<(s.size:Int):=o_;exact JU
  .have hr:Hid (bL 10 s.data.toList=match Lib.decFrom 0 s.data.toList with|some m=>(m:Int)|none=>-1):=by
    exact J7
   have hD:Hid (∀k (hk:k<s.size) (m:Nat),Lib.decFrom 0 (s.data.toList.take k)=some m->48<=(s[k].toNat:Int)->(s[k].toNat:Int)<=57->Lib.decFrom 0 (s.data.toList.take (k+1))=some (m*10+(s[k].toNat - 48))):=λk hk m hm h8 h9=>
    Lib.decFrom_take _ k 0 m s[k] (s[k].toNat - 48) hm (A1 hk) (by unfold Lib.digitVal;rw[Vo o_])
   have hN:Hid (∀k (hk:k<s.size),((s[k].toNat:Int)<48\/57<(s[k].toNat:Int))->bL 10 s.data.toList=-1):=λk hk h9=>by
    exact IG
   have hE:Hid (∀m:Nat,Lib.decFrom 0 (s.data.toList.take s.size)=some m->bL 10 s.data.toList=m):=λm hm=>by
    rw[VO o_] at hm;rw[hr.out,hm]
   have g:Hid (∀k (_:k<=s.size) (m:Nat),Lib.decFrom 0 (s.data.toList.take k)=some m->m<10000000000):=λk hk m hm=>by
    have:=Lib.decFrom_lt _ 0 m hm;have h2:10 ^ (s.data.toList.take k).length<=10 ^ 10:=WD o_ ot;omega
   have hg:((s[0].toNat:Int)==48)=false\/(((s[0].toNat:Int)==48)=true/\¬(1:Int)<(s.size:Int)):=by
    exact IA
   generalize bL 10 s.data.toList=V at *;rcases hg with hg|⟨hg,cm⟩
   all_goals
    go_enter func167,ntmps167;go_wp2_with ((go_at_call 104;refine aA (cK _ _ _ _) ?_))
    go_loopw [3,4] (λnv iv wr=>∃(i m:Nat),i<=s.size/\iv=.int .i64 i/\nv=.int .i64 m/\Hid (Lib.decFrom 0 (s.data.toList.take i)=some m)/\w=wr) (λ_ iv _=>s.size - (intOf iv).toNat)
    case atStart=>exact⟨0,0,o_,rfl,rfl,rfl,rfl⟩
    case round=>
     obtain⟨i,m,hi,rfl,rfl,hm,rfl⟩:=hrel;have F:=g.out i hi m hm.out;by_cases aG:i<s.size
     .by_cases hA:(s[i].toNat:Int)<48
      .have hv:=h_ (hN.out i aG (.inl hA));exact JC
      .by_cases hB:(57:Int)<(s[i].toNat:Int)
       .have hv:=h_ (hN.out i aG (.inr hB));exact JC
       .exact L3
     .obtain rfl:i=s.size:=o_
      have hv:=h_ (hE.out m hm.out);go_wp2;exact Vk (v:=.int .i64 m) zJ rfl ⟨by rw[hv.out],rfl⟩
end Go.Proofs.YtaamhakdhaolmaaGreatDoor
