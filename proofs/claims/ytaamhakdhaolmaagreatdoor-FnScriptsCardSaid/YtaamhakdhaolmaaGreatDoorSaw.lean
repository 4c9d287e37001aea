/- Part 22. -/
import Derived.Test.YtaamhakdhaolmaaGreatDoorSac
import Derived.Test.YtaamhakdhaolmaaGreatDoorSaf
namespace Go.Proofs.YtaamhakdhaolmaaGreatDoor
open Go.RowKit
set_option maxHeartbeats 8000000
set_option maxRecDepth 100000
variable {P:Prop}
set_option linter.all false
def Ea(F n)(_hn:1<=n):au (F % n) n=au n F:=by
 unfold au;rw[Int.gcd_comm n F];have h1:Int.gcd (F % n) n∣Int.gcd F n:=by
  refine YL ?_ (Wi (F % n) n);have e:=XN F n;have h:=Int.dvd_add (WA (F % n) n) (Xl (c:=F / n) (Wi (F % n) n));rwa [e] at h
 have h2:Int.gcd F n∣Int.gcd (F % n) n:=by
  refine YL ?_ (Wi F n);have e:F % n=F - n*(F / n):=by have:=XN F n;omega
  rw[e];exact Int.dvd_sub (WA F n) (Xl (c:=F / n) (Wi F n))
 rw[Nat.dvd_antisymm h1 h2]
def PM(a b):au a b=au b a:=by unfold au;rw[Int.gcd_comm]
def DL(a b):au a (-b)=au a b:=by unfold au;rw[Int.gcd_neg]
def CG(a b):au a b∣a:=WA a b
def C5(a b):au a b∣b:=Wi a b
def bm(A B x z:Int):Int:=x*x*(x*x) - x*x*(z*z)*(2*A) - x*z*(z*z)*(8*B)+z*z*(z*z)*(A*A)
def aT(A B x z:Int):Int:=z*(x*x*x+x*(z*z)*A+z*(z*z)*B)*4
def c_(A B:Int):Int:=4*(aP A B).natAbs
def ce(A B x z:Int):Int:=au (au (c_ A B) (bm A B x z)) (aT A B x z)
def zq{A B}(hA:bh A)(hB:a_ B)(hd:aP A B≠0):1<=c_ A B/\c_ A B<=28000000000:=by
 have h1:=lI hA hB;have h2:-7000000000<=aP A B/\aP A B<=7000000000:=by unfold aP;omega
 unfold c_;omega
def yW{A B}(x z)(hA:bh A)(hB:a_ B)(hd:aP A B≠0):(1<=au (c_ A B) (bm A B x z)/\au (c_ A B) (bm A B x z)<=28000000000)/\(1<=ce A B x z/\ce A B x z<=28000000000):=by
 have⟨h1,h2⟩:=zq hA hB hd;have⟨a1,a2,_⟩:=nY (c_ A B) (bm A B x z) (.inl o_);have a3:=a2 o_;have⟨b1,b2,_⟩:=nY (au (c_ A B) (bm A B x z)) (aT A B x z) (.inl o_);have b3:=b2 o_;unfold ce;omega
def ve(A B x z):ce A B x z∣bm A B x z:=Int.dvd_trans (CG _ _) (C5 _ _)
def p_(A B x z):ce A B x z∣aT A B x z:=C5 _ _
def eQ(A B x z:Int):Int:=if aT A B x z<0 then -(bm A B x z / ce A B x z) else bm A B x z / ce A B x z
def eC(A B x z:Int):Int:=if aT A B x z<0 then -(aT A B x z / ce A B x z) else aT A B x z / ce A B x z
def N6{a d:Int}(hd:1<=d)(h:d∣a):(a / d<0↔a<0):=by
 obtain⟨c,rfl⟩:=h;rw[Wk _ o_];constructor
 .intro h;exact Xy o_ h
 .intro h;rcases VJ c 0 with h1|h1
  .exact h1
  .have:=VP (show 0<=d by omega) h1;omega
def EQ{a d}(hd:1<=d)(h:d∣a):-a / d=-(a / d):=by
 obtain⟨c,rfl⟩:=h;rw[<-XV,Wk _ o_,Wk _ o_]
def iD(x z:Int):Bool:=decide ((dg x.natAbs).length<=80)&&aw (dg z.natAbs).length 1 80
def wu{k}{x}(h:(dg x.natAbs).length<=k):Sz k x:=by
 unfold Sz;have hD:=ke x.natAbs
 suffices H:∀(l:List Int),Dg l->vl l<10000 ^ l.length by
  have h1:=H _ hD.1;rw[hD.2.2] at h1;have h2:=by
   rw[show (10000:Int)=((10000:Nat):Int) from rfl,<-Int.natCast_pow] at h1;exact Int.ofNat_lt.1 h1
  exact Vp h2 (WD o_ h)
 intro l
 induction l with
 |nil=>intro _;show (0:Int)<10000 ^ 0;decide
 |cons y l g=>
  intro hd;have h1:=g hd.tail;have h2:=hd.head;rw[VA,VR];show y+10000*vl l<_;generalize (10000:Int) ^ l.length=P at *;omega
def yV{A B x z}(hA:bh A)(hB:a_ B)(hx:Sz 80 x)(hz:Sz 80 z):Sz 400 (bm A B x z)/\Sz 400 (aT A B x z):=by
 have g:=hx.mul hx;have zz:=hz.mul hz;have J:Sz 1 (2*A):=.of1 o_ o_;have I:Sz 4 (8*B):=.of4 o_ o_;have G:Sz 1 A:=.of1 o_ o_;have F:Sz 4 B:=.of4 o_ o_;have H:Sz 4 (A*A):=by
  have:=aN (x:=A) (y:=A) 1000 1000 hA hA;exact .of4 o_ o_
 have s4:Sz 1 4:=.of1 o_ o_;have t3:=((hx.mul hz).mul zz).mul I;constructor
 .have u1:=((g.mul g).mono (n:=330) o_).add (((g.mul zz).mul J).mono (n:=330) o_).neg;have u3:=(u1.add (t3.mono (n:=331) o_).neg).add (((zz.mul zz).mul H).mono (n:=332) o_);unfold bm;exact Sz.mono (m:=333) (by simpa[YO] using u3) o_
 .have v2:=((hx.mul zz).mul G).mono (n:=245) o_;have v4:=(((g.mul hx).mono (n:=245) o_).add v2).add (((hz.mul zz).mul F).mono (n:=246) o_);exact ((hz.mul v4).mul s4).mono o_
def jk(A B:Int):Int:=max (1+2*A.natAbs+8*B.natAbs+A.natAbs*A.natAbs) (4*(1+A.natAbs+B.natAbs))
def jf(A B:Int):Int:=15+21*A.natAbs+27*B.natAbs
def ji(A B:Int):Int:=4*(aP A B).natAbs+5*(A.natAbs*A.natAbs)*B.natAbs+4*A.natAbs*(3*(A.natAbs*A.natAbs*A.natAbs)+22*(B.natAbs*B.natAbs))+12*B.natAbs*(A.natAbs*A.natAbs*A.natAbs+8*(B.natAbs*B.natAbs))+A.natAbs*(5*(A.natAbs*A.natAbs*A.natAbs)+32*(B.natAbs*B.natAbs))+2*B.natAbs*(13*(A.natAbs*A.natAbs*A.natAbs)+96*(B.natAbs*B.natAbs))+3*(A.natAbs*A.natAbs)*(A.natAbs*A.natAbs*A.natAbs+8*(B.natAbs*B.natAbs))
def dV(A B:Int):Int:=ct (max (jk A B) (max (jf A B) (ji A B))).toNat
end Go.Proofs.YtaamhakdhaolmaaGreatDoor
