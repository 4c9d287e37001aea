/- Part 22. -/
import Derived.Test.YtaamhakdhaolmaaGreatDoorAac
import Derived.Test.YtaamhakdhaolmaaGreatDoorAaf
namespace Go.Proofs.YtaamhakdhaolmaaGreatDoor
open Go.RowKit
set_option maxHeartbeats 8000000
set_option maxRecDepth 100000
variable {P:Prop}
set_option linter.all false
def Dv(F n)(_hn:1<=n):ar (F % n) n=ar n F:=by
 unfold ar;rw[Int.gcd_comm n F];have h1:Int.gcd (F % n) n∣Int.gcd F n:=by
  refine XI ?_ (Vf (F % n) n);have e:=WB F n;have h:=Int.dvd_add (Vt (F % n) n) (V1 (c:=F / n) (Vf (F % n) n));rwa [e] at h
 have h2:Int.gcd F n∣Int.gcd (F % n) n:=by
  refine XI ?_ (Vf F n);have e:F % n=F - n*(F / n):=by have:=WB F n;omega
  rw[e];exact Int.dvd_sub (Vt F n) (V1 (c:=F / n) (Vf F n))
 rw[Nat.dvd_antisymm h1 h2]
def OU(a b):ar a b=ar b a:=by unfold ar;rw[Int.gcd_comm]
def C_(a b):ar a (-b)=ar a b:=by unfold ar;rw[Int.gcd_neg]
def B7(a b):ar a b∣a:=Vt a b
def Cy(a b):ar a b∣b:=Vf a b
def bk(A B x z:Int):Int:=x*x*(x*x) - x*x*(z*z)*(2*A) - x*z*(z*z)*(8*B)+z*z*(z*z)*(A*A)
def aT(A B x z:Int):Int:=z*(x*x*x+x*(z*z)*A+z*(z*z)*B)*4
def cL(A B:Int):Int:=4*(aP A B).natAbs
def bU(A B x z:Int):Int:=ar (ar (cL A B) (bk A B x z)) (aT A B x z)
def yN{A B}(hA:bj A)(hB:a_ B)(hd:aP A B≠0):1<=cL A B/\cL A B<=28000000000:=by
 have h1:=li hA hB;have h2:-7000000000<=aP A B/\aP A B<=7000000000:=by unfold aP;omega
 unfold cL;omega
def yu{A B}(x z)(hA:bj A)(hB:a_ B)(hd:aP A B≠0):(1<=ar (cL A B) (bk A B x z)/\ar (cL A B) (bk A B x z)<=28000000000)/\(1<=bU A B x z/\bU A B x z<=28000000000):=by
 have⟨h1,h2⟩:=yN hA hB hd;have⟨a1,a2,_⟩:=nL (cL A B) (bk A B x z) (.inl o_);have a3:=a2 o_;have⟨b1,b2,_⟩:=nL (ar (cL A B) (bk A B x z)) (aT A B x z) (.inl o_);have b3:=b2 o_;unfold bU;omega
def uD(A B x z):bU A B x z∣bk A B x z:=Int.dvd_trans (B7 _ _) (Cy _ _)
def pC(A B x z):bU A B x z∣aT A B x z:=Cy _ _
def eE(A B x z:Int):Int:=if aT A B x z<0 then -(bk A B x z / bU A B x z) else bk A B x z / bU A B x z
def ei(A B x z:Int):Int:=if aT A B x z<0 then -(aT A B x z / bU A B x z) else aT A B x z / bU A B x z
def M_{a d:Int}(hd:1<=d)(h:d∣a):(a / d<0↔a<0):=by
 obtain⟨c,rfl⟩:=h;rw[Vg _ o_];constructor
 .intro h;exact Wd o_ h
 .intro h;rcases UF c 0 with h1|h1
  .exact h1
  .have:=UJ (show 0<=d by omega) h1;omega
def D8{a d}(hd:1<=d)(h:d∣a):-a / d=-(a / d):=by
 obtain⟨c,rfl⟩:=h;rw[<-WL,Vg _ o_,Vg _ o_]
def ik(x z:Int):Bool:=decide ((dg x.natAbs).length<=80)&&av (dg z.natAbs).length 1 80
def vO{k}{x}(h:(dg x.natAbs).length<=k):Sz k x:=by
 unfold Sz;have hD:=jQ x.natAbs
 suffices H:∀(l:List Int),Dg l->vl l<10000 ^ l.length by
  have h1:=H _ hD.1;rw[hD.2.2] at h1;have h2:=by
   rw[show (10000:Int)=((10000:Nat):Int) from rfl,<-Int.natCast_pow] at h1;exact Int.ofNat_lt.1 h1
  exact Un h2 (Vw o_ h)
 intro l
 induction l with
 |nil=>intro _;show (0:Int)<10000 ^ 0;decide
 |cons y l g=>
  intro hd;have h1:=g hd.tail;have h2:=hd.head;rw[Uw,UN];show y+10000*vl l<_;generalize (10000:Int) ^ l.length=P at *;omega
def yt{A B x z}(hA:bj A)(hB:a_ B)(hx:Sz 80 x)(hz:Sz 80 z):Sz 400 (bk A B x z)/\Sz 400 (aT A B x z):=by
 have g:=hx.mul hx;have zz:=hz.mul hz;have J:Sz 1 (2*A):=.of1 o_ o_;have I:Sz 4 (8*B):=.of4 o_ o_;have G:Sz 1 A:=.of1 o_ o_;have F:Sz 4 B:=.of4 o_ o_;have H:Sz 4 (A*A):=by
  have:=aJ (x:=A) (y:=A) 1000 1000 hA hA;exact .of4 o_ o_
 have s4:Sz 1 4:=.of1 o_ o_;have t3:=((hx.mul hz).mul zz).mul I;constructor
 .have u1:=((g.mul g).mono (n:=330) o_).add (((g.mul zz).mul J).mono (n:=330) o_).neg;have u3:=(u1.add (t3.mono (n:=331) o_).neg).add (((zz.mul zz).mul H).mono (n:=332) o_);unfold bk;exact Sz.mono (m:=333) (by simpa[XL] using u3) o_
 .have v2:=((hx.mul zz).mul G).mono (n:=245) o_;have v4:=(((g.mul hx).mono (n:=245) o_).add v2).add (((hz.mul zz).mul F).mono (n:=246) o_);exact ((hz.mul v4).mul s4).mono o_
def iY(A B:Int):Int:=max (1+2*A.natAbs+8*B.natAbs+A.natAbs*A.natAbs) (4*(1+A.natAbs+B.natAbs))
def iU(A B:Int):Int:=15+21*A.natAbs+27*B.natAbs
def iX(A B:Int):Int:=4*(aP A B).natAbs+5*(A.natAbs*A.natAbs)*B.natAbs+4*A.natAbs*(3*(A.natAbs*A.natAbs*A.natAbs)+22*(B.natAbs*B.natAbs))+12*B.natAbs*(A.natAbs*A.natAbs*A.natAbs+8*(B.natAbs*B.natAbs))+A.natAbs*(5*(A.natAbs*A.natAbs*A.natAbs)+32*(B.natAbs*B.natAbs))+2*B.natAbs*(13*(A.natAbs*A.natAbs*A.natAbs)+96*(B.natAbs*B.natAbs))+3*(A.natAbs*A.natAbs)*(A.natAbs*A.natAbs*A.natAbs+8*(B.natAbs*B.natAbs))
def dL(A B:Int):Int:=ci (max (iY A B) (max (iU A B) (iX A B))).toNat
end Go.Proofs.YtaamhakdhaolmaaGreatDoor
