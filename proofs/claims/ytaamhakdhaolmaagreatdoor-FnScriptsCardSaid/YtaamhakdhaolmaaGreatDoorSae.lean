/- Part 4. -/
import Derived.Test.YtaamhakdhaolmaaGreatDoorRows
import Derived.WalkSpells
import Derived.WalkLawsBesides
import Derived.Handy
import Derived.BigQuiet
import Derived.Deep.QuietTactic
import Derived.Lib.Hide
import Derived.Test.YtaamhakdhaolmaaGreatDoorSad
namespace Go.Proofs.YtaamhakdhaolmaaGreatDoor
open Go.RowKit Go.Proofs.Tryz
set_option maxHeartbeats 8000000
set_option maxRecDepth 100000
variable {P:Prop}
set_option linter.all false
abbrev Kp:=Calls prog
abbrev Rv(f:Nat)(a:Array Value)(w:World)(v:Value):=Kp f a w λe w'=>e=.returned v/\af w w w'
abbrev Rw(f:Nat)(a:Array Value)(w:World)(v:Value):=Kp f a w λe w'=>e=.returned v/\w=w'
def AZ(h:P:=by
 rw[WS] at h4;show (match w.heap[g]? with|some (.cells cs _ _)=>_|_=>_)=_;rw[hh];exact h4.symm):=h
def Jh(h:P:=by
 refine ((Vn G wr).alloc H _).grown I u_ (λk hk=>?_);exact (Wb V k hk).1):=h
def H9(h:P:=by
 have hb:(k % 2==1)=false:=by simp [h2]
 rw[Vm h2] at HR;clear h2;go_wp2;go_round
 case rel=>exact⟨_,_,_,hx,g,c3,c4,o_,o_,rfl,rfl,rfl,HR.out.trans H⟩
 case measure=>exact aJ):=h
def Pl{P}{f:FuncId}{args}{w:World}{n}{v}
 (h:Calls P f args (w.drewN n) λe w'=>e=.returned v/\w.drewN n=w'):Calls P f args (w.drewN n) λe b9=>e=.returned v/\∃m,b9=w.drewN m:=
 h.mono λ_ _ ⟨he,hm⟩=>⟨he,n,hm.symm⟩
def dh(n lo hi:Int)(w):
 Rw 63 #[n,lo,hi] w (.bool (aw n lo hi)):=by
 unfold aw;go_enter func63,ntmps63;go_wp2
 all_goals (go_ret;exact⟨by simp [*]<;>omega,rfl⟩)
def cK(n lo hi:Int)(w):
 Rw 104 #[n,lo,hi] w (.bool (aw n lo hi)):=by
 unfold aw;go_enter func104,ntmps104;go_wp2
 all_goals (go_ret;exact⟨by simp [*]<;>omega,rfl⟩)
def xZ(a m:Int)(h0:0<m)(h1:m<=4000000000000000000)(w):
 Rw 304 #[a,m] w (a % m:Int):=by
 go_enter func304,ntmps304;go_wp2
 all_goals (go_ret;exact⟨by simp [(h_ (C0 a m h0 h1)).out],rfl⟩)
def q_(a m:Int)(h0:0<m)(h1:m<=4000000000000000000)(w):
 Rw 228 #[a,m] w (a % m:Int):=by
 go_enter func228,ntmps228;go_wp2
 all_goals (go_ret;exact⟨by simp [(h_ (C0 a m h0 h1)).out],rfl⟩)
def uS(x y p:Int)(hx:0<=x)(g:x<=p)(hy:0<=y)(F:y<=p)(h1:p<=3000000000):0<=x*y/\x*y<=9000000000000000000:=by
 have h2:=Vs g F hy o_;have h3:=Vs h1 h1 o_ o_;exact⟨VP hx hy,o_⟩
def SE(a n p:Int)(h0:1<=p)(h1:p<=3000000000)(h2:0<=n)(h3:n<=4000000000000000000)(w):
 Kp 303 #[a,n,p] w λe w'=>e=.returned (ej a n p)/\∃k,w'=w.drewN k:=by
 go_enter func303,ntmps303;go_wp2
 go_quiet ((go_at_call 304;exact Pl (xZ _ _ o_ o_ _)))
 go_wp2;go_loop [7,8,1] (λo b m=>∃x y k:Int,0<=x/\x<p/\0<=y/\y<p/\0<=k/\k<=4000000000000000000/\o=.int .i64 x/\b=.int .i64 y/\m=.int .i64 k/\Hid ((x*y ^ k.toNat) % p=a ^ n.toNat % p)) (λ_ _ m=>(intOf m).toNat)
 case atStart=>
  refine⟨_,_,_,?_,?_,?_,?_,h2,h3,rfl,rfl,rfl,?_⟩
  .exact VS _ o_
  .exact VN _ o_
  .exact VS _ o_
  .exact VN _ o_
  .show _=_;rw[Xg,rh,WV _ (XO p),<-Xg,XA]
 case round=>
  obtain⟨x,y,k,hx,g,hy,F,hk,G,rfl,rfl,rfl,H⟩:=hrel;have b1:=uS x y p hx o_ hy o_ h1;have b2:=uS y y p hy o_ hy o_ h1;have c3:=VS (y*y) (show p≠0 by omega);have c4:=VN (y*y) (show 0<p by omega);by_cases ac:0<k
  .have HR:=h_ (Dh x y k p ac);by_cases h2:k % 2=1
   .have hb:(k % 2==1)=true:=by simp [h2]
    rw[Vo h2] at HR;go_wp2;go_round
    case rel=>exact⟨_,_,_,(VS (x*y) (show p≠0 by omega)),(VN (x*y) (show 0<p by omega)),c3,c4,o_,o_,rfl,rfl,rfl,HR.out.trans H⟩
    case measure=>exact aJ
   .exact H9
  .go_wp2;go_ret;refine⟨?_,_,rfl⟩;have:k=0:=o_
   subst this;have:=H.out;simp at this;unfold ej;rw[<-this,Xx hx g];rfl
def Ql(a n p:Int)(h0:1<=p)(h1:p<=3000000000)(h2:0<=n)(h3:n<=4000000000000000000)(w):
 Rw 280 #[a,n,p] w (ej a n p):=by
 go_enter func280,ntmps280;go_wp2_with (go_at_call 228;refine (q_ _ _ o_ o_ _).mono ?_;rintro e w' ⟨rfl,rfl⟩)
 go_loop [7,8,1] (λo b m=>∃x y k:Int,0<=x/\x<=p/\0<=y/\y<p/\0<=k/\k<=4000000000000000000/\o=.int .i64 x/\b=.int .i64 y/\m=.int .i64 k/\Hid ((x*y ^ k.toNat) % p=a ^ n.toNat % p)) (λ_ _ m=>(intOf m).toNat)
 case atStart=>
  refine⟨1,_,_,?_,?_,?_,?_,h2,h3,rfl,rfl,rfl,?_⟩
  .omega
  .omega
  .exact VS _ o_
  .exact VN _ o_
  .show _=_;rw[XA,rh]
 case round=>
  obtain⟨x,y,k,hx,g,hy,F,hk,G,rfl,rfl,rfl,H⟩:=hrel;have b1:=uS x y p hx o_ hy o_ h1;have b2:=uS y y p hy o_ hy o_ h1;have c2:=VN (x*y) (show 0<p by omega);have c3:=VS (y*y) (show p≠0 by omega);have c4:=VN (y*y) (show 0<p by omega);by_cases ac:0<k
  .have HR:=h_ (Dh x y k p ac);by_cases h2:k % 2=1
   .have hb:(k % 2==1)=true:=by simp [h2]
    rw[Vo h2] at HR;go_wp2;go_round
    case rel=>exact⟨_,_,_,(VS (x*y) (show p≠0 by omega)),o_,c3,c4,o_,o_,rfl,rfl,rfl,HR.out.trans H⟩
    case measure=>exact aJ
   .exact H9
  .go_wp2;go_ret;refine⟨?_,rfl⟩;have:k=0:=o_
   subst this;have:=H.out;simp at this;unfold ej;rw[<-this];rfl
def Jq(h:P:=by
 refine⟨I.os.trans ha.os,I.tape.trans ha.tape,I.output.trans ha.output,Vl ha.size I.size,λk hk hn=>?_⟩;refine (I.block k (Vp hk ha.size) ?_).trans (ha.block k hk);cases hv:v.ownBlock with
 |none=>simp
 |some g=>rw[hv] at hn;simpa using hn):=h
def JE(h:P:=by
 refine⟨h.1,?_⟩;rcases h.2 with h0|⟨g,F,cur,hv,hg,hh,r⟩
 .exact .inl h0
 .exact .inr ⟨g,F,cur,hv,hg,(Z.block g (Vz.1 hh).1 (hn g (by rw[hv];rfl))).trans hh,r⟩):=h
def wv(h:P:=by
 refine⟨h.1,?_⟩;rcases h.2 with h0|⟨g,F,cur,hv,hg,hh,r⟩
 .exact .inl h0
 .exact .inr ⟨g,F,cur,hv,hg,(hb.block g (Vz.1 hh).1).trans hh,r⟩):=h
def IJ(h:P:=by
 rw[ht,hu] at h4;exact AZ):=h
def AA(h:P:=by
 exact AZ):=h
def FL(h:P:=by
 exact Jh):=h
def AC(h:P:=by
 exact⟨none,0,by rw[hv,hn],o_,λi hi=>by omega⟩):=h
def wj(h:P:=by
 go_ret;refine⟨rfl,?_⟩;exact z_):=h
def vg(h:P:=by
 go_wp2;go_ret2;exact⟨rfl,rfl⟩):=h
def AD(h:P:=by
 go_ret;exact⟨rfl,(Vn _ _).alloc (Vj _) _⟩):=h
def FW(h:P:=by
 go_enter func62,ntmps62;go_wp2_with ((go_at_call 63;refine aA (dh _ _ _ _) ?_))
 exact AD):=h
def GK(h:P:=by
 go_enter func71,ntmps71;go_wp2_with ((go_at_call 104;refine aA (cK _ _ _ _) ?_))
 exact AD):=h
def Hd(h:P:=by
 go_ret;exact⟨rfl,ag I s_ ((Vn _ _).alloc (Vj _) _)⟩):=h
def vO(h:P:=by
 exact AD):=h
def aN{x y}(a b)(hx:-a<=x/\x<=a)(hy:-b<=y/\y<=b):-(a*b)<=x*y/\x*y<=a*b:=by
 have h1:(x*y).natAbs<=a.natAbs*b.natAbs:=by
  rw[V_];exact Xp o_ o_
 have h2:((a.natAbs*b.natAbs:Nat):Int)=a*b:=by
  rw[Zg,Int.natAbs_of_nonneg o_,Int.natAbs_of_nonneg o_]
 omega
def bu{W w1:World}(hb:af W W w1):(∀b o,b<W.heap.size->w1.cell? ⟨b,o,none⟩=W.cell? ⟨b,o,none⟩)/\(∀b o,b<W.heap.size->w1.frozen? ⟨b,o,none⟩=W.frozen? ⟨b,o,none⟩):=
 ⟨λb o h=>hb.cell (p:=⟨b,o,none⟩) h,λb o h=>hb.frozen (p:=⟨b,o,none⟩) h⟩
def ag{B S}{a W w1}(hb:af S W w1)(hs:B<=S)(h:af B a W):af B a w1:=h.trans (hb.mono hs)
def lr{B}{a w}(h:af B a w)(n):af B a (w.drewN n):=⟨h.os,h.tape,h.output,h.size,h.block⟩
def Bx(r:Nat)(x y:Value)(w':World):Prop:=w'.cell? r=some x/\w'.cell? ⟨r,1,none⟩=some y/\w'.frozen? ⟨r,0,none⟩=false/\w'.frozen? ⟨r,1,none⟩=false/\r<w'.heap.size
def Bx.below{r}{x y}{W w1}(h:Bx r x y W)(hb:af W W w1):Bx r x y w1:=by
 have⟨h1,h2,h3,h4,h5⟩:=h;have⟨hc,hf⟩:=bu hb;exact⟨(hc r 0 h5).trans h1,(hc r 1 h5).trans h2,(hf r 0 h5).trans h3,(hf r 1 h5).trans h4,Vp h5 hb.size⟩
def Bx.alloc'{r}{x y}{W}(h:Bx r x y W)(o:Obj):Bx r x y (W.alloc o):=Bx.below h ((Vn _ _).alloc (Vj _) _)
def Bx.drew{r}{x y}{W}(h:Bx r x y W):Bx r x y W.drew:=Bx.below h (Vn _ _).drew
def aP(A B:Int):Int:=4*A*A*A+27*B*B
def lI{A B}(hA:bh A)(hB:a_ B):
 (-4000000<=4*A*A/\4*A*A<=4000000)/\(-4000000000<=4*A*A*A/\4*A*A*A<=4000000000)/\(-2700000000<=27*B*B/\27*B*B<=2700000000):=by
 have h1:=aN (x:=4*A) (y:=A) 4000 1000 o_ hA;have h2:=aN (x:=4*A*A) (y:=A) 4000000 1000 o_ hA;have h3:=aN (x:=27*B) (y:=B) 270000 10000 o_ hB;omega
def be(A B:Int):Bool:=aw A (-1000) 1000&&aw B (-10000) 10000&&!(aP A B==0)
def nT(A B:Int)(hA:bh A)(hB:a_ B)(w):
 Rv 105 #[.agg #[A,B]] w (aP A B):=by
 have⟨h1,h2,h3⟩:=lI hA hB;go_enter func105,ntmps105;go_wp2;exact vO
def oo(A B:Int)(hA:bh A)(hB:a_ B)(w):
 Rv 98 #[.agg #[A,B]] w (aP A B):=by
 have⟨h1,h2,h3⟩:=lI hA hB;go_enter func98,ntmps98;go_wp2;exact vO
def f_(A B:Int)(w):
 Rv 71 #[.agg #[A,B]] w (.bool (be A B)):=by
 unfold be;cases h1:aw A (-1000) 1000
 .exact GK
 .cases h2:aw B (-10000) 10000
  .exact GK
  .have hB:=bO h2;go_enter func71,ntmps71;go_wp2_with (first|(go_at_call 104;refine aA (cK _ _ _ _) ?_)|(go_at_call 105;refine aj (nT _ _ (bO h1) hB _) λw1 I=>?_;have⟨aZ,a6⟩:=bu I;(try simp at ac)))
   exact Hd
def jV(A B:Int)(w):
 Rv 62 #[.agg #[A,B]] w (.bool (be A B)):=by
 unfold be;cases h1:aw A (-1000) 1000
 .exact FW
 .cases h2:aw B (-10000) 10000
  .exact FW
  .have hB:=bO h2;go_enter func62,ntmps62;go_wp2_with (first|(go_at_call 63;refine aA (dh _ _ _ _) ?_)|(go_at_call 98;refine aj (oo _ _ (bO h1) hB _) λw1 I=>?_;have⟨aZ,a6⟩:=bu I;(try simp at ac)))
   exact Hd
def iC(h:P:=by
 exact wj):=h
def vQ(h:P:=by simpa using hk):=h
def se(h:P:=by assumption):=h
def Je(h:P:=by
 have aL:=HB.out;clear g HB;subst aL;exact vg):=h
def Kr(h:P:=by
 by_cases cm:(r+1)*(r+1)<=n
 .have H2:=h_ cm;go_wp2;go_round
  case rel=>exact⟨r+1,rfl,o_,o_,H2⟩
  case measure=>exact aJ
 .have he:=K.out r h0 H.out o_;subst he;cases hb:(r*r==n)
  .have I:(r*r != n)=true:=by unfold bne;rw[hb];rfl
   have HB:Hid (b=false):=by show _=_;rw[g.out,hb]
   exact Je
  .have I:(r*r != n)=false:=by unfold bne;rw[hb];rfl
   have HB:Hid (b=true):=by show _=_;rw[g.out,hb]
   exact Je):=h
def FI(h:P:=by
 have e3:(FloatKind.f64.decode s).toInt .zero=some (m:Int):=e2;unfold floatToIntVal;rw[e3];have a1:IntKind.i64.min=-9223372036854775808:=d_;have a2:IntKind.i64.max=9223372036854775807:=d_;simp only;rw[a1,a2,Vo o_]):=h
def JS(h:P:=by
 show Ieee.double.nearest (decide ((k:Int)<0)) (k:Int).natAbs 0=_;rw[show decide ((k:Int)<0)=false by simp,Int.natAbs_natCast]):=h
def Ik(h:P:=by
 go_wp2;go_round
 case rel=>exact⟨r - 1,rfl,o_,o_⟩
 case measure=>exact aJ):=h
def IQ(h:P:=by
 rcases VJ 0 r with h|h
 .omega
 .obtain rfl:r=0:=o_
  omega):=h
def cl(n:Int):Bool:=aq n*aq n==n
def pg(n:Int)(hn:0<=n/\n<=4000000000000000000)(w):
 Rw 106 #[n] w (aq n):=by
 go_enter func106,ntmps106;go_wp2;go_loop [3,4] (λx y=>∃a b:Int,x=.int .i64 a/\y=.int .i64 b/\(0<=a/\a<b/\b<=2000000001)/\Hid (a*a<=n/\n<b*b)) (λx y=>(intOf y - intOf x).toNat)
 case atStart=>exact⟨0,2000000001,rfl,rfl,o_,o_,o_⟩
 case round=>
  obtain⟨a,b,rfl,rfl,bv,H⟩:=hrel;by_cases h1:1<b - a
  .have hm:a<(a+b) / 2/\(a+b) / 2<b:=o_;have I:0<=(a+b) / 2/\(a+b) / 2<=2000000000:=o_;have cW:0<=(a+b) / 2*((a+b) / 2)/\(a+b) / 2*((a+b) / 2)<=4000000000000000000:=⟨VP I.1 I.1,by have:=Vs I.2 I.2 I.1 o_;omega⟩
   by_cases h2:(a+b) / 2*((a+b) / 2)<=n
   .have g:Hid ((a+b) / 2*((a+b) / 2)<=n/\n<b*b):=⟨h2,H.out.2⟩
    go_wp2;go_round
    case rel=>exact⟨_,b,rfl,rfl,o_,g⟩
    case measure=>exact aJ
   .have g:Hid (a*a<=n/\n<(a+b) / 2*((a+b) / 2)):=⟨H.out.1,o_⟩
    go_wp2;go_round
    case rel=>exact⟨a,_,rfl,rfl,o_,g⟩
    case measure=>exact aJ
  .obtain rfl:b=a+1:=o_
   have he:=pf bv.1 H.out.1 H.out.2;subst he;go_wp2;go_ret;exact⟨rfl,rfl⟩
def xy(n:Int)(hn:0<=n/\n<=4000000000000000000)(w):
 Rw 110 #[n] w (.bool (cl n)):=by
 have h0:=lu n;have h1:=(nU hn.1).1;have h2:=VP h0 h0;have hc:=λw=>pg n hn w;unfold cl;generalize aq n=r at h0 h1 h2 hc;go_enter func110,ntmps110;go_wp2_with ((go_at_call 106;refine aA (hc _) ?_))
 go_ret;exact⟨rfl,rfl⟩
def Ct(s t)(h:FloatKind.f64.format.sqrt s=some t)(w):
 Rw 207 #[.float .f64 s] w (.float .f64 t):=by
 have hr:∀w,(callFunc 260 #[.float .f64 s]).run prog w=.ok (.value (.float .f64 t)) w:=λw=>by
  rw[YG func260 k_ k_ k_ (e:=Extern.MathSqrt.sqrt) k_];have e:Extern.MathSqrt.sqrt #[.float .f64 s]=(match FloatKind.f64.format.sqrt s with|some r=>pure (.float .f64 r)|none=>(do pure (.float .f64 (<-choose (.nanBits .f64 s s))))):=rfl;rw[e,h];rfl
 go_enter func207,ntmps207;go_wp2;go_ret;exact⟨rfl,rfl⟩
def xj(n:Int)(hn:0<=n/\n<=1000000000)(w):
 Rw 148 #[n] w (.tuple #[.int .i64 (if cl n then aq n else 0),.bool (cl n)]):=by
 obtain⟨k,rfl⟩:=Wr hn.1;have⟨s,m,e1,e2,hm⟩:=SQ k o_;have a5:floatOfInt .f64 (k:Int)=Ieee.double.nearest false k 0:=by
  exact JS
 have a9:∀w,(convert 3 192 (.int .i64 (k:Int))).run prog w=.ok (.float .f64 (Ieee.double.nearest false k 0)) w:=λw=>by
  rw[<-a5];exact run_convert_int_float w 3 192 .i64 .f64 (k:Int) k_ k_
 have a3:floatToIntVal .f64 s .i64=some (m:Int):=by
  exact FI
 have aM:∀w,(convert 192 3 (.float .f64 s)).run prog w=.ok (.int .i64 (m:Int)) w:=λw=>run_convert_float_int w 192 3 .f64 .i64 s (m:Int) k_ k_ a3;have F:=λw=>Ct _ s e1 w;have HS:=h_ F;generalize Ieee.double.nearest false k 0=f at a9 HS;have U:=nU hn.1;have bz:=lu (k:Int);have aG:=oh (b:=40000) hn.1 o_ o_;have K:Hid (∀r:Int,0<=r->r*r<=(k:Int)->(k:Int)<(r+1)*(r+1)->r=aq k):=λr h0 h1 h2=>pf h0 h1 h2;generalize hk:(k:Int)=n at *;have g:Hid (cl n=(aq n*aq n==n)):=rfl;generalize aq n=q,cl n=b at *;go_enter func148,ntmps148;go_wp2_with (go_at_call 207;refine aA (HS.out _) ?_)
 go_loop [4] (λx=>∃r:Int,x=.int .i64 r/\0<=r/\r<=1000000) (λx=>(intOf x).toNat)
 case atStart=>exact⟨m,rfl,o_,o_⟩
 case round=>
  obtain⟨r,rfl,h0,h1⟩:=hrel;have G:0<=r*r/\r*r<=1000000000000:=⟨VP h0 h0,by have:=Vs h1 h1 h0 o_;omega⟩
  by_cases ae:n<r*r
  .have b4:1<=r:=by
    exact IQ
   exact Ik
  .go_wp2;go_loop [4] (λx=>∃r:Int,x=.int .i64 r/\0<=r/\r<=1000000/\Hid (r*r<=n)) (λx=>(1000000 - intOf x).toNat)
   case atStart=>exact⟨r,rfl,h0,h1,by show _<=_;omega⟩
   case round=>
    obtain⟨r,rfl,h0,h1,H⟩:=hrel;have b4:=AB (a:=40000) o_ h0 (by have:=H.out;omega);have G:0<=(r+1)*(r+1)/\(r+1)*(r+1)<=1000000000000:=⟨VP o_ o_,by have:=Vs (show r+1<=1000000 by omega) (show r+1<=1000000 by omega) o_ o_;omega⟩
    have J:0<=r*r/\r*r<=1000000000000:=⟨VP h0 h0,by have:=Vs h1 h1 h0 o_;omega⟩
    exact Kr
abbrev E5:=(Int×Int)×Int×Int×Int
abbrev bM:=List E5
def gj(e:E5):Bool:=be e.1.1 e.1.2&&aw e.2.1 0 e.2.2.1&&decide (e.2.2.1<=20)&&aw e.2.2.2 0 16
def dO(x y:Int×Int):Bool:=decide (x.1<y.1)||(decide (x.1=y.1)&&decide (x.2<y.2))
def qU{x y:Int×Int}:dO x y=true↔(x.1<y.1\/(x.1=y.1/\x.2<y.2)):=by unfold dO;simp
def xz{x y z:Int×Int}(h:dO x y=true)(k:dO y z=true):dO x z=true:=by rw[qU] at *;omega
def Sf(x:Int×Int):dO x x=false:=by
 cases h:dO x x
 .rfl
 .rw[qU] at h;omega
def RG{x y:Int×Int}(h:dO x y=false)(hn:x≠y):dO y x=true:=by
 have h1:¬dO x y=true:=by rw[h];decide
 rw[qU] at h1;rw[qU];have:x.1≠y.1\/x.2≠y.2:=by
  by_cases h:x.1=y.1
  .right;intro h2;exact hn (Prod.ext h h2)
  .exact .inl h
 omega
def cC:List E5->Prop
 |[]=>True
 |[_]=>True
 |x::y::l=>dO x.1 y.1=true/\cC (y::l)
def eJ(L:List E5):Prop:=(∀e∈L,gj e=true)/\cC L/\L.length<=12
def eJ.nil:eJ []:=⟨(λ_ h=>by cases h),trivial,VH _⟩
def cC.tail{x:E5}{l}(h:cC (x::l)):cC l:=by
 cases l with
 |nil=>trivial
 |cons y l=>exact h.2
theorem cC.head{x:E5}:∀{l},cC (x::l)->∀e∈l,dO x.1 e.1=true
 |[],_,_,h=>by cases h
 |y::l,h,e,he=>by
  rcases VL.1 he with rfl|he
  .exact h.1
  .exact xz h.1 (cC.head h.2 e he)
def cC.cons{x:E5}{l}(h:cC l)(hx:∀e∈l,dO x.1 e.1=true):cC (x::l):=by
 cases l with
 |nil=>trivial
 |cons y l=>exact⟨hx y s_,h⟩
def cC.at{L}(h:cC L):∀{i j} (hi:i<j) (hj:j<L.length),dO (L[i]'o_).1 (L[j]'hj).1=true:=by
 induction L with
 |nil=>intro i j _ hj;simp at hj
 |cons x l g=>
  intro i j hi hj;cases j with
  |zero=>omega
  |succ j=>
   cases i with
   |zero=>exact cC.head h _ (VC _)
   |succ i=>exact g h.tail o_ (by simpa using hj)
def plc(c:Int×Int):List E5->Nat
 |[]=>0
 |x::l=>if dO x.1 c=true then plc c l+1 else 0
theorem mv(c:Int×Int):∀L:List E5,plc c L<=L.length
 |[]=>Vj _
 |x::l=>by unfold plc;split;have:=mv c l;simp;omega;simp
theorem xw(c:Int×Int):∀(L) (i) (hi:i<L.length),i<plc c L->dO L[i].1 c=true
 |[],i,hi,_=>by simp at hi
 |x::l,i,hi,h=>by
  unfold plc at h;split at h
  .rename_i hx;cases i with
   |zero=>exact hx
   |succ i=>exact xw c l i (by simpa using hi) o_
  .omega
theorem zn(c:Int×Int):∀(L) (h:plc c L<L.length),dO (L[plc c L]'h).1 c=false
 |[],h=>by simp at h
 |x::l,h=>by
  have hx:plc c (x::l)=if dO x.1 c=true then plc c l+1 else 0:=rfl
  by_cases hb:dO x.1 c=true
  .rw[Vo hb] at hx;simp only[hx] at h ⊢;exact zn c l (by simpa using h)
  .rw[Vm hb] at hx;simp only[hx] at h ⊢;simpa using hb
def zg{c:Int×Int}{L}{k}(hk:k<=L.length)(h1:∀i (hi:i<L.length),i<k->dO L[i].1 c=true)(h2:∀(h:k<L.length),dO L[k].1 c=false):plc c L=k:=by
 have h0:=mv c L;rcases Nat.lt_trichotomy (plc c L) k with h|h|h
 .have:=zn c L o_;rw[h1 _ o_ h] at this;cases this
 .exact h
 .have:=xw c L k o_ h;rw[h2 o_] at this;cases this
def df(c:Int×Int)(L:List E5):Bool:=match L[plc c L]? with|some e=>decide (e.1=c)|none=>false
def lH{c:Int×Int}{L}:df c L=true↔∃h:plc c L<L.length,(L[plc c L]'h).1=c:=by
 unfold df;constructor
 .intro h;split at h
  .rename_i e he;have⟨h1,h2⟩:=V3.1 he;exact⟨h1,by rw[h2];simpa using h⟩
  .cases h
 .rintro⟨h1,h2⟩;rw[Vv h1];simpa using h2
def cC.find{L}(h:cC L){c:Int×Int}{j}(hj:j<L.length)(hc:L[j].1=c):plc c L=j:=by
 refine zg o_ (λi hi g=>?_) (λh1=>?_)
 .rw[<-hc];exact h.at g hj
 .rw[hc];exact Sf c
def Qk{c:Int×Int}{L}(h:cC L)(hn:df c L=false):∀e∈L,e.1≠c:=by
 intro e he hc;obtain⟨j,hj,rfl⟩:=List.mem_iff_getElem.1 he;have G:=h.find hj hc;have:df c L=true:=lH.2 ⟨o_,by simp only[G];exact hc⟩;rw[hn] at this;cases this
def eE(a b:E5):Option E5:=if (max a.2.1 b.2.1<=min a.2.2.1 b.2.2.1)/\¬(a.2.2.2≠0/\b.2.2.2≠0/\a.2.2.2≠b.2.2.2) then some (a.1,max a.2.1 b.2.1,min a.2.2.1 b.2.2.1,max a.2.2.2 b.2.2.2) else none
def tU{e:E5}:gj e=true↔be e.1.1 e.1.2=true/\(0<=e.2.1/\e.2.1<=e.2.2.1)/\e.2.2.1<=20/\(0<=e.2.2.2/\e.2.2.2<=16):=by
 unfold gj aw;simp only[VB,V2,YQ]
def QU{a b m:E5}(ha:gj a=true)(hb:gj b=true)(h:eE a b=some m):gj m=true/\m.1=a.1:=by
 unfold eE at h;split at h
 .rename_i hc;cases h;refine⟨?_,rfl⟩;rw[tU] at *;refine⟨ha.1,?_,?_,?_⟩<;>simp only<;>omega
 .cases h
def gw(L:List E5)(e:E5):Option (List E5):=
 if df e.1 L=true then (match L[plc e.1 L]? with|some x=>(eE x e).map λm=>L.set (plc e.1 L) m|none=>none)
 else if L.length<=11 then some (L.take (plc e.1 L)++e::L.drop (plc e.1 L)) else none
def cC.insert{L}(h:cC L){e:E5}(hn:df e.1 L=false):cC (L.take (plc e.1 L)++e::L.drop (plc e.1 L)):=by
 induction L with
 |nil=>trivial
 |cons x l g=>
  have hx:plc e.1 (x::l)=if dO x.1 e.1=true then plc e.1 l+1 else 0:=rfl
  by_cases hb:dO x.1 e.1=true
  .rw[Vo hb] at hx;have cy:df e.1 l=false:=by
    unfold df at hn ⊢;rw[hx] at hn;simpa using hn
   rw[hx];simp;refine cC.cons (g h.tail cy) λy hy=>?_;rcases Wy.1 hy with hy|hy
   .exact cC.head h y (Xc hy)
   .rcases VL.1 hy with rfl|hy
    .exact hb
    .exact cC.head h y (Xf hy)
  .rw[Vm hb] at hx;rw[hx];simp;refine cC.cons h λy hy=>?_;have F:=RG (by simpa using hb) ((Qk h hn) x s_);rcases VL.1 hy with rfl|hy
   .exact F
   .exact xz F (cC.head h y hy)
theorem cC.setE{m:E5}:∀{L} {k} (hk:k<L.length),cC L->m.1=L[k].1->cC (L.set k m)
 |[],_,hk,_,_=>by simp at hk
 |x::l,0,_,h,hm=>by
  simp;refine cC.cons h.tail λy hy=>?_;rw[hm];exact cC.head h y hy
 |x::l,k+1,hk,h,hm=>by
  simp;refine cC.cons (cC.setE vQ h.tail (by simpa using hm)) λy hy=>?_;obtain⟨j,hj,rfl⟩:=List.mem_iff_getElem.1 hy;rw[List.getElem_set];split
  .rename_i g;rw[hm];exact cC.head h _ (VC _)
  .exact cC.head h _ (VC _)
def C4{L}{e:E5}(h:eJ L)(he:gj e=true){M}(ht:gw L e=some M):eJ M:=by
 have⟨h1,h2,h3⟩:=h;unfold gw at ht;split at ht
 .rename_i hh;have⟨G,hc⟩:=lH.1 hh;rw[Vv G] at ht;simp only[Option.map_eq_some_iff] at ht;obtain⟨m,hm,rfl⟩:=ht;have⟨o1,o2⟩:=QU (h1 _ (VC G)) he hm;refine⟨λy hy=>?_,cC.setE G h2 o2,by simpa using h3⟩;rcases XZ hy with hy|rfl
  .exact h1 y hy
  .exact o1
 .rename_i hh;split at ht
  .rename_i hl;cases ht;refine⟨λy hy=>?_,cC.insert h2 (by simpa using hh),?_⟩
   .rcases Wy.1 hy with hy|hy
    .exact h1 y (Xc hy)
    .rcases VL.1 hy with rfl|hy
     .exact he
     .exact h1 y (Xf hy)
   .have:=mv e.1 L;simp;omega
  .cases ht
def iT(L:List E5)(c:Int×Int):Option (List E5):=if df c L=true then some (L.eraseIdx (plc c L)) else none
theorem cC.erase:∀{L} {k},cC L->cC (L.eraseIdx k)
 |[],_,_=>trivial
 |x::l,0,h=>h.tail
 |x::l,k+1,h=>by
  simp;exact cC.cons (cC.erase h.tail) λy hy=>cC.head h y (List.mem_of_mem_eraseIdx hy)
def QR{L}{c:Int×Int}(h:eJ L){M}(ht:iT L c=some M):eJ M:=by
 have⟨h1,h2,h3⟩:=h;unfold iT at ht;split at ht
 .cases ht;refine⟨λy hy=>h1 y (List.mem_of_mem_eraseIdx hy),cC.erase h2,?_⟩;have:=List.length_eraseIdx_le L (plc c L);omega
 .cases ht
def fK(L:List E5)(c:Int×Int):Option E5:=if df c L=true then L[plc c L]? else none
def yg{L}{c:Int×Int}(h:eJ L){e:E5}(hf:fK L c=some e):gj e=true:=by
 unfold fK at hf;split at hf
 .have⟨h1,h2⟩:=V3.1 hf;rw[<-h2];exact h.1 _ (VC h1)
 .cases hf
def sJ(h:P:=by
 go_wp2;go_ret;exact⟨rfl,rfl⟩):=h
def zO(h:P:=by
 go_enter func100,ntmps100;exact sJ):=h
def Km(h:P:=by
 go_enter func172,ntmps172;exact sJ):=h
def Af(h:P:=by
 exact⟨none,0,by rw[hv,hn],λi hi=>by omega⟩):=h
def Tryz.infoI:(prog.info? 3).map (λi=>(i.zero,i.size,i.bytes))=some (some (.int .i64 0),1,8):=by kernel_rfl
def ar(w:World)(G:Nat)(v:Value)(xs:List Int):Prop:=w.ownsRow G 3 1 v xs.length (xs.map (Value.int .i64))
def ar.nil(w)(G):ar w G (.slice none 0 0) []:=XK _ _ _ _
def ar.alloc{w}{G}{v}{xs}(h:ar w G v xs)(o:Obj):ar (w.alloc o) G v xs:=XF h o
def ar.le{w}{G base'}{v}{xs}(h:ar w G v xs)(hb:base'<=G):ar w base' v xs:=
 ⟨h.1,h.2.elim Or.inl (λ⟨g,F,cur,hv,hg,r⟩=>Or.inr ⟨g,F,cur,hv,Vl hb hg,r⟩)⟩
def ar.below{w w1}{G}{v}{xs}(h:ar w G v xs)(hb:af w w w1):ar w1 G v xs:=by
 exact wv
def ar.form{w}{G}{v}{xs}(h:ar w G v xs):
 ∃(a:ck) (F:Nat),v=.slice a xs.length F/\∀i,i<xs.length->∃g,a=some ⟨g,0,none⟩/\w.cell? ⟨g,i,none⟩=some (.int .i64 (xs[i]?.getD 0))/\g<w.heap.size/\G<=g:=by
 rcases h.2 with ⟨hv,hn⟩|⟨g,F,cur,hv,hg,hh,_,_,_,ht⟩
 .exact Af
 .refine⟨some ⟨g,0,none⟩,F,hv,λi hi=>⟨g,rfl,?_,(Vz.1 hh).1,hg⟩⟩;have h1:cur.toList[i]?=some (.int .i64 (xs[i]?.getD 0)):=by
   have h2:(cur.toList.take (xs.length*1))[i]?=cur.toList[i]?:=VU o_;rw[<-h2,ht,YY,Vv hi];rfl
  rw[WS] at h1;show (match w.heap[g]? with|some (.cells cs _ _)=>_|_=>_)=_;rw[hh];exact h1
def fY{ops}{rest}{o}{a}{Q}{wr}{y:Int}(aa:o.guard=none)(s x)
 (Z:o.op=.call {callee:=.builtin .append,args:=#[s,x],argTypes:=#[22,22]})
 (G)(v)(xs)(hs:a.eval s=v)(V:ar wr G v xs)(hx:a.eval x=.slice wr 1 1)
 (ae:xs.length<1000000000000)(H:G<=wr.heap.size)
 (h:∀v' w1,ar w1 G v' (xs++[y])->af G wr w1->(wr.alloc (.cells #[y] 3)).grownBy w1 v.ownBlock->wpList prog ops Q rest (a.put o.dst v') w1):
 wpList prog ops Q (o::rest) a (wr.alloc (.cells #[y] 3)):=by
 have⟨U,hi,bi,ac,ba⟩:=WL Tryz.infoI;refine Yo _ aa s x 22 Z G 3 U () 1 8 underlying22 hi bi ac ba rfl d_ v xs.length (xs.map (Value.int .i64)) hs (V.alloc _) ⟨wr,0,none⟩ 1 1 [.int .i64 y] hx rfl ?_ ?_ ?_ ?_ ?_ ?_
 .intro j u hj
  match j,hj with
  |0,hj=>simp at hj;subst hj;simp [Addr.add]
 .intro u hu;simp at hu;subst hu;rfl
 .unfold maxLen;omega
 .omega
 .simp;omega
 .intro v' w1 J I _;refine h v' w1 ?_ ?_ I
  .show w1.ownsRow _ _ _ _ _ _;rw[VI,Xi];exact J
  .exact FL
def KJ(h:P:=by
 by_cases h1:a<b
 .rw[Vo h1];exact zO
 .rw[Vm h1];by_cases h2:b<a
  .rw[Vo h2];exact zO
  .rw[Vm h2];exact zO):=h
def I6(h:P:=by
 by_cases h:b<a
 .rw[Vo h];exact Km
 .rw[Vm h];exact Km):=h
def ot(h:P:=by rw[VM];omega):=h
def pN(h:P:=by unfold maxLen;omega):=h
def Ie(h:P:=by
 go_wp2_with ((go_at_call 303;refine (SE _ _ _ o_ h1 o_ o_ _).mono ?_;rintro e w' ⟨rfl,V,rfl⟩))
 go_ret;exact⟨rfl,_,rfl⟩):=h
def F8(h:P:=by
 go_wp2_with ((go_at_call 280;refine (Ql _ _ _ o_ h1 o_ o_ _).mono ?_;rintro e w' ⟨rfl,rfl⟩))
 go_ret;exact⟨rfl,rfl⟩):=h
def AY(h:P:=by
 go_wp2;go_ret;exact⟨by rw[HF.out];rfl,rfl⟩):=h
def LH(h:P:=by
 by_cases h2:n % k=0
 .have hh:(n % k==0)=true:=by simp [h2]
  have HF:=h_ (PY aF h1 h2);clear h2;exact AY
 .have hh:(n % k==0)=false:=by simp [h2]
  have H2:=h_ h2;clear h2;go_wp2;go_round
  case rel=>exact⟨k+1,rfl,o_,o_,λc hc bs=>by
   rcases VJ c k with J|J
   .exact H.out c hc J
   .rw[show c=k by omega];exact H2.out⟩
  case measure=>exact aJ):=h
def Jl(h:P:=by
 clear h;go_enter func262,ntmps262;exact Ie):=h
def Iz(h:P:=by
 clear h;go_enter func229,ntmps229;exact F8):=h
def Ha(h:P:=by
 exact Ie):=h
def Eu{d n:Int}(hd:0<=d)(h:d*d<=n)(hn:n<=1000000000000):d<=1000000:=by
 rcases VJ 1000000 d with J|J
 .have:=Vs (show (1000001:Int)<=d by omega) (show (1000001:Int)<=d by omega) o_ o_;omega
 .exact J
def xK(n:Int)(hn:n<=1000000000000)(w):
 Rw 261 #[n] w (.bool (cH n)):=by
 go_enter func261,ntmps261;go_wp2;go_loop [3] (λx=>∃k:Int,x=.int .i64 k/\2<=k/\k<=1000001/\Hid (∀c:Int,2<=c->c<k->n % c≠0)) (λx=>(1000001 - intOf x).toNat)
 case atStart=>exact⟨2,rfl,o_,o_,λc _ _=>by omega⟩
 case round=>
  obtain⟨k,rfl,aF,hk,H⟩:=hrel;have g:4<=k*k/\k*k<=1000002000001:=⟨by have:=Vs aF aF o_ o_;omega,by have:=Vs hk hk o_ o_;omega⟩
  by_cases h1:k*k<=n
  .have ac:=Eu o_ h1 hn;exact LH
  .have HN:=h_ (Dl aF H.out o_);by_cases h2:2<=n
   .have HF:=h_ (C9 h2 HN.out);exact AY
   .have HF:=h_ (Qm (show n<2 by omega));go_wp2;go_ret;exact⟨by rw[HF.out];simp,rfl⟩
def oY(n:Int)(w):
 Rw 227 #[n] w (.bool (aw n 2 997&&cH n)):=by
 cases hi:aw n 2 997
 .go_enter func227,ntmps227;go_wp2_with ((go_at_call 104;refine aA (cK _ _ _ _) ?_))
  go_ret;exact⟨rfl,rfl⟩
 .have hb:=bO hi;go_enter func227,ntmps227;go_wp2_with ((go_at_call 104;refine aA (cK _ _ _ _) ?_))
  go_loop [3] (λx=>∃k:Int,x=.int .i64 k/\2<=k/\k<=1000001/\Hid (∀c:Int,2<=c->c<k->n % c≠0)) (λx=>(1000001 - intOf x).toNat)
  case atStart=>exact⟨2,rfl,o_,o_,λc _ _=>by omega⟩
  case round=>
   obtain⟨k,rfl,aF,hk,H⟩:=hrel;have g:4<=k*k/\k*k<=1000002000001:=⟨by have:=Vs aF aF o_ o_;omega,by have:=Vs hk hk o_ o_;omega⟩
   by_cases h1:k*k<=n
   .have ac:=Eu o_ h1 o_;exact LH
   .have HF:=h_ (C9 hb.1 (Dl aF H.out o_));exact AY
def PP(a p:Int)(h0:2<=p)(h1:p<=3000000000)(w):
 Kp 305 #[a,p] w λe w'=>e=.returned (gz a p)/\∃k,w'=w.drewN k:=by
 go_enter func305,ntmps305;exact Ha
def Ob(a p:Int)(h0:2<=p)(h1:p<=3000000000)(w):
 Rw 281 #[a,p] w (gz a p):=by
 go_enter func281,ntmps281;exact F8
def Dk(a p:Int)(h0:2<=p)(h1:p<=3000000000)(w):
 Kp 262 #[a,p] w λe w'=>e=.returned (gA a p)/\∃k,w'=w.drewN k:=by
 unfold gA;have hc:∀x:Int,x=0\/x=1\/(x≠0/\x≠1):=λx=>by omega
 rcases hc (ej a ((p - 1) / 2) p) with h|h|⟨h,h2⟩
 .have hh:(ej a ((p - 1) / 2) p==0)=true:=by simp [h]
  rw[Vo h];exact Jl
 .have g:(ej a ((p - 1) / 2) p==0)=false:=by simp [h]
  have hh:(ej a ((p - 1) / 2) p==1)=true:=by simp [h]
  rw[Vm o_,Vo h];exact Jl
 .have g:(ej a ((p - 1) / 2) p==0)=false:=by simp [h]
  have hh:(ej a ((p - 1) / 2) p==1)=false:=by simp [h2]
  rw[Vm h,Vm h2];go_enter func262,ntmps262;exact Ha
def Cw(a p:Int)(h0:2<=p)(h1:p<=3000000000)(w):
 Rw 229 #[a,p] w (fc a p):=by
 unfold fc A_;by_cases h:ej a ((p - 1) / 2) p=p - 1
 .have hh:(ej a ((p - 1) / 2) p==p - 1)=true:=by simp [h]
  rw[Vo h];exact Iz
 .have hh:(ej a ((p - 1) / 2) p==p - 1)=false:=by simp [h]
  rw[Vm h];exact Iz
noncomputable def fg(A B p:Int):Bool:=aw p 5 997&&cH p&&!(aP A B % p==0)
def tB{A B}(hA:bh A)(hB:a_ B):-7000000000<=aP A B/\aP A B<=7000000000:=by
 have:=lI hA hB;unfold aP;omega
def RX(a p:Int):(a.tmod p != 0)=!(a % p==0):=by
 rw[Xu];simp only[bne_iff_ne,ne_eq,Xk,VD];constructor
 .intro h e;exact h (Int.tmod_eq_zero_of_dvd (VT e))
 .exact tmod_ne0
where tmod_ne0 {a p:Int} (h:a % p≠0):a.tmod p≠0:=λe=>h (Ws (Yj e))
def Dy(A B p:Int)(hA:bh A)(hB:a_ B)(w):
 Rv 209 #[.agg #[A,B],p] w (.bool (fg A B p)):=by
 unfold fg;cases h1:aw p 5 997
 .go_enter func209,ntmps209;go_wp2_with ((go_at_call 63;refine aA (dh _ _ _ _) ?_))
  exact vO
 .have G:=bO h1;cases h2:cH p
  .go_enter func209,ntmps209;go_wp2_with (first|(go_at_call 63;refine aA (dh _ _ _ _) ?_)|(go_at_call 261;refine (xK _ o_ _).mono ?_;rintro e w' ⟨rfl,rfl⟩))
   exact vO
  .have HT:=h_ (RX (aP A B) p);go_enter func209,ntmps209;go_wp2_with (first|(go_at_call 63;refine aA (dh _ _ _ _) ?_)|(go_at_call 261;refine (xK _ o_ _).mono ?_;rintro e w' ⟨rfl,rfl⟩)|(go_at_call 98;refine aj (oo _ _ hA hB _) λw1 I=>?_;have⟨aZ,a6⟩:=bu I))
   go_ret;refine⟨by rw[<-HT.out];rfl,?_⟩;exact z_
def D5(A B p:Int)(w):
 Rv 175 #[.agg #[A,B],p] w (.bool (be A B&&fg A B p)):=by
 unfold fg;cases h0:be A B
 .go_enter func175,ntmps175;go_wp2_with ((go_at_call 71;refine aj (f_ _ _ _) λw1 I=>?_;have⟨aZ,a6⟩:=bu I))
  exact iC
 .have hA:=by unfold be at h0;simp at h0;exact bO h0.1.1
  have hB:=by unfold be at h0;simp at h0;exact bO h0.1.2
  cases h1:aw p 2 997
  .have h5:aw p 5 997=false:=by
    cases h6:aw p 5 997
    .rfl
    .have:=bO h6;rw[gv o_ o_] at h1;cases h1
   go_enter func175,ntmps175;go_wp2_with (first|(go_at_call 71;refine aj (f_ _ _ _) λw1 I=>?_;have⟨aZ,a6⟩:=bu I)|(go_at_call 227;refine aA (oY _ _) ?_))
   go_ret;refine⟨by rw[h5];rfl,?_⟩;exact z_
  .have G:=bO h1;cases h2:cH p
   .go_enter func175,ntmps175;go_wp2_with (first|(go_at_call 71;refine aj (f_ _ _ _) λw1 I=>?_;have⟨aZ,a6⟩:=bu I)|(go_at_call 227;refine aA (oY _ _) ?_))
    go_ret;refine⟨s_,?_⟩;exact z_
   .by_cases h5:5<=p
    .have h6:=gv h5 G.2;go_enter func175,ntmps175;go_wp2_with (first|(go_at_call 71;refine aj (f_ _ _ _) λw1 I=>?_;have⟨aZ,a6⟩:=bu I;have ac:=I.size;(try simp only[VG] at ac);(try (have F:w.heap.size<w1.heap.size:=o_));(try (have b7:=Vt ac)))|(go_at_call 227;refine aA (oY _ _) ?_)|(go_at_call 105;refine aj (nT _ _ hA hB _) λw2 U=>?_;have⟨bb,ab⟩:=bu U;(try (have az:=Vt ba));(try (have ae:=Vt (Vq az)));(try (have aa:w1.heap.size<w2.heap.size:=o_)))|(go_at_call 228;refine (q_ _ _ o_ o_ _).mono ?_;rintro e w' ⟨rfl,rfl⟩))
     go_ret;refine⟨by rw[h6];rfl,?_⟩;exact z_
    .have h6:aw p 5 997=false:=by unfold aw;simp;omega
     go_enter func175,ntmps175;go_wp2_with (first|(go_at_call 71;refine aj (f_ _ _ _) λw1 I=>?_;have⟨aZ,a6⟩:=bu I)|(go_at_call 227;refine aA (oY _ _) ?_))
     exact iC
def j_{p a b}(G:cH p=true)(h:(a*b) % p=0):a % p=0\/b % p=0:=by
 have⟨h2,hd⟩:=xl G;obtain⟨n,rfl⟩:∃n:Nat,p=n:=⟨p.toNat,o_⟩
 by_cases ha:a % (n:Int)=0
 .exact .inl ha
 .right;have h1:¬n∣a.natAbs:=λh=>ha (Ws (Yf.2 h));have h3:n∣a.natAbs*b.natAbs:=by
   rw[<-V_];exact Yf.1 (VT h)
  exact Ws (Yf.2 ((Nc o_ hd h1).dvd_of_dvd_mul_left h3))
theorem zi{p a}(G:cH p=true)(h0:a % p≠0):∀k:Nat,(a ^ k) % p≠0
 |0=>by
  have:=(xl G).1;rw[Yd,Xx o_ o_];omega
 |k+1=>by
  intro h;rw[VR] at h;rcases j_ G h with h|h
  .exact zi G h0 k h
  .exact h0 h
def gF(A B p:Int):Int:=-3*B % p*gz (2*A) p % p
def dK(A B p:Int):Nat:=if aP A B % p≠0 then 0 else if A % p=0 then 1 else if fc (3*gF A B p) p=1 then 2 else 3
def eD:Nat->ak
 |0=>⟨#[103,111,111,100]⟩
 |1=>⟨#[97,100,100,105,116,105,118,101]⟩
 |2=>⟨#[115,112,108,105,116]⟩
 |_=>⟨#[110,111,110,115,112,108,105,116]⟩
def oV{k p:Int}(hk:0<k)(G:k<p):k % p≠0:=by rw[Xx o_ o_];omega
def UY{A B p}(G:cH p=true)(h5:5<=p)(hd:aP A B % p=0)(hA:A % p=0):B % p=0:=by
 have⟨k,hk⟩:=VT hA;have⟨m,hm⟩:=VT hd;have h1:(27*(B*B)) % p=0:=by
  apply Ws;refine⟨m - 4*k*A*A,?_⟩;unfold aP at hm;grind
 rcases j_ G h1 with h|h
 .have g:(3*9:Int) % p=0:=h;rcases j_ G g with h|h
  .exact absurd h (oV o_ o_)
  .have h9:(3*3:Int) % p=0:=h;rcases j_ G h9 with h|h<;>exact absurd h (oV o_ o_)
 .rcases j_ G h with h|h<;>exact h
def UU{A B p}(G:cH p=true)(h5:5<=p)(hd:aP A B % p=0)(hB:B % p=0):A % p=0:=by
 have⟨k,hk⟩:=VT hB;have⟨m,hm⟩:=VT hd;have h1:(4*(A*(A*A))) % p=0:=by
  apply Ws;refine⟨m - 27*k*B,?_⟩;unfold aP at hm;grind
 rcases j_ G h1 with h|h
 .exact absurd h (oV o_ o_)
 .rcases j_ G h with h|h
  .exact h
  .rcases j_ G h with h|h<;>exact h
def UP{A B p}(G:cH p=true)(h5:5<=p)(hA:A % p≠0)(hB:B % p≠0):(3*gF A B p) % p≠0:=by
 intro h;rcases j_ G h with h|h
 .exact absurd h (oV o_ o_)
 .unfold gF at h;rw[WV _ (XO p)] at h;rcases j_ G h with h|h
  .rw[WV _ (XO p)] at h;rcases j_ G h with h|h
   .have h3:=by
     have:=VT h;exact Ws ((Zq).1 this)
    exact absurd h3 (oV o_ o_)
   .exact hB h
  .unfold gz ej at h;rw[WV _ (XO p)] at h;refine zi G ?_ _ h;intro h;rcases j_ G h with h|h
   .exact absurd h (oV o_ o_)
   .exact hA h
def TJ{a p}(G:cH p=true)(h0:a % p≠0):gA a p≠0:=by
 unfold gA;split
 .rename_i h;unfold ej at h;exact absurd h (zi G h0 _)
 .split<;>omega
def TI{A B p}(G:cH p=true)(h5:5<=p/\p<=997)(hd:aP A B % p=0)(hA:A % p≠0):(0<=gA (3*gF A B p) p↔fc (3*gF A B p) p=1):=by
 have hB:B % p≠0:=λh=>hA (UU G h5.1 hd h);have h1:=TJ G (UP G h5.1 hA hB);rw[<-uL _ p G o_ o_];revert h1;unfold gA;split
 .intro h;exact absurd rfl h
 .split<;>simp
def Fs(A B){p}(h:2<=p):0<=gF A B p/\gF A B p<p:=⟨VS _ o_,VN _ o_⟩
def gG(A B p:Int):Bool:=p==5&&B==0&&(A==625||A==-625)
def dQ(A B p:Int):Int:=if gG A B p then A / 625 else A
def G9{A B p}(hA:bh A)(hB:a_ B)(hd:aP A B≠0)(G:cH p=true)(h5:5<=p/\p<=997)(h:gG A B p=false):¬(A % (p*p*p*p)=0/\B % (p*p*p*p*p*p)=0):=by
 rintro⟨h1,h2⟩;have e1:625<=p*p*p*p:=by
  have a1:=Vs h5.1 h5.1 o_ o_;have a2:=Vs a1 h5.1 o_ o_;have a3:=Vs a2 h5.1 o_ o_;omega
 have e2:15625<=p*p*p*p*p*p:=by
  have a1:=Vs e1 h5.1 o_ o_;have a2:=Vs a1 h5.1 o_ o_;omega
 have ad:B=0:=by
  have⟨k,hk⟩:=VT h2;rcases YX k 0 with h|h|h
  .have:=Vs e2 (show (1:Int)<=-k by omega) o_ o_;rw[XV] at this;omega
  .rw[h] at hk;omega
  .have:=Vs e2 (show (1:Int)<=k by omega) o_ o_;omega
 subst ad;have aL:A≠0:=by rintro rfl;exact hd d_
 by_cases h6:6<=p
 .have e1:1296<=p*p*p*p:=by
   have a1:=Vs h6 h6 o_ o_;have a2:=Vs a1 h6 o_ o_;have a3:=Vs a2 h6 o_ o_;omega
  have⟨k,hk⟩:=VT h1;rcases YX k 0 with h|h|h
  .have:=Vs e1 (show (1:Int)<=-k by omega) o_ o_;rw[XV] at this;omega
  .rw[h] at hk;omega
  .have:=Vs e1 (show (1:Int)<=k by omega) o_ o_;omega
 .obtain rfl:p=5:=o_
  have h3:A % 625=0:=h1;have h4:A=625\/A=-625:=o_;unfold gG at h;rcases h4 with rfl|rfl<;>simp at h
def uK{A B p}(h:gG A B p=true):p=5/\B=0/\(A=625\/A=-625):=by
 unfold gG at h;simp at h;exact⟨h.1.1,h.1.2,h.2⟩
def RO{A B p}(h:be A B=true):be (dQ A B p) B=true:=by
 unfold dQ;split
 .rename_i hs;obtain⟨rfl,rfl,rfl|rfl⟩:=uK hs<;>decide
 .exact h
def uM{a p}(ha:a≠0)(G:2<=p)(k:Nat):val a p=k↔a % p ^ k=0/\a % p ^ (k+1)≠0:=by
 suffices H:∀(f:Nat) (a:Int) (k:Nat),a≠0->a.natAbs<=f->(fb f a p=k↔a % p ^ k=0/\a % p ^ (k+1)≠0) from H _ a k ha (Vj _)
 intro f
 induction f with
 |zero=>intro a k h1 h2;omega
 |succ f g=>
  intro a k ha hf;by_cases h:a % p=0
  .rw[yy f h];obtain⟨c,rfl⟩:=VT h;have hc:c≠0:=by rintro rfl;simp at ha
   have hq:p*c / p=c:=Wk _ o_;rw[hq];have ab:c.natAbs<=f:=by
    rw[V_] at hf;have:=Xp (show 2<=p.natAbs by omega) (Vj c.natAbs);omega
   cases k with
   |zero=>
    have:=nH f c p;constructor
    .intro h;omega
    .rintro⟨_,h2⟩;rw[show p ^ (0+1)=p by rw[VR,Yd,XA]] at h2;exact absurd h h2
   |succ k=>
    have h1:=g c k hc ab;have e:∀j:Nat,(p*c % p ^ (j+1)=0)↔c % p ^ j=0:=λj=>by
     rw[VR,Wu (p ^ j) p,Int.mul_emod_mul_of_pos _ _ o_];constructor
     .intro h;rcases WQ.1 h with h|h
      .omega
      .exact h
     .intro h;rw[h];simp
    have e1:=e k;have e2:=e (k+1);constructor
    .intro h;have⟨x,y⟩:=h1.1 (by push_cast at h;omega);exact⟨e1.2 x,λh=>y (e2.1 h)⟩
    .rintro⟨x,y⟩;have:=h1.2 ⟨e1.1 x,λh=>y (e2.2 h)⟩;push_cast;omega
  .rw[uw _ h];cases k with
   |zero=>
    rw[show p ^ (0+1)=p by rw[VR,Yd,XA]];simpa using h
   |succ k=>
    constructor
    .intro h;push_cast at h;omega
    .rintro⟨h1,_⟩;exfalso;refine h (Ws (Int.dvd_trans ?_ (VT h1)));rw[VR];exact Int.dvd_mul_left _ _
def oD(A B p:Int):Bool:=A % (p*p)==0&&!(A % (p*p*p)==0)&&(B % (p*p*p)==0)&&!(B % (p*p*p*p)==0)
def TX{A B p}(G:2<=p):oD A B p=true↔(A≠0/\B≠0/\val A p=2/\val B p=3):=by
 have e2:p*p=p ^ 2:=by simp [VR]
 have e3:p*p*p=p ^ 3:=by simp [VR]
 have e4:p*p*p*p=p ^ 4:=by simp [VR]
 unfold oD;rw[e4,e3,e2];simp;constructor
 .rintro⟨⟨⟨h1,h2⟩,h3⟩,h4⟩;have hA:A≠0:=by rintro rfl;simp at h2
  have hB:B≠0:=by rintro rfl;simp at h4
  exact⟨hA,hB,(uM hA G 2).2 ⟨h1,h2⟩,(uM hB G 3).2 ⟨h3,h4⟩⟩
 .rintro⟨hA,hB,h1,h2⟩;have⟨a1,a2⟩:=(uM hA G 2).1 h1;have⟨b1,b2⟩:=(uM hB G 3).1 h2;exact⟨⟨⟨a1,a2⟩,b1⟩,b2⟩
section
open Go Ieee
def QP(n)(hn:n<=4000000000000):∃(s m:Nat),double.sqrt (double.nearest false n 0)=some s/\(double.read s).toInt .zero=some (m:Int)/\m<=10000000:=by
 by_cases h0:n=0
 .subst h0;exact⟨0,0,by decide+kernel,by decide+kernel,o_⟩
 .have g:n.log2<42:=vZ h0 o_;have⟨m1,i,hr,a1,a2,a3,a4⟩:=tF h0 (place:=0) o_ o_;unfold Format.sqrt;rw[hr];have V:=uR a1 a2;unfold Datum.root;simp only;rw[Vm o_,Vm d_];simp only[V,show double.fractionBits+2=54 from rfl];obtain⟨c,hc,aZ⟩:∃c:Nat,2*54 - 52+((i - (2*54 - 52:Nat)) % 2).toNat=c/\(56<=c/\c<=57):=⟨_,rfl,o_,o_⟩
  rw[hc];have G:=tz (m1<<<c) ((m1<<<c).log2 / 2+1) 0 (VH _);generalize Datum.rootFrom (m1<<<c) ((m1<<<c).log2 / 2+1) 0=W at G;have hN:m1<<<c<2 ^ 110/\1<=m1<<<c:=by
   exact Ii
  have hW:=by
   exact JN
  obtain⟨b,hb,I,J⟩:∃b:Nat,(W*W != m1<<<c).toNat=b/\b<=1/\(W=0->b=1):=⟨_,rfl,Zw _,λh=>by
   subst h;have:(0*0 != m1<<<c)=true:=by simp;omega
   rw[this];rfl⟩
  rw[hb];have hM:2*W+b≠0:=by
   intro h;have:W=0:=o_
   have:=J this;omega
  have F:(2*W+b).log2<56:=vZ hM o_;have⟨m2,p,bp,b1,b2,b3,b4⟩:=tF hM (place:=(i - c) / 2 - 1) o_ o_;refine⟨double.nearest false (2*W+b) ((i - c) / 2 - 1),m2 / (1<<<min (-p).toNat (m2.log2+2)),rfl,?_,?_⟩
  .exact GS
  .have a7:=uR b1 b2;rw[a7,XD,Nat.one_mul];have h1:2 ^ 30<=2 ^ min (-p).toNat (52+2):=WD o_ o_;have h2:m2 / 2 ^ min (-p).toNat (52+2)<=m2 / 2 ^ 30:=Nat.div_le_div_left h1 d_;omega
def NJ(n:Int)(hn:0<=n/\n<=4000000000000)(w):
 Rw 148 #[n] w (.tuple #[.int .i64 (if cl n then aq n else 0),.bool (cl n)]):=by
 obtain⟨k,rfl⟩:=Wr hn.1;have⟨s,m,e1,e2,hm⟩:=QP k o_;have a5:floatOfInt .f64 (k:Int)=Ieee.double.nearest false k 0:=by
  exact JS
 have a9:∀w,(convert 3 192 (.int .i64 (k:Int))).run prog w=.ok (.float .f64 (Ieee.double.nearest false k 0)) w:=λw=>by
  rw[<-a5];exact run_convert_int_float w 3 192 .i64 .f64 (k:Int) k_ k_
 have a3:floatToIntVal .f64 s .i64=some (m:Int):=by
  exact FI
 have aM:∀w,(convert 192 3 (.float .f64 s)).run prog w=.ok (.int .i64 (m:Int)) w:=λw=>run_convert_float_int w 192 3 .f64 .i64 s (m:Int) k_ k_ a3;have F:=λw=>Ct _ s e1 w;have HS:=h_ F;generalize Ieee.double.nearest false k 0=f at a9 HS;have U:=nU hn.1;have bz:=lu (k:Int);have aG:=oh (b:=2000001) hn.1 o_ o_;have K:Hid (∀r:Int,0<=r->r*r<=(k:Int)->(k:Int)<(r+1)*(r+1)->r=aq k):=λr h0 h1 h2=>pf h0 h1 h2;generalize hk:(k:Int)=n at *;have g:Hid (cl n=(aq n*aq n==n)):=rfl;generalize aq n=q,cl n=b at *;go_enter func148,ntmps148;go_wp2_with (go_at_call 207;refine aA (HS.out _) ?_)
 go_loop [4] (λx=>∃r:Int,x=.int .i64 r/\0<=r/\r<=10000000) (λx=>(intOf x).toNat)
 case atStart=>exact⟨m,rfl,o_,o_⟩
 case round=>
  obtain⟨r,rfl,h0,h1⟩:=hrel;have G:0<=r*r/\r*r<=100000000000000:=⟨VP h0 h0,by have:=Vs h1 h1 h0 o_;omega⟩
  by_cases ae:n<r*r
  .have b4:1<=r:=by
    exact IQ
   exact Ik
  .go_wp2;go_loop [4] (λx=>∃r:Int,x=.int .i64 r/\0<=r/\r<=10000000/\Hid (r*r<=n)) (λx=>(10000000 - intOf x).toNat)
   case atStart=>exact⟨r,rfl,h0,h1,by show _<=_;omega⟩
   case round=>
    obtain⟨r,rfl,h0,h1,H⟩:=hrel;have b4:=AB (a:=2000001) o_ h0 (by have:=H.out;omega);have G:0<=(r+1)*(r+1)/\(r+1)*(r+1)<=100000000000000:=⟨VP o_ o_,by have:=Vs (show r+1<=10000000 by omega) (show r+1<=10000000 by omega) o_ o_;omega⟩
    have J:0<=r*r/\r*r<=100000000000000:=⟨VP h0 h0,by have:=Vs h1 h1 h0 o_;omega⟩
    exact Kr
def yH{n}(h:n<0):cl n=false:=by
 have e:aq n=0:=by unfold aq;rw[show n.toNat=0 by omega];rfl
 unfold cl;rw[e];simp;omega
def xb(n:Int)(hn:-4000000000000<=n/\n<=4000000000000)(w):
 Rw 148 #[n] w (.tuple #[.int .i64 (if cl n then aq n else 0),.bool (cl n)]):=by
 by_cases h:0<=n
 .exact NJ n ⟨h,hn.2⟩ w
 .have h0:n<0:=o_;rw[yH h0];go_enter func148,ntmps148;exact vg
end
def Tryz.infoR:(prog.info? 22).map (λi=>(i.zero,i.size,i.bytes))=some (some (.slice none 0 0),1,24):=by kernel_rfl
def mz(w:World)(G:Nat)(v:Value)(L:List (Int×Int)):Prop:=
 ∃rows:List Value,w.ownsRow G 22 1 v L.length rows/\∀i (_:i<L.length),∃g,rows[i]?=some (.slice (some ⟨g,0,none⟩) 2 2)/\G<=g/\
  w.heap[g]?=some (.cells #[.int .i64 L[i].1,.int .i64 L[i].2] 3 (0,0))
def mz.nil(w)(G):mz w G (.slice none 0 0) []:=⟨[],XK _ _ _ _,λi hi=>by simp at hi⟩
def mz.form{w}{G}{v}{L:List (Int×Int)}(h:mz w G v L):
 ∃(a:ck) (F:Nat),v=.slice a L.length F/\∀i (_:i<L.length),∃g g',a=some ⟨g,0,none⟩/\w.cell? ⟨g,i,none⟩=some (.slice (some ⟨g',0,none⟩) 2 2)/\
  w.cell? g'=some (.int .i64 L[i].1)/\w.cell? ⟨g',1,none⟩=some (.int .i64 L[i].2)/\g<w.heap.size/\G<=g/\g'<w.heap.size/\G<=g':=by
 have⟨rows,Z,hr⟩:=h;rcases Z.2 with ⟨hv,hn⟩|⟨g,F,cur,hv,hg,hh,_,_,_,ht⟩
 .exact Af
 .refine⟨some ⟨g,0,none⟩,F,hv,λi hi=>?_⟩;have⟨g',h1,h2,h3⟩:=hr i hi;refine⟨g,g',rfl,?_,?_,?_,(Vz.1 hh).1,hg,(Vz.1 h3).1,h2⟩
  .have h4:(cur.toList.take (L.length*1))[i]?=cur.toList[i]?:=VU o_;rw[ht,h1] at h4;rw[WS] at h4;show (match w.heap[g]? with|some (.cells cs _ _)=>_|_=>_)=_;rw[hh];exact h4.symm
  .show (match w.heap[g']? with|some (.cells cs _ _)=>_|_=>_)=_;rw[h3];rfl
  .show (match w.heap[g']? with|some (.cells cs _ _)=>_|_=>_)=_;rw[h3];rfl
def Bq{ops}{rest}{o}{a}{Q}{wr}{p k:Int}(aa:o.guard=none)(s x)
 (Z:o.op=.call {callee:=.builtin .append,args:=#[s,x],argTypes:=#[263,263]})
 (G)(v)(L:List (Int×Int))(hs:a.eval s=v)(V:mz wr G v L)(hx:a.eval x=.slice (wr.heap.size+1:Nat) 1 1)
 (ae:L.length<1000000000000)(H:G<=wr.heap.size)
 (h:∀v' w1,mz w1 G v' (L++[(p,k)])->af G wr w1->wpList prog ops Q rest (a.put o.dst v') w1):
 wpList prog ops Q (o::rest) a ((wr.alloc (.cells #[p,k] 3)).alloc (.cells #[.slice wr 2 2] 22)):=by
 have⟨U,hi,bi,ac,ba⟩:=WL Tryz.infoR;have⟨rows,V,hr⟩:=V;have a3:rows.length=L.length:=by have:=V.1;omega
 refine Yo _ aa s x 263 Z G 22 U (.slice none 0 0) 1 24 underlying263 hi bi ac ba rfl d_ v L.length rows hs ((V.alloc _).alloc _) ⟨wr.heap.size+1,0,none⟩ 1 1 [.slice wr 2 2] hx rfl ?_ ?_ ?_ ?_ ?_ ?_
 .intro j u hj
  match j,hj with
  |0,hj=>
   simp at hj;subst hj;show ((wr.alloc (.cells #[p,k] 3)).alloc (.cells #[.slice wr 2 2] 22)).cell? ⟨wr.heap.size+1,0,none⟩=_;rw[World.cell?_alloc_at _ _ _ _ s_];rfl
 .intro u hu;simp at hu;subst hu;rfl
 .unfold maxLen;omega
 .omega
 .simp;omega
 .intro v' w1 J I _;refine h v' w1 ⟨_,by rw[VI];exact J,λi hi=>?_⟩ ?_
  .have K:∀g,g<wr.heap.size->some g≠v.ownBlock->w1.heap[g]?=wr.heap[g]?:=λg hg hne=>by
    rw[I.block g u_ hne,Zc _ _ _ u_,Zc _ _ _ hg]
   have hne:∀g,wr.heap[g]?≠none->(∀cs,wr.heap[g]?≠some (.cells cs 22 (0,0)))->some g≠v.ownBlock:=λg hg a4 e=>by
    rcases V.2 with ⟨hv,_⟩|⟨g1,F,cur,hv,_,hh,_⟩
    .rw[hv] at e;cases e
    .rw[hv] at e;have:g=g1:=by injection e
     rw[this] at a4;exact a4 _ hh
   by_cases aG:i<L.length
   .have⟨g,h1,h2,h3⟩:=hr i aG;refine⟨g,by rw[WR o_];exact h1,h2,?_⟩;rw[K g (Vz.1 h3).1 (hne g (by rw[h3];simp) (λcs e=>by rw[h3] at e;simp at e)),h3];rw[List.getElem_append_left aG]
   .have ad:i=L.length:=by simp at hi;omega
    subst ad;refine⟨wr,by rw[Wp o_,a3];simp,H,?_⟩;have ab:some wr.heap.size≠v.ownBlock:=λe=>by
     have:=(V.lt wr e.symm).2;omega
    rw[I.block wr u_ ab,Zc _ _ _ s_];show (wr.heap.push _)[wr.heap.size]?=_;simp
  .refine (((Vn G wr).alloc H _).alloc u_ _).grown I u_ (λk hk=>?_);exact (V.lt k hk).1
def ML{w:World}{g i}{cs}{t}{F:Nat×Nat}(h:w.heap[g]?=some (.cells cs t F))(u):(w.setCell ⟨g,i,none⟩ u).heap[g]?=some (.cells (cs.setIfInBounds i u) t F):=by
 simp [World.setCell,Array.getElem?_modify,h]
def pl{w:World}{G}{e}{size}{v}{n}{xs}{g F:Nat}(h:w.ownsRow G e size v n xs)(hv:v=.slice g n F)(j)(u):
 (w.setCell ⟨g,j,none⟩ u).ownsRow G e size v n (xs.set j u):=by
 refine⟨by simpa using h.1,?_⟩;rcases h.2 with ⟨h0,_⟩|⟨g',aX,cur,K,hg,hh,aL,ae,a4,ht⟩
 .rw[hv] at h0;simp at h0
 .rw[hv] at K;obtain⟨rfl,rfl⟩:g=g'/\F=aX:=by simpa using K
  refine .inr ⟨g,F,cur.setIfInBounds j u,hv,hg,ML hh u,aL,ae,by simpa using a4,?_⟩;rw[Array.toList_setIfInBounds,List.take_set,ht]
def G3(h:P:=by
 clear h5;go_wp2;go_round
 case rel=>exact⟨_,g',rfl,d1,o_,o_,by show _=_;rw[<-HY.out];exact HS⟩
 case measure=>exact aJ):=h
def IK(h:P:=by
 go_round
 case rel=>exact⟨k+1,o_,by go_num,by rw[HS.out]⟩
 case measure=>exact aJ):=h
def L0(h:P:=by
 go_wp2;go_loop [0,5] (λx n=>∃(b c:Int) (f:Nat),x=.int .i64 b/\n=.int .i64 c/\Hid (b≠0)/\(-1000000000000<=b/\b<=1000000000000)/\b.natAbs<=f/\0<=c/\c+b.natAbs<=1000000000000/\Hid (c+fb f b p=val a p)) (λx _=>(intOf x).natAbs)
 case atStart=>exact⟨a,0,a.natAbs,rfl,rfl,ha,hb,Vj _,o_,o_,by show _=_;rw[Int.zero_add];rfl⟩
 case round=>
  obtain⟨b,c,f,rfl,rfl,J,aL,hf,hc,aM,H⟩:=hrel;by_cases hz:b % p=0
  .obtain⟨e1,e2,e3,e4⟩:=P4 J.out G hz;obtain⟨K,rfl⟩:∃K,f=K+1:=⟨f - 1,by have:=J.out;omega⟩
   have H1:=h_ (yy K hz);have H3:=h_ e3;have hh:(b.tmod p==0)=true:=by simp [e1]
   clear e1 e3 hz;go_wp2;go_round
   case rel=>exact⟨b / p,c+1,K,rfl,rfl,H3.out,o_,o_,o_,o_,by show _=_;have:=H.out;rw[H1.out] at this;omega⟩
   case measure=>exact aJ
  .have hh:(b.tmod p==0)=false:=by simpa using Tw hz
   have H1:=h_ (uw f hz);clear hz;go_wp2;go_ret;refine⟨?_,rfl⟩;have:=H.out;rw[H1.out,WM] at this;rw[<-this];rfl):=h
def LS(h:P:=by
 obtain⟨d1,d2⟩:=Bu F hq h5;obtain⟨g',rfl⟩:∃g',g=g'+1:=⟨g - 1,o_⟩
 have HY:=h_ (xD g' h5);have aa:(y % p==0)=true:=by simp [h5]
 exact G3):=h
def F4(h:P:=by
 clear hv h4;go_wp2_with ((go_at_call 265;refine (tx _ _ Z.out o_ o_ _).mono ?_;rintro e w' ⟨rfl,rfl⟩))
 exact IK):=h
def GQ(h:P:=by
 go_wp2;go_ret;refine⟨_,rfl,?_,ba⟩;have:=H.out;rw[HF.out,V5] at this;rw[<-this];exact V):=h
def tx(a p:Int)(ha:a≠0)(hb:-1000000000000<=a/\a<=1000000000000)(G:2<=p)(w):
 Rw 265 #[a,p] w (val a p):=by
 go_enter func265,ntmps265;exact L0
def tq(a p:Int)(ha:a≠0)(hb:-1000000000000<=a/\a<=1000000000000)(G:2<=p)(w):
 Rw 232 #[a,p] w (val a p):=by
 go_enter func232,ntmps232;exact L0
def Fn{n y p}{K}(h1:1<n)(_hf:dI n p<=K+1)(e:y=ds n n):dI y (n+1)<=K/\dI y (n+1)<dI n p:=by
 rw[qH o_] at e;subst e;unfold dI;rw[Vo h1];simp
def tX{n y p}{K}(h1:1<n)(G:p<=n)(hf:dI n p<=K+1)(Z:y<=n):dI y (p+1)<=K/\dI y (p+1)<dI n p:=by
 unfold dI at *;rw[Vo h1] at *;split<;>omega
def O8(m:Int)(hb:-10000000000<=m/\m<=10000000000)(w):
 Kp 311 #[m] w λe w'=>∃v,e=.returned v/\ar w' w v (gP m.natAbs)/\af w w w':=by
 have hs:0<=m\/m<0:=o_;rcases hs with hs|hs
 all_goals
  go_enter func311,ntmps311;go_wp2;go_loopw [0,3,4] (λx v y wr=>∃(n p:Int) (xs:List Int) (f:Nat),x=.int .i64 n/\y=.int .i64 p/\ar wr w v xs/\af w w wr/\0<=n/\n<=10000000000/\2<=p/\p<=10000000001/\((xs.length:Int)+2<=p/\p<=100001\/n<=1/\xs.length<=100001)/\(dI n p<=f/\True)/\Hid (xs++fG f n p=gP m.natAbs)) (λx _ y _=>dI (intOf x) (intOf y))
  case atStart=>
   refine⟨_,2,[],2*m.natAbs,rfl,rfl,ar.nil _ _,Vn _ _,o_,o_,o_,o_,.inl ⟨s_,o_⟩,⟨?_,trivial⟩,?_⟩
   .unfold dI;split<;>omega
   .show _=_;rw[WP];unfold gP
    first|rw[show (m.natAbs:Int)=m by omega]|rw[show (m.natAbs:Int)=-m by omega]
    congr 1;omega
  case round=>
   obtain⟨n,p,xs,f,rfl,rfl,V,ba,cz,cc,a2,ax,ae,⟨hf,_⟩,H⟩:=hrel;have hz:=ba.size;by_cases h1:1<n
   .have U:(xs.length:Int)+2<=p/\p<=100001:=o_;have ad:0<=p*p/\p*p<=10000200001:=⟨VP o_ o_,by have:=Vs U.2 U.2 o_ o_;omega⟩
    obtain⟨K,rfl⟩:∃K,f=K+1:=⟨f - 1,by unfold dI at hf;rw[Vo h1] at hf;omega⟩
    by_cases h2:n<p*p
    .have HF:Hid (xs++fG (K+1) n p=(xs++[n])++fG K (ds n n) (n+1)):=by
      show _=_;rw[Oy K h1 h2,qH o_,BU _ o_,V5]
     have HB:∀y:Int,Hid (y=ds n n)->(((xs++[n]).length:Int)+2<=n+1/\n+1<=100001\/y<=1/\(xs++[n]).length<=100001):=λy hy=>.inr ⟨by rw[hy.out,qH o_];omega,u_⟩;have HM:∀y:Int,Hid (y=ds n n)->1<=y->y<=n->(dI y (n+1)<=K/\dI y (n+1)<dI n p):=λy hy _ _=>Fn h1 hf hy.out;have hh:(n % n==0)=true:=s_;have hq:2<=n:=o_;go_wp2_with (at_builtin;refine fY (y:=n) rfl _ _ rfl w _ _ rfl V rfl o_ hz ?_;intro v' w1 G I cM)
     have J:=ba.trans I;go_loop [0] (λx=>∃(y:Int) (g:Nat),x=.int .i64 y/\1<=y/\y<=n/\y.toNat<=g/\Hid (jw g y n=ds n n)) (λx=>(intOf x).toNat)
     case atStart=>exact⟨n,n.toNat,rfl,o_,o_,Vj _,rfl⟩
     case round=>
      obtain⟨y,g,rfl,F,Z,hg,HS⟩:=hrel;by_cases h5:y % n=0
      .have⟨d1,d2⟩:=Bu F hq h5;obtain⟨g',rfl⟩:∃g',g=g'+1:=⟨g - 1,o_⟩
       have HY:=h_ (xD g' h5);have aa:(y % n==0)=true:=by simp [h5]
       exact G3
      .have HN:=h_ (qL g h5);have aa:(y % n==0)=false:=by simp [h5]
       have HZ:Hid (y=ds n n):=HN.out.symm.trans HS;go_wp2;go_roundw
       case rel=>exact⟨y,n+1,xs++[n],K,rfl,rfl,G,J,o_,o_,o_,o_,HB y HZ,⟨(HM y HZ F Z).1,trivial⟩,by show _=_;rw[HZ.out,<-HF.out];exact H⟩
       case measure=>have:=HM y HZ F Z;simp [intOf];omega
    .have⟨b4,bp⟩:=EN a2 h2 cc;by_cases h3:n % p=0
     .have HF:Hid (xs++fG (K+1) n p=(xs++[p])++fG K (ds n p) (p+1)):=by
       show _=_;rw[Oh K h1 h2 h3];simp
      have HB:∀y:Int,Hid (y=ds n p)->(((xs++[p]).length:Int)+2<=p+1/\p+1<=100001\/y<=1/\(xs++[p]).length<=100001):=λy hy=>.inl ⟨u_,o_⟩;have HM:∀y:Int,Hid (y=ds n p)->1<=y->y<=n->(dI y (p+1)<=K/\dI y (p+1)<dI n p):=λy _ _ Z=>tX h1 bp hf Z;have hh:(n % p==0)=true:=by simp [h3]
      have hq:2<=p:=o_;go_wp2_with (at_builtin;refine fY (y:=p) rfl _ _ rfl w _ _ rfl V rfl o_ hz ?_;intro v' w1 G I cM)
      have J:=ba.trans I;go_loop [0] (λx=>∃(y:Int) (g:Nat),x=.int .i64 y/\1<=y/\y<=n/\y.toNat<=g/\Hid (jw g y p=ds n p)) (λx=>(intOf x).toNat)
      case atStart=>exact⟨n,n.toNat,rfl,o_,o_,Vj _,rfl⟩
      case round=>
       obtain⟨y,g,rfl,F,Z,hg,HS⟩:=hrel;by_cases h5:y % p=0
       .exact LS
       .have HN:=h_ (qL g h5);have aa:(y % p==0)=false:=by simp [h5]
        have HZ:Hid (y=ds n p):=HN.out.symm.trans HS;go_wp2;go_roundw
        case rel=>exact⟨y,p+1,xs++[p],K,rfl,rfl,G,J,o_,o_,o_,o_,HB y HZ,⟨(HM y HZ F Z).1,trivial⟩,by show _=_;rw[HZ.out,<-HF.out];exact H⟩
        case measure=>have:=HM y HZ F Z;simp [intOf];omega
     .have HF:Hid (xs++fG (K+1) n p=xs++fG K (ds n p) (p+1)):=by
       show _=_;rw[OY K h1 h2 h3];unfold ds;rw[qL _ h3]
      have HB:∀y:Int,Hid (y=ds n p)->((xs.length:Int)+2<=p+1/\p+1<=100001\/y<=1/\xs.length<=100001):=λy hy=>.inl ⟨o_,o_⟩;have HM:∀y:Int,Hid (y=ds n p)->1<=y->y<=n->(dI y (p+1)<=K/\dI y (p+1)<dI n p):=λy _ _ Z=>tX h1 bp hf Z;have hh:(n % p==0)=false:=by simp [h3]
      have hq:2<=p:=o_;have G:=V;have J:=ba;go_wp2;go_loop [0] (λx=>∃(y:Int) (g:Nat),x=.int .i64 y/\1<=y/\y<=n/\y.toNat<=g/\Hid (jw g y p=ds n p)) (λx=>(intOf x).toNat)
      case atStart=>exact⟨n,n.toNat,rfl,o_,o_,Vj _,rfl⟩
      case round=>
       obtain⟨y,g,rfl,F,Z,hg,HS⟩:=hrel;by_cases h5:y % p=0
       .exact LS
       .have HN:=h_ (qL g h5);have aa:(y % p==0)=false:=by simp [h5]
        have HZ:Hid (y=ds n p):=HN.out.symm.trans HS;go_wp2;go_roundw
        case rel=>exact⟨y,p+1,xs,K,rfl,rfl,G,J,o_,o_,o_,o_,HB y HZ,⟨(HM y HZ F Z).1,trivial⟩,by show _=_;rw[HZ.out,<-HF.out];exact H⟩
        case measure=>have:=HM y HZ F Z;simp [intOf];omega
   .have HF:=h_ (BU f (p:=p) (show n<=1 by omega));exact GQ
def Nz(n:Int)(hn:n≠0)(hb:-31<=n/\n<=31)(w):
 Rv 272 #[n] w (td n):=by
 have Z:=h_ hn;have⟨ab,a2,G⟩:=OF hb.1 hb.2;have J:=h_ a2;have I:=h_ G;have hs:0<=n\/n<0:=o_;rcases hs with hs|hs
 all_goals
  go_enter func272,ntmps272;go_wp2_with fail
  refine (O8 n o_ _).mono ?_;rintro e w1 ⟨v,rfl,V,ba⟩;obtain⟨a,F,rfl,H⟩:=V.form;have U:=h_ H;generalize hL:gP n.natAbs=L at *;have HL:=h_ hL;go_wp2;go_loop [3,11] (λo i=>∃k:Nat,k<=L.length/\i=.int .i64 k/\o=.int .i64 (jE n (L.take k) (mN n))) (λ_ i=>L.length - (intOf i).toNat)
  case atStart=>exact⟨0,VH _,rfl,by simp [jE,mN,hs]<;>omega⟩
  case round=>
   obtain⟨k,hk,rfl,rfl⟩:=hrel;by_cases aG:k<L.length
   .obtain⟨g,rfl,K,_⟩:=U.out k aG;have h2:=J.out k aG;have h4:=I.out (k+1) o_;have HS:=h_ (QE (n:=n) L (mN n) aG);generalize hx:L[k]?.getD 0=x at K h2 HS;have HX:=h_ hx;by_cases hv:val n x % 2=1
    .have hh:(val n x % 2==1)=true:=by simp [hv]
     have h0:0<=val n x:=nH _ _ _;rw[Vo hv] at HS;have h5:-31<=jE n (L.take k) (mN n)*x/\jE n (L.take k) (mN n)*x<=31:=by rw[<-HS.out];exact h4
     exact F4
    .have hh:(val n x % 2==1)=false:=by simp [hv]
     have h0:0<=val n x:=nH _ _ _;rw[Vm hv] at HS;exact F4
   .go_wp2;go_ret;refine⟨?_,ba⟩;have:L.take k=L:=VO o_;rw[this,<-HL.out];rfl
def rV(h:P:=by
 exact sJ):=h
def Aw(h:P:=by
 go_enter func225,ntmps225;exact rV):=h
def wB(a b:Int):Int:=if b<a then a else b
def qc(a:Int):Int:=if 0<a then 1 else if a<0 then -1 else 0
def Ry(a):wB a (-a)=a.natAbs:=by unfold wB;split<;>omega
def Sg(a b:Int)(w):
 Rw 172 #[a,b] w (wB a b):=by
 unfold wB;exact I6
def lK(a:Int)(ha:iZ a)(w):
 Rw 113 #[a] w a.natAbs:=by
 go_enter func113,ntmps113;go_wp2_with ((go_at_call 172;refine aA (Sg _ _ _) ?_))
 go_ret;exact⟨by rw[<-(h_ (Ry a)).out];rfl,rfl⟩
def yb(a:Int)(w):
 Rw 225 #[a] w (qc a):=by
 unfold qc;by_cases h:0<a
 .rw[Vo h];exact Aw
 .rw[Vm h];by_cases h2:a<0
  .rw[Vo h2];exact Aw
  .rw[Vm h2];exact Aw
def Gf(h:P:=by
 unfold be at hC;simp only[VB] at hC;exact⟨bO hC.1.1,bO hC.1.2⟩):=h
def qb(h:P:=by
 exact⟨rfl,ag I J.size J⟩):=h
def Jz(h:P:=by
 clear hv h4;go_wp2;exact IK):=h
def Os(m:Int)(hb:0<=m/\m<=10000000000)(w):
 Kp 327 #[m] w λe w'=>∃v,e=.returned v/\mz w' w v (gh m)/\af w w w':=by
 go_enter func327,ntmps327;go_wp2;go_loopw [0,3,4] (λx v y wr=>∃(n p:Int) (xs:List (Int×Int)) (f:Nat),x=.int .i64 n/\y=.int .i64 p/\mz wr w v xs/\af w w wr/\0<=n/\n<=10000000000/\2<=p/\p<=10000000001/\((xs.length:Int)+2<=p/\p<=100001\/n<=1/\xs.length<=100001)/\(dI n p<=f/\True)/\Hid (xs++gi f n p=gh m)) (λx _ y _=>dI (intOf x) (intOf y))
 case atStart=>
  refine⟨_,2,[],2*m.toNat,rfl,rfl,mz.nil _ _,Vn _ _,o_,o_,o_,o_,.inl ⟨s_,o_⟩,⟨?_,trivial⟩,?_⟩
  .unfold dI;split<;>omega
  .show _=_;rw[WP];rfl
 case round=>
  obtain⟨n,p,xs,f,rfl,rfl,V,ba,cz,cc,a2,ax,ae,⟨hf,_⟩,H⟩:=hrel;have hz:=ba.size;by_cases h1:1<n
  .have U:(xs.length:Int)+2<=p/\p<=100001:=o_;have ad:0<=p*p/\p*p<=10000200001:=⟨VP o_ o_,by have:=Vs U.2 U.2 o_ o_;omega⟩
   obtain⟨K,rfl⟩:∃K,f=K+1:=⟨f - 1,by unfold dI at hf;rw[Vo h1] at hf;omega⟩
   by_cases h2:n<p*p
   .have HF:Hid (xs++gi (K+1) n p=(xs++[(n,val n n)])++gi K (ds n n) (n+1)):=by
     show _=_;rw[Qw K h1 h2,qH o_,CJ _ o_,V5]
    have HB:∀y:Int,Hid (y=ds n n)->(((xs++[(n,val n n)]).length:Int)+2<=n+1/\n+1<=100001\/y<=1/\(xs++[(n,val n n)]).length<=100001):=λy hy=>.inr ⟨by rw[hy.out,qH o_];omega,u_⟩;have HM:∀y:Int,Hid (y=ds n n)->y<=n->(dI y (n+1)<=K/\dI y (n+1)<dI n p):=λy hy _=>Fn h1 hf hy.out;have ab:=E0 (q:=n) (show 1<=n by omega) Int.emod_self;have ac:0<=val n n:=o_;have aF:val n n<=n.natAbs:=yF _ _ _;have hq:2<=n:=o_;go_wp2_with (first|(at_builtin;refine Bq (p:=n) (k:=val n n) rfl _ _ rfl w _ _ rfl V rfl o_ hz ?_;intro v' w1 G I)|(go_at_call 232;refine (tq _ _ o_ o_ o_ _).mono ?_;rintro e w' ⟨rfl,rfl⟩))
    have J:=ba.trans I;go_loop [0,5] (λx j=>∃(y:Int) (i:Nat),x=.int .i64 y/\j=.int .i64 (i:Int)/\0<=y/\y<=n/\(i:Int)<=10000000000/\Hid (oF i y n=ds n n)) (λ_ j=>(intOf j).toNat)
    case atStart=>exact⟨n,(val n n).toNat,rfl,by rw[Int.toNat_of_nonneg ac],o_,o_,o_,Cq o_⟩
    case round=>
     obtain⟨y,i,rfl,rfl,F,Z,hi,HS⟩:=hrel;by_cases h5:0<i
     .obtain⟨i',rfl⟩:∃i',i=i'+1:=⟨i - 1,o_⟩
      have d1:0<=y / n:=Xh F o_;have d2:y / n<=n:=Int.le_trans (WZ _ F) Z;go_wp2;go_round
      case rel=>exact⟨y / n,i',rfl,by go_num,d1,d2,o_,HS⟩
      case measure=>simp [intOf]
     .have aM:i=0:=o_;subst aM;have HZ:Hid (y=ds n n):=HS;go_wp2;go_roundw
      case rel=>exact⟨y,n+1,xs++[(n,val n n)],K,rfl,rfl,G,J,o_,o_,o_,o_,HB y HZ,⟨(HM y HZ Z).1,trivial⟩,by show _=_;rw[HZ.out,<-HF.out];exact H⟩
      case measure=>have:=HM y HZ Z;simp [intOf];omega
   .have⟨b4,bp⟩:=EN a2 h2 cc;by_cases h3:n % p=0
    .have HF:Hid (xs++gi (K+1) n p=(xs++[(p,val n p)])++gi K (ds n p) (p+1)):=by
      show _=_;rw[PB K h1 h2 h3];simp
     have HB:∀y:Int,Hid (y=ds n p)->(((xs++[(p,val n p)]).length:Int)+2<=p+1/\p+1<=100001\/y<=1/\(xs++[(p,val n p)]).length<=100001):=λy hy=>.inl ⟨u_,o_⟩;have HM:∀y:Int,Hid (y=ds n p)->y<=n->(dI y (p+1)<=K/\dI y (p+1)<dI n p):=λy _ Z=>tX h1 bp hf Z;have ab:=E0 (show 1<=n by omega) h3;have ac:0<=val n p:=o_;have aF:val n p<=n.natAbs:=yF _ _ _;have hq:2<=p:=o_;go_wp2_with (first|(at_builtin;refine Bq (p:=p) (k:=val n p) rfl _ _ rfl w _ _ rfl V rfl o_ hz ?_;intro v' w1 G I)|(go_at_call 232;refine (tq _ _ o_ o_ o_ _).mono ?_;rintro e w' ⟨rfl,rfl⟩))
     have J:=ba.trans I;go_loop [0,5] (λx j=>∃(y:Int) (i:Nat),x=.int .i64 y/\j=.int .i64 (i:Int)/\0<=y/\y<=n/\(i:Int)<=10000000000/\Hid (oF i y p=ds n p)) (λ_ j=>(intOf j).toNat)
     case atStart=>exact⟨n,(val n p).toNat,rfl,by rw[Int.toNat_of_nonneg ac],o_,o_,o_,Cq o_⟩
     case round=>
      obtain⟨y,i,rfl,rfl,F,Z,hi,HS⟩:=hrel;by_cases h5:0<i
      .obtain⟨i',rfl⟩:∃i',i=i'+1:=⟨i - 1,o_⟩
       have d1:0<=y / p:=Xh F o_;have d2:y / p<=n:=Int.le_trans (WZ _ F) Z;go_wp2;go_round
       case rel=>exact⟨y / p,i',rfl,by go_num,d1,d2,o_,HS⟩
       case measure=>simp [intOf]
      .have aM:i=0:=o_;subst aM;have HZ:Hid (y=ds n p):=HS;go_wp2;go_roundw
       case rel=>exact⟨y,p+1,xs++[(p,val n p)],K,rfl,rfl,G,J,o_,o_,o_,o_,HB y HZ,⟨(HM y HZ Z).1,trivial⟩,by show _=_;rw[HZ.out,<-HF.out];exact H⟩
       case measure=>have:=HM y HZ Z;simp [intOf];omega
    .have HF:=h_ (QO K h1 h2 h3);have hv:=RQ h3;have HM:=tX h1 bp hf (Int.le_refl n);go_wp2_with (first|(go_at_call 232;refine (tq _ _ o_ o_ o_ _).mono ?_;rintro e w' ⟨rfl,rfl⟩))
     go_roundw
     case rel=>exact⟨n,p+1,xs,K,rfl,rfl,V,ba,o_,o_,o_,o_,.inl ⟨o_,o_⟩,⟨HM.1,trivial⟩,by show _=_;rw[<-HF.out];exact H⟩
     case measure=>exact aJ
  .have HF:=h_ (CJ f (p:=p) (show n<=1 by omega));exact GQ
def PD(n:Int)(hb:1<=n/\n<=31)(w):
 Rv 291 #[n] w (th n):=by
 have⟨ab,a2,G⟩:=Qv (n:=n) o_ o_;rw[Vo o_] at G;have J:=h_ a2;have I:=h_ G;have Z:Hid (th n=ja (gh n.natAbs) 1):=by show _=_;unfold th;rw[Vo o_]
 have Hs:Hid (qc n=1):=by show _=_;unfold qc;rw[Vo o_]
 go_enter func291,ntmps291;go_wp2_with ((go_at_call 225;refine aA (yb _ _) ?_))
 have aa:=Hs.out;rw[aa];go_wp2_with ((go_at_call 113;refine (lK _ o_ _).mono ?_;rintro e w' ⟨rfl,rfl⟩))
 refine (Os _ o_ _).mono ?_;rintro e w1 ⟨v,rfl,V,ba⟩;obtain⟨a,F,rfl,H⟩:=V.form;have U:=h_ H;generalize hL:gh n.natAbs=L at *;go_wp2;go_loop [3,12] (λo i=>∃k:Nat,k<=L.length/\i=.int .i64 k/\o=.int .i64 (ja (L.take k) 1)) (λ_ i=>L.length - (intOf i).toNat)
 case atStart=>exact⟨0,VH _,rfl,by simp [ja]⟩
 case round=>
  obtain⟨k,hk,rfl,rfl⟩:=hrel;by_cases aG:k<L.length
  .obtain⟨g,g',rfl,K,ad,aZ,_⟩:=U.out k aG;have h2:=J.out k aG;have h4:=I.out (k+1) o_;have HS:=h_ (Qi L 1 aG);generalize hx:L[k].1=x at ad h2 HS;generalize hy:L[k].2=y at aZ h2 HS;have HX:=h_ hx;have HY:=h_ hy;by_cases hv:y % 2=1
   .have hh:(y % 2==1)=true:=by simp [hv]
    rw[Vo hv] at HS;have h5:-31<=ja (L.take k) 1*x/\ja (L.take k) 1*x<=31:=by rw[<-HS.out];exact h4
    exact Jz
   .have hh:(y % 2==1)=false:=by simp [hv]
    rw[Vm hv] at HS;exact Jz
  .go_wp2;go_ret;refine⟨?_,ba⟩;have:L.take k=L:=VO o_;rw[this,Z.out];rfl
noncomputable def jz(n:Int):Bool:=aw n 1 31&&qi n
def DE(n:Int)(w):
 Rv 241 #[n] w (.bool (jz n)):=by
 unfold jz;cases h1:aw n 1 31
 .go_enter func241,ntmps241;go_wp2_with ((go_at_call 104;refine aA (cK _ _ _ _) ?_))
  exact sK
 .have hb:=bO h1;have HS:=h_ (Fl (show n≠0 by omega) (show -31<=n by omega) o_);go_enter func241,ntmps241;go_wp2_with (first|(go_at_call 104;refine aA (cK _ _ _ _) ?_)|(go_at_call 291;refine aj (PD _ hb _) λw1 I=>?_))
  go_ret;exact⟨by rw[<-HS.out,<-(h_ (Ux (show n≠0 by omega) (show -31<=n by omega) o_)).out];rfl,I⟩
def ua(n:Int)(w):
 Rv 217 #[n] w (.bool (jz n)):=by
 unfold jz;cases h1:aw n 1 31
 .go_enter func217,ntmps217;exact ID
 .have hb:=bO h1;go_enter func217,ntmps217;go_wp2_with (first|(go_at_call 63;refine aA (dh _ _ _ _) ?_)|(go_at_call 272;refine (Nz _ o_ o_ _).mono ?_;rintro e w1 ⟨rfl,I⟩))
  go_ret;exact⟨by rw[<-(h_ (Fl (show n≠0 by omega) (show -31<=n by omega) o_)).out];rfl,I⟩
def rs(o:Bool)(A:Int):Int:=if o then A else 0
def fs{A B}(h:be A B=true):(-1000<=A/\A<=1000)/\(-10000<=B/\B<=10000):=by
 unfold be at h;simp at h;exact⟨bO h.1.1,bO h.1.2⟩
def F2(h:P:=by
 obtain rfl:j=13:=o_
 go_wp2;go_round
 case rel=>exact⟨_,_,_,⟨k+1,o_,rfl,rfl,rfl⟩,by rw[ac.out],by rw[V.out],by go_num⟩
 case measure=>exact aJ):=h
def Gl(h:P:=by
 obtain rfl:i=13:=o_
 go_wp2;go_round
 case rel=>exact⟨j+1,o_,by rw[ad.out];go_num,by rw[ab.out];go_num,by go_num⟩
 case measure=>exact aJ):=h
def Gq(h:P:=by
 clear I G J g;go_wp2;go_round
 case rel=>exact⟨i+1,o_,by rw[H.out];go_num,by rw[F.out];go_num,by go_num⟩
 case measure=>exact aJ):=h
def IZ(h:P:=by
 go_enter func242,ntmps242;go_wp2_with ((go_at_call 292;refine (Q5 _ _ _ o_ o_ _).mono ?_;rintro e w' ⟨rfl,rfl⟩))
 go_ret2;exact⟨rfl,rfl⟩):=h
def Iu(h:P:=by
 clear I G J g;go_wp2;go_round
 case rel=>exact⟨i+1,o_,by rw[H.out],by rw[F.out];go_num,by go_num⟩
 case measure=>exact aJ):=h
def It(h:P:=by
 clear I G J g;go_wp2;go_round
 case rel=>exact⟨i+1,o_,by rw[H.out];go_num,by rw[F.out],by go_num⟩
 case measure=>exact aJ):=h
def Hj(h:P:=by
 clear I G J g;go_wp2;go_round
 case rel=>exact⟨i+1,o_,by rw[H.out],by rw[F.out],by go_num⟩
 case measure=>exact aJ):=h
def gl(f:Int->Int):Nat->Int
 |0=>0
 |k+1=>gl f k+f ((k:Int) - 6)
theorem uy(f:Int->Int)(B)(hf:∀x,0<=f x/\f x<=B):∀k:Nat,0<=gl f k/\gl f k<=k*B
 |0=>by simp [gl]
 |k+1=>by
  have:=uy f B hf k;have h2:=hf ((k) - 6);rw[show ((k+1:Nat):Int)*B=k*B+B by rw[Int.natCast_succ,YJ,XA]];unfold gl;omega
def ew(a b n x y z:Int):Int:=if a*x*x+y*y+b*z*z=n then 1 else 0
def bD(a b n x y:Int)(k:Nat):Int:=gl (ew a b n x y) k
def dF(a b n x:Int)(k:Nat):Int:=gl (λy=>bD a b n x y 13) k
def ek(a b n:Int)(k:Nat):Int:=gl (λx=>dF a b n x 13) k
def kb(a b n:Int):Int:=ek a b n 13
def S0(a b n x y z):0<=ew a b n x y z/\ew a b n x y z<=1:=by unfold ew;split<;>omega
def pq(a b n x y)(k):0<=bD a b n x y k/\bD a b n x y k<=k:=by have:=uy _ 1 (S0 a b n x y) k;unfold bD;omega
def pw(a b n x)(k):0<=dF a b n x k/\dF a b n x k<=k*13:=uy _ 13 (λy=>by have:=pq a b n x y 13;omega) k
def pu(a b n)(k):0<=ek a b n k/\ek a b n k<=k*169:=uy _ 169 (λy=>by have:=pw a b n y 13;omega) k
def tY(a b n):0<=kb a b n/\kb a b n<=2197:=by have:=pu a b n 13;unfold kb;omega
def ri{a b x y z}(ha:0<=a/\a<=4)(hb:0<=b/\b<=32)(hx:-6<=x/\x<=6)(hy:-6<=y/\y<=6)(hz:-6<=z/\z<=6):
 (-24<=a*x/\a*x<=24)/\(-144<=a*x*x/\a*x*x<=144)/\(-36<=y*y/\y*y<=36)/\(-192<=b*z/\b*z<=192)/\(-1152<=b*z*z/\b*z*z<=1152):=by
 have h1:=aN (x:=a) (y:=x) 4 6 o_ hx;have h2:=aN (x:=a*x) (y:=x) 24 6 o_ hx;have h3:=aN (x:=y) (y:=y) 6 6 hy hy;have h4:=aN (x:=b) (y:=z) 32 6 o_ hz;have h5:=aN (x:=b*z) (y:=z) 192 6 o_ hz;omega
def Q5(a b n:Int)(ha:0<=a/\a<=4)(hb:0<=b/\b<=32)(w):
 Rw 292 #[a,b,n] w (kb a b n):=by
 go_enter func292,ntmps292;go_wp2;go_loop [7,8] (λc x=>∃k:Nat,k<=13/\c=.int .i64 (ek a b n k)/\x=.int .i64 ((k:Int) - 6)) (λ_ x=>(7 - intOf x).toNat)
 case atStart=>exact⟨0,o_,rfl,rfl⟩
 case round=>
  obtain⟨k,hk,rfl,rfl⟩:=hrel;have bX:=pu a b n k;by_cases aG:k<13
  .have HX:Hid (ek a b n (k+1)=ek a b n k+dF a b n ((k:Int) - 6) 13):=rfl;generalize hx:(k:Int) - 6=x at *;go_wp2;go_loop [7,9] (λc y=>∃j:Nat,j<=13/\c=.int .i64 (ek a b n k+dF a b n x j)/\y=.int .i64 ((j:Int) - 6)) (λ_ y=>(7 - intOf y).toNat)
   case atStart=>exact⟨0,o_,by simp [dF,gl],rfl⟩
   case round=>
    obtain⟨j,hj,rfl,rfl⟩:=hrel;have bY:=pw a b n x j;by_cases K:j<13
    .have HY:Hid (dF a b n x (j+1)=dF a b n x j+bD a b n x ((j:Int) - 6) 13):=rfl;generalize hy:(j:Int) - 6=y at *;go_wp2;go_loop [7,10] (λc z=>∃i:Nat,i<=13/\c=.int .i64 (ek a b n k+dF a b n x j+bD a b n x y i)/\z=.int .i64 ((i:Int) - 6)) (λ_ z=>(7 - intOf z).toNat)
     case atStart=>exact⟨0,o_,by simp [bD,gl],rfl⟩
     case round=>
      obtain⟨i,hi,rfl,rfl⟩:=hrel;have bZ:=pq a b n x y i;by_cases aa:i<13
      .have HZ:Hid (bD a b n x y (i+1)=bD a b n x y i+ew a b n x y ((i:Int) - 6)):=rfl;generalize hz:(i:Int) - 6=z at *;have⟨f1,f2,f3,f4,f5⟩:=ri (x:=x) (y:=y) (z:=z) ha hb o_ o_ o_;by_cases ht:a*x*x+y*y+b*z*z=n
       .have g:Hid (bD a b n x y (i+1)=bD a b n x y i+1):=by show _=_;rw[HZ.out];unfold ew;rw[Vo ht]
        have hh:(a*x*x+y*y+b*z*z==n)=true:=by simpa using ht
        go_wp2;go_round
        case rel=>exact⟨i+1,o_,by rw[g.out];go_num,by go_num⟩
        case measure=>exact aJ
       .have g:Hid (bD a b n x y (i+1)=bD a b n x y i):=by show _=_;rw[HZ.out];unfold ew;rw[Vm ht,WM]
        have hh:(a*x*x+y*y+b*z*z==n)=false:=by simpa using ht
        go_wp2;go_round
        case rel=>exact⟨i+1,o_,by rw[g.out],by go_num⟩
        case measure=>exact aJ
      .obtain rfl:i=13:=o_
       go_wp2;go_round
       case rel=>exact⟨j+1,o_,by rw[HY.out];go_num,by go_num⟩
       case measure=>exact aJ
    .obtain rfl:j=13:=o_
     go_wp2;go_round
     case rel=>exact⟨k+1,o_,by rw[HX.out],by go_num⟩
     case measure=>exact aJ
  .obtain rfl:k=13:=o_
   exact rV
def MI(n:Int)(hn:1<=n/\n<=31)(Z:n % 2=1)(w):
 Rw 218 #[n] w (.tuple #[kb 2 8 n,kb 2 32 n]):=by
 go_enter func218,ntmps218;go_wp2;go_loop [5,6,7] (λc d x=>∃k:Nat,k<=13/\c=.int .i64 (ek 2 8 n k)/\d=.int .i64 (ek 2 32 n k)/\x=.int .i64 ((k:Int) - 6)) (λ_ _ x=>(7 - intOf x).toNat)
 case atStart=>exact⟨0,o_,rfl,rfl,rfl⟩
 case round=>
  obtain⟨k,hk,rfl,rfl,rfl⟩:=hrel;have bX:=pu 2 8 n k;have ax:=pu 2 32 n k;by_cases aG:k<13
  .have ac:Hid (ek 2 8 n (k+1)=ek 2 8 n k+dF 2 8 n ((k:Int) - 6) 13):=rfl;have V:Hid (ek 2 32 n (k+1)=ek 2 32 n k+dF 2 32 n ((k:Int) - 6) 13):=rfl;generalize hx:(k:Int) - 6=x at *;go_wp2;go_loop [5,6,8] (λc d y=>∃j:Nat,j<=13/\c=.int .i64 (ek 2 8 n k+dF 2 8 n x j)/\d=.int .i64 (ek 2 32 n k+dF 2 32 n x j)/\y=.int .i64 ((j:Int) - 6)) (λ_ _ y=>(7 - intOf y).toNat)
   case atStart=>exact⟨0,o_,by simp [dF,gl],by simp [dF,gl],rfl⟩
   case round=>
    obtain⟨j,hj,rfl,rfl,rfl⟩:=hrel;have bY:=pw 2 8 n x j;have ae:=pw 2 32 n x j;by_cases K:j<13
    .have ad:Hid (dF 2 8 n x (j+1)=dF 2 8 n x j+bD 2 8 n x ((j:Int) - 6) 13):=rfl;have ab:Hid (dF 2 32 n x (j+1)=dF 2 32 n x j+bD 2 32 n x ((j:Int) - 6) 13):=rfl;generalize hy:(j:Int) - 6=y at *;go_wp2;go_loop [5,6,9] (λc d z=>∃i:Nat,i<=13/\c=.int .i64 (ek 2 8 n k+dF 2 8 n x j+bD 2 8 n x y i)/\d=.int .i64 (ek 2 32 n k+dF 2 32 n x j+bD 2 32 n x y i)/\z=.int .i64 ((i:Int) - 6)) (λ_ _ z=>(7 - intOf z).toNat)
     case atStart=>exact⟨0,o_,by simp [bD,gl],by simp [bD,gl],rfl⟩
     case round=>
      obtain⟨i,hi,rfl,rfl,rfl⟩:=hrel;have bZ:=pq 2 8 n x y i;have az:=pq 2 32 n x y i;by_cases aa:i<13
      .have I:Hid (bD 2 8 n x y (i+1)=bD 2 8 n x y i+ew 2 8 n x y ((i:Int) - 6)):=rfl;have G:Hid (bD 2 32 n x y (i+1)=bD 2 32 n x y i+ew 2 32 n x y ((i:Int) - 6)):=rfl;generalize hz:(i:Int) - 6=z at *;have⟨_,f2,f3,_,f5⟩:=ri (a:=2) (b:=8) (x:=x) (y:=y) (z:=z) o_ o_ o_ o_ o_;have⟨_,_,_,_,f7⟩:=ri (a:=2) (b:=32) (x:=x) (y:=y) (z:=z) o_ o_ o_ o_ o_;by_cases J:2*x*x+y*y+8*z*z=n
       .by_cases g:2*x*x+y*y+32*z*z=n
        .have H:Hid (bD 2 8 n x y (i+1)=bD 2 8 n x y i+1):=by show _=_;rw[I.out];unfold ew;rw[Vo J]
         have h8:(2*x*x+y*y+8*z*z==n)=true:=by simpa using J
         have F:Hid (bD 2 32 n x y (i+1)=bD 2 32 n x y i+1):=by show _=_;rw[G.out];unfold ew;rw[Vo g]
         have U:(2*x*x+y*y+32*z*z==n)=true:=by simpa using g
         exact Gq
        .have H:Hid (bD 2 8 n x y (i+1)=bD 2 8 n x y i+1):=by show _=_;rw[I.out];unfold ew;rw[Vo J]
         have h8:(2*x*x+y*y+8*z*z==n)=true:=by simpa using J
         have F:Hid (bD 2 32 n x y (i+1)=bD 2 32 n x y i):=by show _=_;rw[G.out];unfold ew;rw[Vm g,WM]
         have U:(2*x*x+y*y+32*z*z==n)=false:=by simpa using g
         exact It
       .by_cases g:2*x*x+y*y+32*z*z=n
        .have H:Hid (bD 2 8 n x y (i+1)=bD 2 8 n x y i):=by show _=_;rw[I.out];unfold ew;rw[Vm J,WM]
         have h8:(2*x*x+y*y+8*z*z==n)=false:=by simpa using J
         have F:Hid (bD 2 32 n x y (i+1)=bD 2 32 n x y i+1):=by show _=_;rw[G.out];unfold ew;rw[Vo g]
         have U:(2*x*x+y*y+32*z*z==n)=true:=by simpa using g
         exact Iu
        .have H:Hid (bD 2 8 n x y (i+1)=bD 2 8 n x y i):=by show _=_;rw[I.out];unfold ew;rw[Vm J,WM]
         have h8:(2*x*x+y*y+8*z*z==n)=false:=by simpa using J
         have F:Hid (bD 2 32 n x y (i+1)=bD 2 32 n x y i):=by show _=_;rw[G.out];unfold ew;rw[Vm g,WM]
         have U:(2*x*x+y*y+32*z*z==n)=false:=by simpa using g
         exact Hj
      .exact Gl
    .exact F2
  .obtain rfl:k=13:=o_
   exact vg
def MD(N n:Int)(hN:1<=N/\N<=31)(he:N % 2=0)(hn:N / 2=n)(w):
 Rw 218 #[N] w (.tuple #[kb 4 8 n,kb 4 32 n]):=by
 go_enter func218,ntmps218;go_wp2;go_loop [5,6,7] (λc d x=>∃k:Nat,k<=13/\c=.int .i64 (ek 4 8 n k)/\d=.int .i64 (ek 4 32 n k)/\x=.int .i64 ((k:Int) - 6)) (λ_ _ x=>(7 - intOf x).toNat)
 case atStart=>exact⟨0,o_,rfl,rfl,rfl⟩
 case round=>
  obtain⟨k,hk,rfl,rfl,rfl⟩:=hrel;have bX:=pu 4 8 n k;have ax:=pu 4 32 n k;by_cases aG:k<13
  .have ac:Hid (ek 4 8 n (k+1)=ek 4 8 n k+dF 4 8 n ((k:Int) - 6) 13):=rfl;have V:Hid (ek 4 32 n (k+1)=ek 4 32 n k+dF 4 32 n ((k:Int) - 6) 13):=rfl;generalize hx:(k:Int) - 6=x at *;go_wp2;go_loop [5,6,8] (λc d y=>∃j:Nat,j<=13/\c=.int .i64 (ek 4 8 n k+dF 4 8 n x j)/\d=.int .i64 (ek 4 32 n k+dF 4 32 n x j)/\y=.int .i64 ((j:Int) - 6)) (λ_ _ y=>(7 - intOf y).toNat)
   case atStart=>exact⟨0,o_,by simp [dF,gl],by simp [dF,gl],rfl⟩
   case round=>
    obtain⟨j,hj,rfl,rfl,rfl⟩:=hrel;have bY:=pw 4 8 n x j;have ae:=pw 4 32 n x j;by_cases K:j<13
    .have ad:Hid (dF 4 8 n x (j+1)=dF 4 8 n x j+bD 4 8 n x ((j:Int) - 6) 13):=rfl;have ab:Hid (dF 4 32 n x (j+1)=dF 4 32 n x j+bD 4 32 n x ((j:Int) - 6) 13):=rfl;generalize hy:(j:Int) - 6=y at *;go_wp2;go_loop [5,6,9] (λc d z=>∃i:Nat,i<=13/\c=.int .i64 (ek 4 8 n k+dF 4 8 n x j+bD 4 8 n x y i)/\d=.int .i64 (ek 4 32 n k+dF 4 32 n x j+bD 4 32 n x y i)/\z=.int .i64 ((i:Int) - 6)) (λ_ _ z=>(7 - intOf z).toNat)
     case atStart=>exact⟨0,o_,by simp [bD,gl],by simp [bD,gl],rfl⟩
     case round=>
      obtain⟨i,hi,rfl,rfl,rfl⟩:=hrel;have bZ:=pq 4 8 n x y i;have az:=pq 4 32 n x y i;by_cases aa:i<13
      .have I:Hid (bD 4 8 n x y (i+1)=bD 4 8 n x y i+ew 4 8 n x y ((i:Int) - 6)):=rfl;have G:Hid (bD 4 32 n x y (i+1)=bD 4 32 n x y i+ew 4 32 n x y ((i:Int) - 6)):=rfl;generalize hz:(i:Int) - 6=z at *;have⟨_,f2,f3,_,f5⟩:=ri (a:=4) (b:=8) (x:=x) (y:=y) (z:=z) o_ o_ o_ o_ o_;have⟨_,_,_,_,f7⟩:=ri (a:=4) (b:=32) (x:=x) (y:=y) (z:=z) o_ o_ o_ o_ o_;by_cases J:4*x*x+y*y+8*z*z=n
       .by_cases g:4*x*x+y*y+32*z*z=n
        .have H:Hid (bD 4 8 n x y (i+1)=bD 4 8 n x y i+1):=by show _=_;rw[I.out];unfold ew;rw[Vo J]
         have h8:(4*x*x+y*y+8*z*z==n)=true:=by simpa using J
         have F:Hid (bD 4 32 n x y (i+1)=bD 4 32 n x y i+1):=by show _=_;rw[G.out];unfold ew;rw[Vo g]
         have U:(4*x*x+y*y+32*z*z==n)=true:=by simpa using g
         exact Gq
        .have H:Hid (bD 4 8 n x y (i+1)=bD 4 8 n x y i+1):=by show _=_;rw[I.out];unfold ew;rw[Vo J]
         have h8:(4*x*x+y*y+8*z*z==n)=true:=by simpa using J
         have F:Hid (bD 4 32 n x y (i+1)=bD 4 32 n x y i):=by show _=_;rw[G.out];unfold ew;rw[Vm g,WM]
         have U:(4*x*x+y*y+32*z*z==n)=false:=by simpa using g
         exact It
       .by_cases g:4*x*x+y*y+32*z*z=n
        .have H:Hid (bD 4 8 n x y (i+1)=bD 4 8 n x y i):=by show _=_;rw[I.out];unfold ew;rw[Vm J,WM]
         have h8:(4*x*x+y*y+8*z*z==n)=false:=by simpa using J
         have F:Hid (bD 4 32 n x y (i+1)=bD 4 32 n x y i+1):=by show _=_;rw[G.out];unfold ew;rw[Vo g]
         have U:(4*x*x+y*y+32*z*z==n)=true:=by simpa using g
         exact Iu
        .have H:Hid (bD 4 8 n x y (i+1)=bD 4 8 n x y i):=by show _=_;rw[I.out];unfold ew;rw[Vm J,WM]
         have h8:(4*x*x+y*y+8*z*z==n)=false:=by simpa using J
         have F:Hid (bD 4 32 n x y (i+1)=bD 4 32 n x y i):=by show _=_;rw[G.out];unfold ew;rw[Vm g,WM]
         have U:(4*x*x+y*y+32*z*z==n)=false:=by simpa using g
         exact Hj
      .exact Gl
    .exact F2
  .obtain rfl:k=13:=o_
   exact vg
noncomputable def gI(n:Int):Int:=if n % 2=1 then kb 2 8 n else kb 4 8 (n / 2)
noncomputable def gH(n:Int):Int:=if n % 2=1 then kb 2 32 n else kb 4 32 (n / 2)
def vY(n):(0<=gI n/\gI n<=2197)/\(0<=gH n/\gH n<=2197):=by
 unfold gI gH;have h1:=tY 2 8 n;have h2:=tY 4 8 (n / 2);have h3:=tY 2 32 n;have h4:=tY 4 32 (n / 2);constructor<;>(split<;>omega)
def xe(n:Int)(hn:1<=n/\n<=31)(w):
 Rw 218 #[n] w (.tuple #[gI n,gH n]):=by
 unfold gI gH;by_cases h:n % 2=1
 .rw[Vo h,Vo h];exact MI n hn h w
 .rw[Vm h,Vm h];exact MD n (n / 2) hn o_ rfl w
def Pv(n:Int)(hn:1<=n/\n<=31)(w):
 Rw 242 #[n] w (.tuple #[gI n,gH n]):=by
 unfold gI gH;by_cases h:n % 2=1
 .rw[Vo h,Vo h];exact IZ
 .rw[Vm h,Vm h];have h1:(n % 2==1)=false:=by simpa using h
  exact IZ
noncomputable def nu(n:Int):Bool:=gI n==2*gH n
def yB(n:Int)(hn:1<=n/\n<=31)(w):
 Rw 187 #[n] w (.bool (nu n)):=by
 have hb:=vY n;go_enter func187,ntmps187;go_wp2_with ((go_at_call 242;refine aA (Pv _ hn _) ?_))
 go_ret;exact⟨rfl,rfl⟩
end Go.Proofs.YtaamhakdhaolmaaGreatDoor
