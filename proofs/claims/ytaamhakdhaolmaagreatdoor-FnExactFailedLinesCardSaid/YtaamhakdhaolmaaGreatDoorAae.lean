/- Part 4. -/
import Derived.Test.YtaamhakdhaolmaaGreatDoorRows
import Derived.WalkSpells
import Derived.WalkLawsBesides
import Derived.Handy
import Derived.BigQuiet
import Derived.Deep.QuietTactic
import Derived.Lib.Hide
import Derived.Test.YtaamhakdhaolmaaGreatDoorAad
namespace Go.Proofs.YtaamhakdhaolmaaGreatDoor
open Go.RowKit
set_option maxHeartbeats 8000000
set_option maxRecDepth 100000
variable {P:Prop}
set_option linter.all false
abbrev Kp:=Calls Tryz.prog
abbrev Rv(f:Nat)(a:Array Value)(w:World)(v:Value):=Kp f a w λe w'=>e=.returned v/\Below w.heap.size w w'
abbrev Rw(f:Nat)(a:Array Value)(w:World)(v:Value):=Kp f a w λe w'=>e=.returned v/\w=w'
def Aw(h:P:=by
 rw[VJ] at h4;show (match w.heap[g]? with|some (.cells I _ _)=>_|_=>_)=_;rw[hh];exact h4.symm):=h
def IB(h:P:=by
 refine ((Uk G wr).alloc U _).grown H u_ (λk hk=>?_);exact (U9 V k hk).1):=h
def GU(h:P:=by
 have hb:(k % 2==1)=false:=by simp [h2]
 rw[Uj h2] at HR;clear h2;go_wp2;go_round
 case rel=>exact⟨_,_,_,hx,g,c3,c4,by omega,by omega,rfl,rfl,rfl,HR.out.trans H⟩
 case measure=>exact aO):=h
def Oy{P}{f:FuncId}{args}{w:World}{n}{v}
 (h:Calls P f args (w.drewN n) λe w'=>e=.returned v/\w.drewN n=w'):Calls P f args (w.drewN n) λe b7=>e=.returned v/\∃m,b7=w.drewN m:=
 h.mono λ_ _ ⟨he,hm⟩=>⟨he,n,hm.symm⟩
def cR(n lo hi:Int)(w):
 Rw 63 #[n,lo,hi] w (.bool (av n lo hi)):=by
 unfold av;go_enter Tryz.func63,Tryz.ntmps63;go_wp2
 all_goals (go_ret;exact⟨by simp [*]<;>omega,rfl⟩)
def cw(n lo hi:Int)(w):
 Rw 104 #[n,lo,hi] w (.bool (av n lo hi)):=by
 unfold av;go_enter Tryz.func104,Tryz.ntmps104;go_wp2
 all_goals (go_ret;exact⟨by simp [*]<;>omega,rfl⟩)
def xw(a m:Int)(h0:0<m)(h1:m<=4000000000000000000)(w):
 Rw 304 #[a,m] w (a % m:Int):=by
 go_enter Tryz.func304,Tryz.ntmps304;go_wp2
 all_goals (go_ret;exact⟨by simp [(h_ (Ct a m h0 h1)).out],rfl⟩)
def qJ(a m:Int)(h0:0<m)(h1:m<=4000000000000000000)(w):
 Rw 228 #[a,m] w (a % m:Int):=by
 go_enter Tryz.func228,Tryz.ntmps228;go_wp2
 all_goals (go_ret;exact⟨by simp [(h_ (Ct a m h0 h1)).out],rfl⟩)
def uu(x y p:Int)(hx:0<=x)(g:x<=p)(hy:0<=y)(F:y<=p)(h1:p<=3000000000):0<=x*y/\x*y<=9000000000000000000:=by
 have h2:=Ur g F hy o_;have h3:=Ur h1 h1 o_ o_;exact⟨UJ hx hy,by omega⟩
def RA(a n p:Int)(h0:1<=p)(h1:p<=3000000000)(h2:0<=n)(h3:n<=4000000000000000000)(w):
 Kp 303 #[a,n,p] w λe w'=>e=.returned (dU a n p)/\∃k,w'=w.drewN k:=by
 go_enter Tryz.func303,Tryz.ntmps303;go_wp2
 go_quiet ((go_at_call 304;exact Oy (xw _ _ o_ o_ _)))
 go_wp2;go_loop [7,8,1] (λo b m=>∃x y k:Int,0<=x/\x<p/\0<=y/\y<p/\0<=k/\k<=4000000000000000000/\o=.int .i64 x/\b=.int .i64 y/\m=.int .i64 k/\Hid ((x*y ^ k.toNat) % p=a ^ n.toNat % p)) (λ_ _ m=>(intOf m).toNat)
 case atStart=>
  refine⟨_,_,_,?_,?_,?_,?_,h2,h3,rfl,rfl,rfl,?_⟩
  .exact UU _ o_
  .exact UO _ o_
  .exact UU _ o_
  .exact UO _ o_
  .show _=_;rw[VX,qN,VL _ (WC p),<-VX,Wf]
 case round=>
  obtain⟨x,y,k,hx,g,hy,F,hk,G,rfl,rfl,rfl,H⟩:=hrel;have b1:=uu x y p hx o_ hy o_ h1;have b2:=uu y y p hy o_ hy o_ h1;have c3:=UU (y*y) (show p≠0 by omega);have c4:=UO (y*y) (show 0<p by omega);by_cases ae:0<k
  .have HR:=h_ (CG x y k p ae);by_cases h2:k % 2=1
   .have hb:(k % 2==1)=true:=by simp [h2]
    rw[Um h2] at HR;go_wp2;go_round
    case rel=>exact⟨_,_,_,(UU (x*y) (show p≠0 by omega)),(UO (x*y) (show 0<p by omega)),c3,c4,by omega,by omega,rfl,rfl,rfl,HR.out.trans H⟩
    case measure=>exact aO
   .exact GU
  .go_wp2;go_ret;refine⟨?_,_,rfl⟩;have:k=0:=by omega
   subst this;have:=H.out;simp at this;unfold dU;rw[<-this,Wc hx g];rfl
def Pv(a n p:Int)(h0:1<=p)(h1:p<=3000000000)(h2:0<=n)(h3:n<=4000000000000000000)(w):
 Rw 280 #[a,n,p] w (dU a n p):=by
 go_enter Tryz.func280,Tryz.ntmps280;go_wp2_with (go_at_call 228;refine (qJ _ _ o_ o_ _).mono ?_;rintro e w' ⟨rfl,rfl⟩)
 go_loop [7,8,1] (λo b m=>∃x y k:Int,0<=x/\x<=p/\0<=y/\y<p/\0<=k/\k<=4000000000000000000/\o=.int .i64 x/\b=.int .i64 y/\m=.int .i64 k/\Hid ((x*y ^ k.toNat) % p=a ^ n.toNat % p)) (λ_ _ m=>(intOf m).toNat)
 case atStart=>
  refine⟨1,_,_,?_,?_,?_,?_,h2,h3,rfl,rfl,rfl,?_⟩
  .omega
  .omega
  .exact UU _ o_
  .exact UO _ o_
  .show _=_;rw[Wf,qN]
 case round=>
  obtain⟨x,y,k,hx,g,hy,F,hk,G,rfl,rfl,rfl,H⟩:=hrel;have b1:=uu x y p hx o_ hy o_ h1;have b2:=uu y y p hy o_ hy o_ h1;have c2:=UO (x*y) (show 0<p by omega);have c3:=UU (y*y) (show p≠0 by omega);have c4:=UO (y*y) (show 0<p by omega);by_cases ae:0<k
  .have HR:=h_ (CG x y k p ae);by_cases h2:k % 2=1
   .have hb:(k % 2==1)=true:=by simp [h2]
    rw[Um h2] at HR;go_wp2;go_round
    case rel=>exact⟨_,_,_,(UU (x*y) (show p≠0 by omega)),by omega,c3,c4,by omega,by omega,rfl,rfl,rfl,HR.out.trans H⟩
    case measure=>exact aO
   .exact GU
  .go_wp2;go_ret;refine⟨?_,rfl⟩;have:k=0:=by omega
   subst this;have:=H.out;simp at this;unfold dU;rw[<-this];rfl
def IL(h:P:=by
 refine⟨H.os.trans ha.os,H.tape.trans ha.tape,H.output.trans ha.output,Ui ha.size H.size,λk hk hn=>?_⟩;refine (H.block k (Un hk ha.size) ?_).trans (ha.block k hk);cases hv:v.ownBlock with
 |none=>simp
 |some g=>rw[hv] at hn;simpa using hn):=h
def I0(h:P:=by
 refine⟨h.1,?_⟩;rcases h.2 with h0|⟨g,F,aM,hv,hg,hh,r⟩
 .exact .inl h0
 .exact .inr ⟨g,F,aM,hv,hg,(Z.block g (Uv.1 hh).1 (hn g (by rw[hv];rfl))).trans hh,r⟩):=h
def vP(h:P:=by
 refine⟨h.1,?_⟩;rcases h.2 with h0|⟨g,F,aM,hv,hg,hh,r⟩
 .exact .inl h0
 .exact .inr ⟨g,F,aM,hv,hg,(hb.block g (Uv.1 hh).1).trans hh,r⟩):=h
def Hw(h:P:=by
 rw[ht,hu] at h4;exact Aw):=h
def zV(h:P:=by
 exact Aw):=h
def E0(h:P:=by
 exact IB):=h
def zY(h:P:=by
 exact⟨none,0,by rw[hv,hn],by omega,λi hi=>by omega⟩):=h
def vJ(h:P:=by
 go_ret;refine⟨rfl,?_⟩;exact z_):=h
def uE(h:P:=by
 go_wp2;go_ret2;exact⟨rfl,rfl⟩):=h
def Aa(h:P:=by
 go_ret;exact⟨rfl,(Uk _ _).alloc (Ug _) _⟩):=h
def Fd(h:P:=by
 go_enter Tryz.func62,Tryz.ntmps62;go_wp2_with ((go_at_call 63;refine ay (cR _ _ _ _) ?_))
 exact Aa):=h
def F4(h:P:=by
 go_enter Tryz.func71,Tryz.ntmps71;go_wp2_with ((go_at_call 104;refine ay (cw _ _ _ _) ?_))
 exact Aa):=h
def Gw(h:P:=by
 go_ret;exact⟨rfl,af I s_ ((Uk _ _).alloc (Ug _) _)⟩):=h
def vj(h:P:=by
 exact Aa):=h
def aJ{x y}(a b)(hx:-a<=x/\x<=a)(hy:-b<=y/\y<=b):-(a*b)<=x*y/\x*y<=a*b:=by
 have h1:(x*y).natAbs<=a.natAbs*b.natAbs:=by
  rw[U8];exact V5 o_ o_
 have h2:((a.natAbs*b.natAbs:Nat):Int)=a*b:=by
  rw[Yc,Int.natAbs_of_nonneg o_,Int.natAbs_of_nonneg o_]
 omega
def bf{W w1:World}(hb:Below W W w1):(∀b o,b<W.heap.size->w1.cell? ⟨b,o,none⟩=W.cell? ⟨b,o,none⟩)/\(∀b o,b<W.heap.size->w1.frozen? ⟨b,o,none⟩=W.frozen? ⟨b,o,none⟩):=
 ⟨λb o h=>hb.cell (p:=⟨b,o,none⟩) h,λb o h=>hb.frozen (p:=⟨b,o,none⟩) h⟩
def af{B S}{a W w1}(hb:Below S W w1)(hs:B<=S)(h:Below B a W):Below B a w1:=h.trans (hb.mono hs)
def lN{B}{a w}(h:Below B a w)(n):Below B a (w.drewN n):=⟨h.os,h.tape,h.output,h.size,h.block⟩
def Bx(r:Nat)(x y:Value)(w':World):Prop:=w'.cell? r=some x/\w'.cell? ⟨r,1,none⟩=some y/\w'.frozen? ⟨r,0,none⟩=false/\w'.frozen? ⟨r,1,none⟩=false/\r<w'.heap.size
def Bx.below{r}{x y}{W w1}(h:Bx r x y W)(hb:Below W W w1):Bx r x y w1:=by
 have⟨h1,h2,h3,h4,h5⟩:=h;have⟨hc,hf⟩:=bf hb;exact⟨(hc r 0 h5).trans h1,(hc r 1 h5).trans h2,(hf r 0 h5).trans h3,(hf r 1 h5).trans h4,Un h5 hb.size⟩
def Bx.alloc'{r}{x y}{W}(h:Bx r x y W)(o:Obj):Bx r x y (W.alloc o):=Bx.below h ((Uk _ _).alloc (Ug _) _)
def Bx.drew{r}{x y}{W}(h:Bx r x y W):Bx r x y W.drew:=Bx.below h (Uk _ _).drew
def aP(A B:Int):Int:=4*A*A*A+27*B*B
def li{A B}(hA:bj A)(hB:a_ B):
 (-4000000<=4*A*A/\4*A*A<=4000000)/\(-4000000000<=4*A*A*A/\4*A*A*A<=4000000000)/\(-2700000000<=27*B*B/\27*B*B<=2700000000):=by
 have h1:=aJ (x:=4*A) (y:=A) 4000 1000 o_ hA;have h2:=aJ (x:=4*A*A) (y:=A) 4000000 1000 o_ hA;have h3:=aJ (x:=27*B) (y:=B) 270000 10000 o_ hB;omega
def be(A B:Int):Bool:=av A (-1000) 1000&&av B (-10000) 10000&&!(aP A B==0)
def nH(A B:Int)(hA:bj A)(hB:a_ B)(w):
 Rv 105 #[.agg #[A,B]] w (aP A B):=by
 have⟨h1,h2,h3⟩:=li hA hB;go_enter Tryz.func105,Tryz.ntmps105;go_wp2;exact vj
def nT(A B:Int)(hA:bj A)(hB:a_ B)(w):
 Rv 98 #[.agg #[A,B]] w (aP A B):=by
 have⟨h1,h2,h3⟩:=li hA hB;go_enter Tryz.func98,Tryz.ntmps98;go_wp2;exact vj
def fP(A B:Int)(w):
 Rv 71 #[.agg #[A,B]] w (.bool (be A B)):=by
 unfold be;cases h1:av A (-1000) 1000
 .exact F4
 .cases h2:av B (-10000) 10000
  .exact F4
  .have hB:=bH h2;go_enter Tryz.func71,Tryz.ntmps71;go_wp2_with (first|(go_at_call 104;refine ay (cw _ _ _ _) ?_)|(go_at_call 105;refine ai (nH _ _ (bH h1) hB _) λw1 I=>?_;have⟨aZ,a6⟩:=bf I;have ax:=I.size;(try simp at ax);(try (have F:w.heap.size<w1.heap.size:=by omega));(try (have a9:=Ul ax));(try (have bs:=Ul (Uo a9)))))
   exact Gw
def jG(A B:Int)(w):
 Rv 62 #[.agg #[A,B]] w (.bool (be A B)):=by
 unfold be;cases h1:av A (-1000) 1000
 .exact Fd
 .cases h2:av B (-10000) 10000
  .exact Fd
  .have hB:=bH h2;go_enter Tryz.func62,Tryz.ntmps62;go_wp2_with (first|(go_at_call 63;refine ay (cR _ _ _ _) ?_)|(go_at_call 98;refine ai (nT _ _ (bH h1) hB _) λw1 I=>?_;have⟨aZ,a6⟩:=bf I;have ax:=I.size;(try simp at ax);(try (have F:w.heap.size<w1.heap.size:=by omega));(try (have a9:=Ul ax));(try (have bs:=Ul (Uo a9)))))
   exact Gw
def ij(h:P:=by
 exact vJ):=h
def vm(h:P:=by simpa using hk):=h
def rk(h:P:=by assumption):=h
def Iy(h:P:=by
 have aL:=HB.out;clear g HB;subst aL;exact uE):=h
def JH(h:P:=by
 by_cases cm:(r+1)*(r+1)<=n
 .have H2:=h_ cm;go_wp2;go_round
  case rel=>exact⟨r+1,rfl,by omega,by omega,H2⟩
  case measure=>exact aO
 .have he:=K.out r h0 H.out o_;subst he;cases hb:(r*r==n)
  .have ax:(r*r != n)=true:=by unfold bne;rw[hb];rfl
   have HB:Hid (b=false):=by show _=_;rw[g.out,hb]
   exact Iy
  .have ax:(r*r != n)=false:=by unfold bne;rw[hb];rfl
   have HB:Hid (b=true):=by show _=_;rw[g.out,hb]
   exact Iy):=h
def EX(h:P:=by
 have e3:(FloatKind.f64.decode s).toInt .zero=some (m:Int):=e2;unfold floatToIntVal;rw[e3];have a1:IntKind.i64.min=-9223372036854775808:=d_;have a2:IntKind.i64.max=9223372036854775807:=d_;simp only;rw[a1,a2,Um o_]):=h
def Jc(h:P:=by
 show Ieee.double.nearest (decide ((k:Int)<0)) (k:Int).natAbs 0=_;rw[show decide ((k:Int)<0)=false by simp,Int.natAbs_natCast]):=h
def G5(h:P:=by
 go_wp2;go_round
 case rel=>exact⟨r - 1,rfl,by omega,by omega⟩
 case measure=>exact aO):=h
def H8(h:P:=by
 rcases UF 0 r with h|h
 .omega
 .obtain rfl:r=0:=by omega
  omega):=h
def ce(n:Int):Bool:=ap n*ap n==n
def oT(n:Int)(hn:0<=n/\n<=4000000000000000000)(w):
 Rw 106 #[n] w (ap n):=by
 go_enter Tryz.func106,Tryz.ntmps106;go_wp2;go_loop [3,4] (λx y=>∃a b:Int,x=.int .i64 a/\y=.int .i64 b/\(0<=a/\a<b/\b<=2000000001)/\Hid (a*a<=n/\n<b*b)) (λx y=>(intOf y - intOf x).toNat)
 case atStart=>exact⟨0,2000000001,rfl,rfl,by omega,by omega,by omega⟩
 case round=>
  obtain⟨a,b,rfl,rfl,b2,H⟩:=hrel;by_cases h1:1<b - a
  .have hm:a<(a+b) / 2/\(a+b) / 2<b:=o_;have I:0<=(a+b) / 2/\(a+b) / 2<=2000000000:=o_;have cX:0<=(a+b) / 2*((a+b) / 2)/\(a+b) / 2*((a+b) / 2)<=4000000000000000000:=⟨UJ I.1 I.1,by have:=Ur I.2 I.2 I.1 o_;omega⟩
   by_cases h2:(a+b) / 2*((a+b) / 2)<=n
   .have g:Hid ((a+b) / 2*((a+b) / 2)<=n/\n<b*b):=⟨h2,H.out.2⟩
    go_wp2;go_round
    case rel=>exact⟨_,b,rfl,rfl,by omega,g⟩
    case measure=>exact aO
   .have g:Hid (a*a<=n/\n<(a+b) / 2*((a+b) / 2)):=⟨H.out.1,by omega⟩
    go_wp2;go_round
    case rel=>exact⟨a,_,rfl,rfl,by omega,g⟩
    case measure=>exact aO
  .obtain rfl:b=a+1:=by omega
   have he:=oS b2.1 H.out.1 H.out.2;subst he;go_wp2;go_ret;exact⟨rfl,rfl⟩
def wV(n:Int)(hn:0<=n/\n<=4000000000000000000)(w):
 Rw 110 #[n] w (.bool (ce n)):=by
 have h0:=kZ n;have h1:=(nI hn.1).1;have h2:=UJ h0 h0;have hc:=λw=>oT n hn w;unfold ce;generalize ap n=r at h0 h1 h2 hc;go_enter Tryz.func110,Tryz.ntmps110;go_wp2_with ((go_at_call 106;refine ay (hc _) ?_))
 go_ret;exact⟨rfl,rfl⟩
def BV(s t)(h:FloatKind.f64.format.sqrt s=some t)(w):
 Rw 207 #[.float .f64 s] w (.float .f64 t):=by
 have hr:∀w,(callFunc 260 #[.float .f64 s]).run Tryz.prog w=.ok (.value (.float .f64 t)) w:=λw=>by
  rw[XD Tryz.func260 k_ k_ k_ (e:=Extern.MathSqrt.sqrt) k_];have e:Extern.MathSqrt.sqrt #[.float .f64 s]=(match FloatKind.f64.format.sqrt s with|some r=>pure (.float .f64 r)|none=>(do pure (.float .f64 (<-choose (.nanBits .f64 s s))))):=rfl;rw[e,h];rfl
 go_enter Tryz.func207,Tryz.ntmps207;go_wp2;go_ret;exact⟨rfl,rfl⟩
def wI(n:Int)(hn:0<=n/\n<=1000000000)(w):
 Rw 148 #[n] w (.tuple #[.int .i64 (if ce n then ap n else 0),.bool (ce n)]):=by
 obtain⟨k,rfl⟩:=Vu hn.1;have⟨s,m,e1,e2,hm⟩:=RK k o_;have a5:floatOfInt .f64 (k:Int)=Ieee.double.nearest false k 0:=by
  exact Jc
 have a9:∀w,(convert 3 192 (.int .i64 (k:Int))).run Tryz.prog w=.ok (.float .f64 (Ieee.double.nearest false k 0)) w:=λw=>by
  rw[<-a5];exact run_convert_int_float w 3 192 .i64 .f64 (k:Int) k_ k_
 have a3:floatToIntVal .f64 s .i64=some (m:Int):=by
  exact EX
 have a7:∀w,(convert 192 3 (.float .f64 s)).run Tryz.prog w=.ok (.int .i64 (m:Int)) w:=λw=>run_convert_float_int w 192 3 .f64 .i64 s (m:Int) k_ k_ a3;have V:=λw=>BV _ s e1 w;have HS:=h_ V;generalize Ieee.double.nearest false k 0=f at a9 HS;have J:=nI hn.1;have a4:=kZ (k:Int);have aG:=nQ (b:=40000) hn.1 o_ o_;have K:Hid (∀r:Int,0<=r->r*r<=(k:Int)->(k:Int)<(r+1)*(r+1)->r=ap k):=λr h0 h1 h2=>oS h0 h1 h2;generalize hk:(k:Int)=n at *;have g:Hid (ce n=(ap n*ap n==n)):=rfl;generalize ap n=q,ce n=b at *;go_enter Tryz.func148,Tryz.ntmps148;go_wp2_with (go_at_call 207;refine ay (HS.out _) ?_)
 go_loop [4] (λx=>∃r:Int,x=.int .i64 r/\0<=r/\r<=1000000) (λx=>(intOf x).toNat)
 case atStart=>exact⟨m,rfl,by omega,by omega⟩
 case round=>
  obtain⟨r,rfl,h0,h1⟩:=hrel;have F:0<=r*r/\r*r<=1000000000000:=⟨UJ h0 h0,by have:=Ur h1 h1 h0 o_;omega⟩
  by_cases I:n<r*r
  .have b4:1<=r:=by
    exact H8
   exact G5
  .go_wp2;go_loop [4] (λx=>∃r:Int,x=.int .i64 r/\0<=r/\r<=1000000/\Hid (r*r<=n)) (λx=>(1000000 - intOf x).toNat)
   case atStart=>exact⟨r,rfl,h0,h1,by show _<=_;omega⟩
   case round=>
    obtain⟨r,rfl,h0,h1,H⟩:=hrel;have b4:=zW (a:=40000) o_ h0 (by have:=H.out;omega);have F:0<=(r+1)*(r+1)/\(r+1)*(r+1)<=1000000000000:=⟨UJ o_ o_,by have:=Ur (show r+1<=1000000 by omega) (show r+1<=1000000 by omega) o_ o_;omega⟩
    have G:0<=r*r/\r*r<=1000000000000:=⟨UJ h0 h0,by have:=Ur h1 h1 h0 o_;omega⟩
    exact JH
abbrev E5:=(Int×Int)×Int×Int×Int
abbrev aK:=List E5
def fW(e:E5):Bool:=be e.1.1 e.1.2&&av e.2.1 0 e.2.2.1&&decide (e.2.2.1<=20)&&av e.2.2.2 0 16
def dF(x y:Int×Int):Bool:=decide (x.1<y.1)||(decide (x.1=y.1)&&decide (x.2<y.2))
def qB{x y:Int×Int}:dF x y=true↔(x.1<y.1\/(x.1=y.1/\x.2<y.2)):=by unfold dF;simp
def wW{x y z:Int×Int}(h:dF x y=true)(k:dF y z=true):dF x z=true:=by rw[qB] at *;omega
def Rc(x:Int×Int):dF x x=false:=by
 cases h:dF x x
 .rfl
 .rw[qB] at h;omega
def QP{x y:Int×Int}(h:dF x y=false)(hn:x≠y):dF y x=true:=by
 have h1:¬dF x y=true:=by rw[h];decide
 rw[qB] at h1;rw[qB];have:x.1≠y.1\/x.2≠y.2:=by
  by_cases h:x.1=y.1
  .right;intro h2;exact hn (Prod.ext h h2)
  .exact .inl h
 omega
def ck:List E5->Prop
 |[]=>True
 |[_]=>True
 |x::y::l=>dF x.1 y.1=true/\ck (y::l)
def eA(L:List E5):Prop:=(∀e∈L,fW e=true)/\ck L/\L.length<=12
def eA.nil:eA []:=⟨(λ_ h=>by cases h),trivial,UB _⟩
def ck.tail{x:E5}{l}(h:ck (x::l)):ck l:=by
 cases l with
 |nil=>trivial
 |cons y l=>exact h.2
theorem ck.head{x:E5}:∀{l},ck (x::l)->∀e∈l,dF x.1 e.1=true
 |[],_,_,h=>by cases h
 |y::l,h,e,he=>by
  rcases UM.1 he with rfl|he
  .exact h.1
  .exact wW h.1 (ck.head h.2 e he)
def ck.cons{x:E5}{l}(h:ck l)(hx:∀e∈l,dF x.1 e.1=true):ck (x::l):=by
 cases l with
 |nil=>trivial
 |cons y l=>exact⟨hx y s_,h⟩
def ck.at{L}(h:ck L):∀{i j} (hi:i<j) (hj:j<L.length),dF (L[i]'o_).1 (L[j]'hj).1=true:=by
 induction L with
 |nil=>intro i j _ hj;simp at hj
 |cons x l g=>
  intro i j hi hj;cases j with
  |zero=>omega
  |succ j=>
   cases i with
   |zero=>exact ck.head h _ (UA _)
   |succ i=>exact g h.tail o_ (by simpa using hj)
def plc(c:Int×Int):List E5->Nat
 |[]=>0
 |x::l=>if dF x.1 c=true then plc c l+1 else 0
theorem mg(c:Int×Int):∀L:List E5,plc c L<=L.length
 |[]=>Ug _
 |x::l=>by unfold plc;split;have:=mg c l;simp;omega;simp
theorem wU(c:Int×Int):∀(L) (i) (hi:i<L.length),i<plc c L->dF L[i].1 c=true
 |[],i,hi,_=>by simp at hi
 |x::l,i,hi,h=>by
  unfold plc at h;split at h
  .rename_i hx;cases i with
   |zero=>exact hx
   |succ i=>exact wU c l i (by simpa using hi) o_
  .omega
theorem yK(c:Int×Int):∀(L) (h:plc c L<L.length),dF (L[plc c L]'h).1 c=false
 |[],h=>by simp at h
 |x::l,h=>by
  have hx:plc c (x::l)=if dF x.1 c=true then plc c l+1 else 0:=rfl
  by_cases hb:dF x.1 c=true
  .rw[Um hb] at hx;simp only[hx] at h ⊢;exact yK c l (by simpa using h)
  .rw[Uj hb] at hx;simp only[hx] at h ⊢;simpa using hb
def yE{c:Int×Int}{L}{k}(hk:k<=L.length)(h1:∀i (hi:i<L.length),i<k->dF L[i].1 c=true)(h2:∀(h:k<L.length),dF L[k].1 c=false):plc c L=k:=by
 have h0:=mg c L;rcases Nat.lt_trichotomy (plc c L) k with h|h|h
 .have:=yK c L o_;rw[h1 _ o_ h] at this;cases this
 .exact h
 .have:=wU c L k o_ h;rw[h2 o_] at this;cases this
def cO(c:Int×Int)(L:List E5):Bool:=match L[plc c L]? with|some e=>decide (e.1=c)|none=>false
def lh{c:Int×Int}{L}:cO c L=true↔∃h:plc c L<L.length,(L[plc c L]'h).1=c:=by
 unfold cO;constructor
 .intro h;split at h
  .rename_i e he;have⟨h1,h2⟩:=U2.1 he;exact⟨h1,by rw[h2];simpa using h⟩
  .cases h
 .rintro⟨h1,h2⟩;rw[Us h1];simpa using h2
def ck.find{L}(h:ck L){c:Int×Int}{j}(hj:j<L.length)(hc:L[j].1=c):plc c L=j:=by
 refine yE o_ (λi hi g=>?_) (λh1=>?_)
 .rw[<-hc];exact h.at g hj
 .rw[hc];exact Rc c
def Pu{c:Int×Int}{L}(h:ck L)(hn:cO c L=false):∀e∈L,e.1≠c:=by
 intro e he hc;obtain⟨j,hj,rfl⟩:=List.mem_iff_getElem.1 he;have G:=h.find hj hc;have:cO c L=true:=lh.2 ⟨by omega,by simp only[G];exact hc⟩;rw[hn] at this;cases this
def ek(a b:E5):Option E5:=if (max a.2.1 b.2.1<=min a.2.2.1 b.2.2.1)/\¬(a.2.2.2≠0/\b.2.2.2≠0/\a.2.2.2≠b.2.2.2) then some (a.1,max a.2.1 b.2.1,min a.2.2.1 b.2.2.1,max a.2.2.2 b.2.2.2) else none
def tu{e:E5}:fW e=true↔be e.1.1 e.1.2=true/\(0<=e.2.1/\e.2.1<=e.2.2.1)/\e.2.2.1<=20/\(0<=e.2.2.2/\e.2.2.2<=16):=by
 unfold fW av;simp only[Ux,UW,XO]
def P_{a b m:E5}(ha:fW a=true)(hb:fW b=true)(h:ek a b=some m):fW m=true/\m.1=a.1:=by
 unfold ek at h;split at h
 .rename_i hc;cases h;refine⟨?_,rfl⟩;rw[tu] at *;refine⟨ha.1,?_,?_,?_⟩<;>simp only<;>omega
 .cases h
def gf(L:List E5)(e:E5):Option (List E5):=
 if cO e.1 L=true then (match L[plc e.1 L]? with|some x=>(ek x e).map λm=>L.set (plc e.1 L) m|none=>none)
 else if L.length<=11 then some (L.take (plc e.1 L)++e::L.drop (plc e.1 L)) else none
def ck.insert{L}(h:ck L){e:E5}(hn:cO e.1 L=false):ck (L.take (plc e.1 L)++e::L.drop (plc e.1 L)):=by
 induction L with
 |nil=>trivial
 |cons x l g=>
  have hx:plc e.1 (x::l)=if dF x.1 e.1=true then plc e.1 l+1 else 0:=rfl
  by_cases hb:dF x.1 e.1=true
  .rw[Um hb] at hx;have cy:cO e.1 l=false:=by
    unfold cO at hn ⊢;rw[hx] at hn;simpa using hn
   rw[hx];simp;refine ck.cons (g h.tail cy) λy hy=>?_;rcases Vx.1 hy with hy|hy
   .exact ck.head h y (VU hy)
   .rcases UM.1 hy with rfl|hy
    .exact hb
    .exact ck.head h y (VW hy)
  .rw[Uj hb] at hx;rw[hx];simp;refine ck.cons h λy hy=>?_;have F:=QP (by simpa using hb) ((Pu h hn) x s_);rcases UM.1 hy with rfl|hy
   .exact F
   .exact wW F (ck.head h y hy)
theorem ck.setE{m:E5}:∀{L} {k} (hk:k<L.length),ck L->m.1=L[k].1->ck (L.set k m)
 |[],_,hk,_,_=>by simp at hk
 |x::l,0,_,h,hm=>by
  simp;refine ck.cons h.tail λy hy=>?_;rw[hm];exact ck.head h y hy
 |x::l,k+1,hk,h,hm=>by
  simp;refine ck.cons (ck.setE vm h.tail (by simpa using hm)) λy hy=>?_;obtain⟨j,hj,rfl⟩:=List.mem_iff_getElem.1 hy;rw[List.getElem_set];split
  .rename_i g;rw[hm];exact ck.head h _ (UA _)
  .exact ck.head h _ (UA _)
def Cx{L}{e:E5}(h:eA L)(he:fW e=true){M}(ht:gf L e=some M):eA M:=by
 have⟨h1,h2,h3⟩:=h;unfold gf at ht;split at ht
 .rename_i hh;have⟨G,hc⟩:=lh.1 hh;rw[Us G] at ht;simp only[Option.map_eq_some_iff] at ht;obtain⟨m,hm,rfl⟩:=ht;have⟨o1,o2⟩:=P_ (h1 _ (UA G)) he hm;refine⟨λy hy=>?_,ck.setE G h2 o2,by simpa using h3⟩;rcases WR hy with hy|rfl
  .exact h1 y hy
  .exact o1
 .rename_i hh;split at ht
  .rename_i hl;cases ht;refine⟨λy hy=>?_,ck.insert h2 (by simpa using hh),?_⟩
   .rcases Vx.1 hy with hy|hy
    .exact h1 y (VU hy)
    .rcases UM.1 hy with rfl|hy
     .exact he
     .exact h1 y (VW hy)
   .have:=mg e.1 L;simp;omega
  .cases ht
def iH(L:List E5)(c:Int×Int):Option (List E5):=if cO c L=true then some (L.eraseIdx (plc c L)) else none
theorem ck.erase:∀{L} {k},ck L->ck (L.eraseIdx k)
 |[],_,_=>trivial
 |x::l,0,h=>h.tail
 |x::l,k+1,h=>by
  simp;exact ck.cons (ck.erase h.tail) λy hy=>ck.head h y (List.mem_of_mem_eraseIdx hy)
def P7{L}{c:Int×Int}(h:eA L){M}(ht:iH L c=some M):eA M:=by
 have⟨h1,h2,h3⟩:=h;unfold iH at ht;split at ht
 .cases ht;refine⟨λy hy=>h1 y (List.mem_of_mem_eraseIdx hy),ck.erase h2,?_⟩;have:=List.length_eraseIdx_le L (plc c L);omega
 .cases ht
def fA(L:List E5)(c:Int×Int):Option E5:=if cO c L=true then L[plc c L]? else none
def xH{L}{c:Int×Int}(h:eA L){e:E5}(hf:fA L c=some e):fW e=true:=by
 unfold fA at hf;split at hf
 .have⟨h1,h2⟩:=U2.1 hf;rw[<-h2];exact h.1 _ (UA h1)
 .cases hf
def rV(h:P:=by
 go_wp2;go_ret;exact⟨rfl,rfl⟩):=h
def zb(h:P:=by
 go_enter Tryz.func100,Tryz.ntmps100;exact rV):=h
def JD(h:P:=by
 go_enter Tryz.func172,Tryz.ntmps172;exact rV):=h
def zp(h:P:=by
 exact⟨none,0,by rw[hv,hn],λi hi=>by omega⟩):=h
def Tryz.infoI:(Tryz.prog.info? 3).map (λi=>(i.zero,i.size,i.bytes))=some (some (.int .i64 0),1,8):=by kernel_rfl
def aq(w:World)(G:Nat)(v:Value)(xs:List Int):Prop:=w.ownsRow G 3 1 v xs.length (xs.map (Value.int .i64))
def aq.nil(w)(G):aq w G (.slice none 0 0) []:=Wv _ _ _ _
def aq.alloc{w}{G}{v}{xs}(h:aq w G v xs)(o:Obj):aq (w.alloc o) G v xs:=Wk h o
def aq.le{w}{G base'}{v}{xs}(h:aq w G v xs)(hb:base'<=G):aq w base' v xs:=
 ⟨h.1,h.2.elim Or.inl (λ⟨g,F,aM,hv,hg,r⟩=>Or.inr ⟨g,F,aM,hv,Ui hb hg,r⟩)⟩
def aq.below{w w1}{G}{v}{xs}(h:aq w G v xs)(hb:Below w w w1):aq w1 G v xs:=by
 exact vP
def aq.form{w}{G}{v}{xs}(h:aq w G v xs):
 ∃(a:bT) (F:Nat),v=.slice a xs.length F/\∀i,i<xs.length->∃g,a=some ⟨g,0,none⟩/\w.cell? ⟨g,i,none⟩=some (.int .i64 (xs[i]?.getD 0))/\g<w.heap.size/\G<=g:=by
 rcases h.2 with ⟨hv,hn⟩|⟨g,F,aM,hv,hg,hh,_,_,_,ht⟩
 .exact zp
 .refine⟨some ⟨g,0,none⟩,F,hv,λi hi=>⟨g,rfl,?_,(Uv.1 hh).1,hg⟩⟩;have h1:aM.toList[i]?=some (.int .i64 (xs[i]?.getD 0)):=by
   have h2:(aM.toList.take (xs.length*1))[i]?=aM.toList[i]?:=UR o_;rw[<-h2,ht,XV,Us hi];rfl
  rw[VJ] at h1;show (match w.heap[g]? with|some (.cells I _ _)=>_|_=>_)=_;rw[hh];exact h1
def fN{ops}{rest}{o}{a}{Q}{wr}{y:Int}(aa:o.guard=none)(s x)
 (Z:o.op=.call {callee:=.builtin .append,args:=#[s,x],argTypes:=#[22,22]})
 (G)(v)(xs)(hs:a.eval s=v)(V:aq wr G v xs)(hx:a.eval x=.slice wr 1 1)
 (ac:xs.length<1000000000000)(U:G<=wr.heap.size)
 (h:∀v' w1,aq w1 G v' (xs++[y])->Below G wr w1->(wr.alloc (.cells #[y] 3)).grownBy w1 v.ownBlock->wpList Tryz.prog ops Q rest (a.put o.dst v') w1):
 wpList Tryz.prog ops Q (o::rest) a (wr.alloc (.cells #[y] 3)):=by
 have⟨i0,hi,bi,ax,a8⟩:=VE Tryz.infoI;refine Xn _ aa s x 22 Z G 3 i0 () 1 8 Tryz.underlying22 hi bi ax a8 rfl d_ v xs.length (xs.map (Value.int .i64)) hs (V.alloc _) ⟨wr,0,none⟩ 1 1 [.int .i64 y] hx rfl ?_ ?_ ?_ ?_ ?_ ?_
 .intro j u hj
  match j,hj with
  |0,hj=>simp at hj;subst hj;simp [Addr.add]
 .intro u hu;simp at hu;subst hu;rfl
 .unfold maxLen;omega
 .omega
 .simp;omega
 .intro v' w1 J H _;refine h v' w1 ?_ ?_ H
  .show w1.ownsRow _ _ _ _ _ _;rw[UE,VN];exact J
  .exact E0
def JW(h:P:=by
 by_cases h1:a<b
 .rw[Um h1];exact zb
 .rw[Uj h1];by_cases h2:b<a
  .rw[Um h2];exact zb
  .rw[Uj h2];exact zb):=h
def Ip(h:P:=by
 by_cases h:b<a
 .rw[Um h];exact JD
 .rw[Uj h];exact JD):=h
def nV(h:P:=by rw[UH];omega):=h
def pv(h:P:=by unfold maxLen;omega):=h
def GZ(h:P:=by
 go_wp2_with ((go_at_call 303;refine (RA _ _ _ o_ h1 o_ o_ _).mono ?_;rintro e w' ⟨rfl,V,rfl⟩))
 go_ret;exact⟨rfl,_,rfl⟩):=h
def Fq(h:P:=by
 go_wp2_with ((go_at_call 280;refine (Pv _ _ _ o_ h1 o_ o_ _).mono ?_;rintro e w' ⟨rfl,rfl⟩))
 go_ret;exact⟨rfl,rfl⟩):=h
def Av(h:P:=by
 go_wp2;go_ret;exact⟨by rw[HF.out];rfl,rfl⟩):=h
def KN(h:P:=by
 by_cases h2:n % k=0
 .have hh:(n % k==0)=true:=by simp [h2]
  have HF:=h_ (O8 aF h1 h2);clear h2;exact Av
 .have hh:(n % k==0)=false:=by simp [h2]
  have H2:=h_ h2;clear h2;go_wp2;go_round
  case rel=>exact⟨k+1,rfl,by omega,by omega,λc hc bz=>by
   rcases UF c k with J|J
   .exact H.out c hc J
   .rw[show c=k by omega];exact H2.out⟩
  case measure=>exact aO):=h
def IF(h:P:=by
 clear h;go_enter Tryz.func262,Tryz.ntmps262;exact GZ):=h
def Hl(h:P:=by
 clear h;go_enter Tryz.func229,Tryz.ntmps229;exact Fq):=h
def Gu(h:P:=by
 exact GZ):=h
def DO{d n:Int}(hd:0<=d)(h:d*d<=n)(hn:n<=1000000000000):d<=1000000:=by
 rcases UF 1000000 d with J|J
 .have:=Ur (show (1000001:Int)<=d by omega) (show (1000001:Int)<=d by omega) o_ o_;omega
 .exact J
def xe(n:Int)(hn:n<=1000000000000)(w):
 Rw 261 #[n] w (.bool (cn n)):=by
 go_enter Tryz.func261,Tryz.ntmps261;go_wp2;go_loop [3] (λx=>∃k:Int,x=.int .i64 k/\2<=k/\k<=1000001/\Hid (∀c:Int,2<=c->c<k->n % c≠0)) (λx=>(1000001 - intOf x).toNat)
 case atStart=>exact⟨2,rfl,by omega,by omega,λc _ _=>by omega⟩
 case round=>
  obtain⟨k,rfl,aF,hk,H⟩:=hrel;have g:4<=k*k/\k*k<=1000002000001:=⟨by have:=Ur aF aF o_ o_;omega,by have:=Ur hk hk o_ o_;omega⟩
  by_cases h1:k*k<=n
  .have Z:=DO o_ h1 hn;exact KN
  .have HN:=h_ (CK aF H.out o_);by_cases h2:2<=n
   .have HF:=h_ (CA h2 HN.out);exact Av
   .have HF:=h_ (Pw (show n<2 by omega));go_wp2;go_ret;exact⟨by rw[HF.out];simp,rfl⟩
def oN(n:Int)(w):
 Rw 227 #[n] w (.bool (av n 2 997&&cn n)):=by
 cases hi:av n 2 997
 .go_enter Tryz.func227,Tryz.ntmps227;go_wp2_with ((go_at_call 104;refine ay (cw _ _ _ _) ?_))
  go_ret;exact⟨rfl,rfl⟩
 .have hb:=bH hi;go_enter Tryz.func227,Tryz.ntmps227;go_wp2_with ((go_at_call 104;refine ay (cw _ _ _ _) ?_))
  go_loop [3] (λx=>∃k:Int,x=.int .i64 k/\2<=k/\k<=1000001/\Hid (∀c:Int,2<=c->c<k->n % c≠0)) (λx=>(1000001 - intOf x).toNat)
  case atStart=>exact⟨2,rfl,by omega,by omega,λc _ _=>by omega⟩
  case round=>
   obtain⟨k,rfl,aF,hk,H⟩:=hrel;have g:4<=k*k/\k*k<=1000002000001:=⟨by have:=Ur aF aF o_ o_;omega,by have:=Ur hk hk o_ o_;omega⟩
   by_cases h1:k*k<=n
   .have Z:=DO o_ h1 o_;exact KN
   .have HF:=h_ (CA hb.1 (CK aF H.out o_));exact Av
def OW(a p:Int)(h0:2<=p)(h1:p<=3000000000)(w):
 Kp 305 #[a,p] w λe w'=>e=.returned (gh a p)/\∃k,w'=w.drewN k:=by
 go_enter Tryz.func305,Tryz.ntmps305;exact Gu
def Ni(a p:Int)(h0:2<=p)(h1:p<=3000000000)(w):
 Rw 281 #[a,p] w (gh a p):=by
 go_enter Tryz.func281,Tryz.ntmps281;exact Fq
def CJ(a p:Int)(h0:2<=p)(h1:p<=3000000000)(w):
 Kp 262 #[a,p] w λe w'=>e=.returned (gi a p)/\∃k,w'=w.drewN k:=by
 unfold gi;have hc:∀x:Int,x=0\/x=1\/(x≠0/\x≠1):=λx=>by omega
 rcases hc (dU a ((p - 1) / 2) p) with h|h|⟨h,h2⟩
 .have hh:(dU a ((p - 1) / 2) p==0)=true:=by simp [h]
  rw[Um h];exact IF
 .have g:(dU a ((p - 1) / 2) p==0)=false:=by simp [h]
  have hh:(dU a ((p - 1) / 2) p==1)=true:=by simp [h]
  rw[Uj o_,Um h];exact IF
 .have g:(dU a ((p - 1) / 2) p==0)=false:=by simp [h]
  have hh:(dU a ((p - 1) / 2) p==1)=false:=by simp [h2]
  rw[Uj h,Uj h2];go_enter Tryz.func262,Tryz.ntmps262;exact Gu
def BY(a p:Int)(h0:2<=p)(h1:p<=3000000000)(w):
 Rw 229 #[a,p] w (eO a p):=by
 unfold eO AF;by_cases h:dU a ((p - 1) / 2) p=p - 1
 .have hh:(dU a ((p - 1) / 2) p==p - 1)=true:=by simp [h]
  rw[Um h];exact Hl
 .have hh:(dU a ((p - 1) / 2) p==p - 1)=false:=by simp [h]
  rw[Uj h];exact Hl
noncomputable def eX(A B p:Int):Bool:=av p 5 997&&cn p&&!(aP A B % p==0)
def sV{A B}(hA:bj A)(hB:a_ B):-7000000000<=aP A B/\aP A B<=7000000000:=by
 have:=li hA hB;unfold aP;omega
def Q4(a p:Int):(a.tmod p != 0)=!(a % p==0):=by
 rw[Wp];simp only[bne_iff_ne,ne_eq,V0,Uz];constructor
 .intro h e;exact h (Int.tmod_eq_zero_of_dvd (UQ e))
 .exact tmod_ne0
where tmod_ne0 {a p:Int} (h:a % p≠0):a.tmod p≠0:=λe=>h (Vl (Xi e))
def CW(A B p:Int)(hA:bj A)(hB:a_ B)(w):
 Rv 209 #[.agg #[A,B],p] w (.bool (eX A B p)):=by
 unfold eX;cases h1:av p 5 997
 .go_enter Tryz.func209,Tryz.ntmps209;go_wp2_with ((go_at_call 63;refine ay (cR _ _ _ _) ?_))
  exact vj
 .have G:=bH h1;cases h2:cn p
  .go_enter Tryz.func209,Tryz.ntmps209;go_wp2_with (first|(go_at_call 63;refine ay (cR _ _ _ _) ?_)|(go_at_call 261;refine (xe _ o_ _).mono ?_;rintro e w' ⟨rfl,rfl⟩))
   exact vj
  .have HT:=h_ (Q4 (aP A B) p);go_enter Tryz.func209,Tryz.ntmps209;go_wp2_with (first|(go_at_call 63;refine ay (cR _ _ _ _) ?_)|(go_at_call 261;refine (xe _ o_ _).mono ?_;rintro e w' ⟨rfl,rfl⟩)|(go_at_call 98;refine ai (nT _ _ hA hB _) λw1 I=>?_;have⟨aZ,a6⟩:=bf I;have ax:=I.size;(try simp only[Uq] at ax);(try (have F:w.heap.size<w1.heap.size:=by omega));(try (have a9:=Ul ax));(try (have bs:=Ul (Uo a9)))))
   go_ret;refine⟨by rw[<-HT.out];rfl,?_⟩;exact z_
def Dr(A B p:Int)(w):
 Rv 175 #[.agg #[A,B],p] w (.bool (be A B&&eX A B p)):=by
 unfold eX;cases h0:be A B
 .go_enter Tryz.func175,Tryz.ntmps175;go_wp2_with ((go_at_call 71;refine ai (fP _ _ _) λw1 I=>?_;have⟨aZ,a6⟩:=bf I;have ax:=I.size;(try simp only[Uq] at ax);(try (have F:w.heap.size<w1.heap.size:=by omega));(try (have a9:=Ul ax));(try (have bs:=Ul (Uo a9)))))
  exact ij
 .have hA:=by unfold be at h0;simp at h0;exact bH h0.1.1
  have hB:=by unfold be at h0;simp at h0;exact bH h0.1.2
  cases h1:av p 2 997
  .have h5:av p 5 997=false:=by
    cases h6:av p 5 997
    .rfl
    .have:=bH h6;rw[gc o_ o_] at h1;cases h1
   go_enter Tryz.func175,Tryz.ntmps175;go_wp2_with (first|(go_at_call 71;refine ai (fP _ _ _) λw1 I=>?_;have⟨aZ,a6⟩:=bf I;have ax:=I.size;(try simp only[Uq] at ax);(try (have F:w.heap.size<w1.heap.size:=by omega));(try (have a9:=Ul ax));(try (have bs:=Ul (Uo a9))))|(go_at_call 227;refine ay (oN _ _) ?_))
   go_ret;refine⟨by rw[h5];rfl,?_⟩;exact z_
  .have G:=bH h1;cases h2:cn p
   .go_enter Tryz.func175,Tryz.ntmps175;go_wp2_with (first|(go_at_call 71;refine ai (fP _ _ _) λw1 I=>?_;have⟨aZ,a6⟩:=bf I;have ax:=I.size;(try simp only[Uq] at ax);(try (have F:w.heap.size<w1.heap.size:=by omega));(try (have a9:=Ul ax));(try (have bs:=Ul (Uo a9))))|(go_at_call 227;refine ay (oN _ _) ?_))
    go_ret;refine⟨by simp,?_⟩;exact z_
   .by_cases h5:5<=p
    .have h6:=gc h5 G.2;go_enter Tryz.func175,Tryz.ntmps175;go_wp2_with (first|(go_at_call 71;refine ai (fP _ _ _) λw1 I=>?_;have⟨aZ,a6⟩:=bf I;have ax:=I.size;(try simp only[Uq] at ax);(try (have F:w.heap.size<w1.heap.size:=by omega));(try (have a9:=Ul ax));(try (have bs:=Ul (Uo a9))))|(go_at_call 227;refine ay (oN _ _) ?_)|(go_at_call 105;refine ai (nH _ _ hA hB _) λw2 U=>?_;have⟨bo,bq⟩:=bf U;have a8:=U.size;(try simp only[Uq] at a8);(try (have aG:w.heap.size<w2.heap.size:=by omega));(try (have ac:=Ul a8));(try (have ab:=Ul (Uo ac)));(try (have aa:w1.heap.size<w2.heap.size:=by omega)))|(go_at_call 228;refine (qJ _ _ o_ o_ _).mono ?_;rintro e w' ⟨rfl,rfl⟩))
     go_ret;refine⟨by rw[h6];rfl,?_⟩;exact z_
    .have h6:av p 5 997=false:=by unfold av;simp;omega
     go_enter Tryz.func175,Tryz.ntmps175;go_wp2_with (first|(go_at_call 71;refine ai (fP _ _ _) λw1 I=>?_;have⟨aZ,a6⟩:=bf I;have ax:=I.size;(try simp only[Uq] at ax);(try (have F:w.heap.size<w1.heap.size:=by omega));(try (have a9:=Ul ax));(try (have bs:=Ul (Uo a9))))|(go_at_call 227;refine ay (oN _ _) ?_))
     exact ij
def jL{p a b}(G:cn p=true)(h:(a*b) % p=0):a % p=0\/b % p=0:=by
 have⟨h2,hd⟩:=wJ G;obtain⟨n,rfl⟩:∃n:Nat,p=n:=⟨p.toNat,by omega⟩
 by_cases ha:a % (n:Int)=0
 .exact .inl ha
 .right;have h1:¬n∣a.natAbs:=λh=>ha (Vl (Xe.2 h));have h3:n∣a.natAbs*b.natAbs:=by
   rw[<-U8];exact Xe.1 (UQ h)
  exact Vl (Xe.2 ((Mm o_ hd h1).dvd_of_dvd_mul_left h3))
theorem yG{p a}(G:cn p=true)(h0:a % p≠0):∀k:Nat,(a ^ k) % p≠0
 |0=>by
  have:=(wJ G).1;rw[Xc,Wc o_ o_];omega
 |k+1=>by
  intro h;rw[UN] at h;rcases jL G h with h|h
  .exact yG G h0 k h
  .exact h0 h
def gr(A B p:Int):Int:=-3*B % p*gh (2*A) p % p
def dB(A B p:Int):Nat:=if aP A B % p≠0 then 0 else if A % p=0 then 1 else if eO (3*gr A B p) p=1 then 2 else 3
def ej:Nat->aj
 |0=>⟨#[103,111,111,100]⟩
 |1=>⟨#[97,100,100,105,116,105,118,101]⟩
 |2=>⟨#[115,112,108,105,116]⟩
 |_=>⟨#[110,111,110,115,112,108,105,116]⟩
def oK{k p:Int}(hk:0<k)(G:k<p):k % p≠0:=by rw[Wc o_ o_];omega
def TS{A B p}(G:cn p=true)(h5:5<=p)(hd:aP A B % p=0)(hA:A % p=0):B % p=0:=by
 have⟨k,hk⟩:=UQ hA;have⟨m,hm⟩:=UQ hd;have h1:(27*(B*B)) % p=0:=by
  apply Vl;refine⟨m - 4*k*A*A,?_⟩;unfold aP at hm;grind
 rcases jL G h1 with h|h
 .have g:(3*9:Int) % p=0:=h;rcases jL G g with h|h
  .exact absurd h (oK o_ o_)
  .have h9:(3*3:Int) % p=0:=h;rcases jL G h9 with h|h<;>exact absurd h (oK o_ o_)
 .rcases jL G h with h|h<;>exact h
def TO{A B p}(G:cn p=true)(h5:5<=p)(hd:aP A B % p=0)(hB:B % p=0):A % p=0:=by
 have⟨k,hk⟩:=UQ hB;have⟨m,hm⟩:=UQ hd;have h1:(4*(A*(A*A))) % p=0:=by
  apply Vl;refine⟨m - 27*k*B,?_⟩;unfold aP at hm;grind
 rcases jL G h1 with h|h
 .exact absurd h (oK o_ o_)
 .rcases jL G h with h|h
  .exact h
  .rcases jL G h with h|h<;>exact h
def TJ{A B p}(G:cn p=true)(h5:5<=p)(hA:A % p≠0)(hB:B % p≠0):(3*gr A B p) % p≠0:=by
 intro h;rcases jL G h with h|h
 .exact absurd h (oK o_ o_)
 .unfold gr at h;rw[VL _ (WC p)] at h;rcases jL G h with h|h
  .rw[VL _ (WC p)] at h;rcases jL G h with h|h
   .have h3:=by
     have:=UQ h;exact Vl ((Yn).1 this)
    exact absurd h3 (oK o_ o_)
   .exact hB h
  .unfold gh dU at h;rw[VL _ (WC p)] at h;refine yG G ?_ _ h;intro h;rcases jL G h with h|h
   .exact absurd h (oK o_ o_)
   .exact hA h
def SO{a p}(G:cn p=true)(h0:a % p≠0):gi a p≠0:=by
 unfold gi;split
 .rename_i h;unfold dU at h;exact absurd h (yG G h0 _)
 .split<;>omega
def SL{A B p}(G:cn p=true)(h5:5<=p/\p<=997)(hd:aP A B % p=0)(hA:A % p≠0):(0<=gi (3*gr A B p) p↔eO (3*gr A B p) p=1):=by
 have hB:B % p≠0:=λh=>hA (TO G h5.1 hd h);have h1:=SO G (TJ G h5.1 hA hB);rw[<-um _ p G o_ o_];revert h1;unfold gi;split
 .intro h;exact absurd rfl h
 .split<;>simp
def EH(A B){p}(h:2<=p):0<=gr A B p/\gr A B p<p:=⟨UU _ o_,UO _ o_⟩
def gs(A B p:Int):Bool:=p==5&&B==0&&(A==625||A==-625)
def dH(A B p:Int):Int:=if gs A B p then A / 625 else A
def Gs{A B p}(hA:bj A)(hB:a_ B)(hd:aP A B≠0)(G:cn p=true)(h5:5<=p/\p<=997)(h:gs A B p=false):¬(A % (p*p*p*p)=0/\B % (p*p*p*p*p*p)=0):=by
 rintro⟨h1,h2⟩;have e1:625<=p*p*p*p:=by
  have a1:=Ur h5.1 h5.1 o_ o_;have a2:=Ur a1 h5.1 o_ o_;have a3:=Ur a2 h5.1 o_ o_;omega
 have e2:15625<=p*p*p*p*p*p:=by
  have a1:=Ur e1 h5.1 o_ o_;have a2:=Ur a1 h5.1 o_ o_;omega
 have aL:B=0:=by
  have⟨k,hk⟩:=UQ h2;rcases XU k 0 with h|h|h
  .have:=Ur e2 (show (1:Int)<=-k by omega) o_ o_;rw[WL] at this;omega
  .rw[h] at hk;omega
  .have:=Ur e2 (show (1:Int)<=k by omega) o_ o_;omega
 subst aL;have ba:A≠0:=by rintro rfl;exact hd d_
 by_cases h6:6<=p
 .have e1:1296<=p*p*p*p:=by
   have a1:=Ur h6 h6 o_ o_;have a2:=Ur a1 h6 o_ o_;have a3:=Ur a2 h6 o_ o_;omega
  have⟨k,hk⟩:=UQ h1;rcases XU k 0 with h|h|h
  .have:=Ur e1 (show (1:Int)<=-k by omega) o_ o_;rw[WL] at this;omega
  .rw[h] at hk;omega
  .have:=Ur e1 (show (1:Int)<=k by omega) o_ o_;omega
 .obtain rfl:p=5:=by omega
  have h3:A % 625=0:=h1;have h4:A=625\/A=-625:=o_;unfold gs at h;rcases h4 with rfl|rfl<;>simp at h
def ul{A B p}(h:gs A B p=true):p=5/\B=0/\(A=625\/A=-625):=by
 unfold gs at h;simp at h;exact⟨h.1.1,h.1.2,h.2⟩
def QV{A B p}(h:be A B=true):be (dH A B p) B=true:=by
 unfold dH;split
 .rename_i hs;obtain⟨rfl,rfl,rfl|rfl⟩:=ul hs<;>decide
 .exact h
def un{a p}(ha:a≠0)(G:2<=p)(k:Nat):val a p=k↔a % p ^ k=0/\a % p ^ (k+1)≠0:=by
 suffices H:∀(f:Nat) (a:Int) (k:Nat),a≠0->a.natAbs<=f->(eN f a p=k↔a % p ^ k=0/\a % p ^ (k+1)≠0) from H _ a k ha (Ug _)
 intro f
 induction f with
 |zero=>intro a k h1 h2;omega
 |succ f g=>
  intro a k ha hf;by_cases h:a % p=0
  .rw[xW f h];obtain⟨c,rfl⟩:=UQ h;have hc:c≠0:=by rintro rfl;simp at ha
   have hq:p*c / p=c:=Vg _ o_;rw[hq];have bq:c.natAbs<=f:=by
    rw[U8] at hf;have:=V5 (show 2<=p.natAbs by omega) (Ug c.natAbs);omega
   cases k with
   |zero=>
    have:=nr f c p;constructor
    .intro h;omega
    .rintro⟨_,h2⟩;rw[show p ^ (0+1)=p by rw[UN,Xc,Wf]] at h2;exact absurd h h2
   |succ k=>
    have h1:=g c k hc bq;have e:∀j:Nat,(p*c % p ^ (j+1)=0)↔c % p ^ j=0:=λj=>by
     rw[UN,Vm (p ^ j) p,Int.mul_emod_mul_of_pos _ _ o_];constructor
     .intro h;rcases VH.1 h with h|h
      .omega
      .exact h
     .intro h;rw[h];simp
    have e1:=e k;have e2:=e (k+1);constructor
    .intro h;have⟨x,y⟩:=h1.1 (by push_cast at h;omega);exact⟨e1.2 x,λh=>y (e2.1 h)⟩
    .rintro⟨x,y⟩;have:=h1.2 ⟨e1.1 x,λh=>y (e2.2 h)⟩;push_cast;omega
  .rw[tY _ h];cases k with
   |zero=>
    rw[show p ^ (0+1)=p by rw[UN,Xc,Wf]];simpa using h
   |succ k=>
    constructor
    .intro h;push_cast at h;omega
    .rintro⟨h1,_⟩;exfalso;refine h (Vl (Int.dvd_trans ?_ (UQ h1)));rw[UN];exact Int.dvd_mul_left _ _
def oc(A B p:Int):Bool:=A % (p*p)==0&&!(A % (p*p*p)==0)&&(B % (p*p*p)==0)&&!(B % (p*p*p*p)==0)
def SZ{A B p}(G:2<=p):oc A B p=true↔(A≠0/\B≠0/\val A p=2/\val B p=3):=by
 have e2:p*p=p ^ 2:=by simp [UN]
 have e3:p*p*p=p ^ 3:=by simp [UN]
 have e4:p*p*p*p=p ^ 4:=by simp [UN]
 unfold oc;rw[e4,e3,e2];simp;constructor
 .rintro⟨⟨⟨h1,h2⟩,h3⟩,h4⟩;have hA:A≠0:=by rintro rfl;simp at h2
  have hB:B≠0:=by rintro rfl;simp at h4
  exact⟨hA,hB,(un hA G 2).2 ⟨h1,h2⟩,(un hB G 3).2 ⟨h3,h4⟩⟩
 .rintro⟨hA,hB,h1,h2⟩;have⟨a1,a2⟩:=(un hA G 2).1 h1;have⟨b1,b2⟩:=(un hB G 3).1 h2;exact⟨⟨⟨a1,a2⟩,b1⟩,b2⟩
section
open Go Ieee
def P5(n)(hn:n<=4000000000000):∃(s m:Nat),double.sqrt (double.nearest false n 0)=some s/\(double.read s).toInt .zero=some (m:Int)/\m<=10000000:=by
 by_cases h0:n=0
 .subst h0;exact⟨0,0,by decide+kernel,by decide+kernel,by omega⟩
 .have g:n.log2<42:=vz h0 o_;have⟨m1,i,hr,a1,a2,a3,a4⟩:=tb h0 (place:=0) o_ o_;unfold Format.sqrt;rw[hr];have K:=ut a1 a2;unfold Datum.root;simp only;rw[Uj o_,Uj d_];simp only[K,show double.fractionBits+2=54 from rfl];obtain⟨c,hc,aZ⟩:∃c:Nat,2*54 - 52+((i - (2*54 - 52:Nat)) % 2).toNat=c/\(56<=c/\c<=57):=⟨_,rfl,by omega,by omega⟩
  rw[hc];have G:=sR (m1<<<c) ((m1<<<c).log2 / 2+1) 0 (UB _);generalize Datum.rootFrom (m1<<<c) ((m1<<<c).log2 / 2+1) 0=W at G;have hN:m1<<<c<2 ^ 110/\1<=m1<<<c:=by
   exact G3
  have hW:=by
   exact I9
  obtain⟨b,hb,I,J⟩:∃b:Nat,(W*W != m1<<<c).toNat=b/\b<=1/\(W=0->b=1):=⟨_,rfl,Yr _,λh=>by
   subst h;have:(0*0 != m1<<<c)=true:=by simp;omega
   rw[this];rfl⟩
  rw[hb];have hM:2*W+b≠0:=by
   intro h;have:W=0:=by omega
   have:=J this;omega
  have F:(2*W+b).log2<56:=vz hM o_;have⟨m2,p,bs,b1,b2,b3,b4⟩:=tb hM (place:=(i - c) / 2 - 1) o_ o_;refine⟨double.nearest false (2*W+b) ((i - c) / 2 - 1),m2 / (1<<<min (-p).toNat (m2.log2+2)),rfl,?_,?_⟩
  .exact Gb
  .have a7:=ut b1 b2;rw[a7,Wi,Nat.one_mul];have h1:2 ^ 30<=2 ^ min (-p).toNat (52+2):=Vw o_ o_;have h2:m2 / 2 ^ min (-p).toNat (52+2)<=m2 / 2 ^ 30:=Nat.div_le_div_left h1 d_;omega
def MT(n:Int)(hn:0<=n/\n<=4000000000000)(w):
 Rw 148 #[n] w (.tuple #[.int .i64 (if ce n then ap n else 0),.bool (ce n)]):=by
 obtain⟨k,rfl⟩:=Vu hn.1;have⟨s,m,e1,e2,hm⟩:=P5 k o_;have a5:floatOfInt .f64 (k:Int)=Ieee.double.nearest false k 0:=by
  exact Jc
 have a9:∀w,(convert 3 192 (.int .i64 (k:Int))).run Tryz.prog w=.ok (.float .f64 (Ieee.double.nearest false k 0)) w:=λw=>by
  rw[<-a5];exact run_convert_int_float w 3 192 .i64 .f64 (k:Int) k_ k_
 have a3:floatToIntVal .f64 s .i64=some (m:Int):=by
  exact EX
 have a7:∀w,(convert 192 3 (.float .f64 s)).run Tryz.prog w=.ok (.int .i64 (m:Int)) w:=λw=>run_convert_float_int w 192 3 .f64 .i64 s (m:Int) k_ k_ a3;have V:=λw=>BV _ s e1 w;have HS:=h_ V;generalize Ieee.double.nearest false k 0=f at a9 HS;have J:=nI hn.1;have a4:=kZ (k:Int);have aG:=nQ (b:=2000001) hn.1 o_ o_;have K:Hid (∀r:Int,0<=r->r*r<=(k:Int)->(k:Int)<(r+1)*(r+1)->r=ap k):=λr h0 h1 h2=>oS h0 h1 h2;generalize hk:(k:Int)=n at *;have g:Hid (ce n=(ap n*ap n==n)):=rfl;generalize ap n=q,ce n=b at *;go_enter Tryz.func148,Tryz.ntmps148;go_wp2_with (go_at_call 207;refine ay (HS.out _) ?_)
 go_loop [4] (λx=>∃r:Int,x=.int .i64 r/\0<=r/\r<=10000000) (λx=>(intOf x).toNat)
 case atStart=>exact⟨m,rfl,by omega,by omega⟩
 case round=>
  obtain⟨r,rfl,h0,h1⟩:=hrel;have F:0<=r*r/\r*r<=100000000000000:=⟨UJ h0 h0,by have:=Ur h1 h1 h0 o_;omega⟩
  by_cases I:n<r*r
  .have b4:1<=r:=by
    exact H8
   exact G5
  .go_wp2;go_loop [4] (λx=>∃r:Int,x=.int .i64 r/\0<=r/\r<=10000000/\Hid (r*r<=n)) (λx=>(10000000 - intOf x).toNat)
   case atStart=>exact⟨r,rfl,h0,h1,by show _<=_;omega⟩
   case round=>
    obtain⟨r,rfl,h0,h1,H⟩:=hrel;have b4:=zW (a:=2000001) o_ h0 (by have:=H.out;omega);have F:0<=(r+1)*(r+1)/\(r+1)*(r+1)<=100000000000000:=⟨UJ o_ o_,by have:=Ur (show r+1<=10000000 by omega) (show r+1<=10000000 by omega) o_ o_;omega⟩
    have G:0<=r*r/\r*r<=100000000000000:=⟨UJ h0 h0,by have:=Ur h1 h1 h0 o_;omega⟩
    exact JH
def yf{n}(h:n<0):ce n=false:=by
 have e:ap n=0:=by unfold ap;rw[show n.toNat=0 by omega];rfl
 unfold ce;rw[e];simp;omega
def wy(n:Int)(hn:-4000000000000<=n/\n<=4000000000000)(w):
 Rw 148 #[n] w (.tuple #[.int .i64 (if ce n then ap n else 0),.bool (ce n)]):=by
 by_cases h:0<=n
 .exact MT n ⟨h,hn.2⟩ w
 .have h0:n<0:=o_;rw[yf h0];go_enter Tryz.func148,Tryz.ntmps148;exact uE
end
def Tryz.infoR:(Tryz.prog.info? 22).map (λi=>(i.zero,i.size,i.bytes))=some (some (.slice none 0 0),1,24):=by kernel_rfl
def mp(w:World)(G:Nat)(v:Value)(L:List (Int×Int)):Prop:=
 ∃rows:List Value,w.ownsRow G 22 1 v L.length rows/\∀i (_:i<L.length),∃g,rows[i]?=some (.slice (some ⟨g,0,none⟩) 2 2)/\G<=g/\
  w.heap[g]?=some (.cells #[.int .i64 L[i].1,.int .i64 L[i].2] 3 (0,0))
def mp.nil(w)(G):mp w G (.slice none 0 0) []:=⟨[],Wv _ _ _ _,λi hi=>by simp at hi⟩
def mp.form{w}{G}{v}{L:List (Int×Int)}(h:mp w G v L):
 ∃(a:bT) (F:Nat),v=.slice a L.length F/\∀i (_:i<L.length),∃g g',a=some ⟨g,0,none⟩/\w.cell? ⟨g,i,none⟩=some (.slice (some ⟨g',0,none⟩) 2 2)/\
  w.cell? g'=some (.int .i64 L[i].1)/\w.cell? ⟨g',1,none⟩=some (.int .i64 L[i].2)/\g<w.heap.size/\G<=g/\g'<w.heap.size/\G<=g':=by
 have⟨rows,Z,hr⟩:=h;rcases Z.2 with ⟨hv,hn⟩|⟨g,F,aM,hv,hg,hh,_,_,_,ht⟩
 .exact zp
 .refine⟨some ⟨g,0,none⟩,F,hv,λi hi=>?_⟩;have⟨g',h1,h2,h3⟩:=hr i hi;refine⟨g,g',rfl,?_,?_,?_,(Uv.1 hh).1,hg,(Uv.1 h3).1,h2⟩
  .have h4:(aM.toList.take (L.length*1))[i]?=aM.toList[i]?:=UR o_;rw[ht,h1] at h4;rw[VJ] at h4;show (match w.heap[g]? with|some (.cells I _ _)=>_|_=>_)=_;rw[hh];exact h4.symm
  .show (match w.heap[g']? with|some (.cells I _ _)=>_|_=>_)=_;rw[h3];rfl
  .show (match w.heap[g']? with|some (.cells I _ _)=>_|_=>_)=_;rw[h3];rfl
def AS{ops}{rest}{o}{a}{Q}{wr}{p k:Int}(aa:o.guard=none)(s x)
 (Z:o.op=.call {callee:=.builtin .append,args:=#[s,x],argTypes:=#[263,263]})
 (G)(v)(L:List (Int×Int))(hs:a.eval s=v)(V:mp wr G v L)(hx:a.eval x=.slice (wr.heap.size+1:Nat) 1 1)
 (ac:L.length<1000000000000)(U:G<=wr.heap.size)
 (h:∀v' w1,mp w1 G v' (L++[(p,k)])->Below G wr w1->wpList Tryz.prog ops Q rest (a.put o.dst v') w1):
 wpList Tryz.prog ops Q (o::rest) a ((wr.alloc (.cells #[p,k] 3)).alloc (.cells #[.slice wr 2 2] 22)):=by
 have⟨i0,hi,bi,ax,a8⟩:=VE Tryz.infoR;have⟨rows,V,hr⟩:=V;have a3:rows.length=L.length:=by have:=V.1;omega
 refine Xn _ aa s x 263 Z G 22 i0 (.slice none 0 0) 1 24 Tryz.underlying263 hi bi ax a8 rfl d_ v L.length rows hs ((V.alloc _).alloc _) ⟨wr.heap.size+1,0,none⟩ 1 1 [.slice wr 2 2] hx rfl ?_ ?_ ?_ ?_ ?_ ?_
 .intro j u hj
  match j,hj with
  |0,hj=>
   simp at hj;subst hj;show ((wr.alloc (.cells #[p,k] 3)).alloc (.cells #[.slice wr 2 2] 22)).cell? ⟨wr.heap.size+1,0,none⟩=_;rw[World.cell?_alloc_at _ _ _ _ s_];rfl
 .intro u hu;simp at hu;subst hu;rfl
 .unfold maxLen;omega
 .omega
 .simp;omega
 .intro v' w1 J H _;refine h v' w1 ⟨_,by rw[UE];exact J,λi hi=>?_⟩ ?_
  .have K:∀g,g<wr.heap.size->some g≠v.ownBlock->w1.heap[g]?=wr.heap[g]?:=λg hg hne=>by
    rw[H.block g u_ hne,X_ _ _ _ u_,X_ _ _ _ hg]
   have hne:∀g,wr.heap[g]?≠none->(∀I,wr.heap[g]?≠some (.cells I 22 (0,0)))->some g≠v.ownBlock:=λg hg aF e=>by
    rcases V.2 with ⟨hv,_⟩|⟨g1,F,aM,hv,_,hh,_⟩
    .rw[hv] at e;cases e
    .rw[hv] at e;have:g=g1:=by injection e
     rw[this] at aF;exact aF _ hh
   by_cases aG:i<L.length
   .have⟨g,h1,h2,h3⟩:=hr i aG;refine⟨g,by rw[VI o_];exact h1,h2,?_⟩;rw[K g (Uv.1 h3).1 (hne g (by rw[h3];simp) (λI e=>by rw[h3] at e;simp at e)),h3];rw[List.getElem_append_left aG]
   .have ad:i=L.length:=by simp at hi;omega
    subst ad;refine⟨wr,by rw[Vk o_,a3];simp,U,?_⟩;have ab:some wr.heap.size≠v.ownBlock:=λe=>by
     have:=(V.lt wr e.symm).2;omega
    rw[H.block wr u_ ab,X_ _ _ _ s_];show (wr.heap.push _)[wr.heap.size]?=_;simp
  .refine (((Uk G wr).alloc U _).alloc u_ _).grown H u_ (λk hk=>?_);exact (V.lt k hk).1
def LU{w:World}{g i}{I}{t}{F:Nat×Nat}(h:w.heap[g]?=some (.cells I t F))(u):(w.setCell ⟨g,i,none⟩ u).heap[g]?=some (.cells (I.setIfInBounds i u) t F):=by
 simp [World.setCell,Array.getElem?_modify,h]
def jJ{w:World}{G}{e}{size}{v}{n}{xs}{g F:Nat}(h:w.ownsRow G e size v n xs)(hv:v=.slice g n F)(j)(u):
 (w.setCell ⟨g,j,none⟩ u).ownsRow G e size v n (xs.set j u):=by
 refine⟨by simpa using h.1,?_⟩;rcases h.2 with ⟨h0,_⟩|⟨g',ae,aM,ac,hg,hh,aL,az,aF,ht⟩
 .rw[hv] at h0;simp at h0
 .rw[hv] at ac;obtain⟨rfl,rfl⟩:g=g'/\F=ae:=by simpa using ac
  refine .inr ⟨g,F,aM.setIfInBounds j u,hv,hg,LU hh u,aL,az,by simpa using aF,?_⟩;rw[Array.toList_setIfInBounds,List.take_set,ht]
def oE{a w:World}{g}(h:a.grownBy w (some g))(o)(u):a.grownBy (w.setCell ⟨g,o,none⟩ u) (some g):=
 ⟨h.os,h.tape,h.output,by simpa[World.setCell] using h.size,λi hi hne=>(XM w ⟨g,o,none⟩ u i (by rintro rfl;exact hne rfl)).trans (h.block i hi hne)⟩
def AU{B}{w w1}{v:Value}(hg:w.grownBy w1 v.ownBlock)(hB:B<=w.heap.size)(hv:∀k,v.ownBlock=some k->B<=k):Below B w w1:=
 (Uk B w).grown hg hB hv
def Gl(h:P:=by
 clear h5;go_wp2;go_round
 case rel=>exact⟨_,g',rfl,d1,by omega,by omega,by show _=_;rw[<-HY.out];exact HS⟩
 case measure=>exact aO):=h
def Hx(h:P:=by
 go_round
 case rel=>exact⟨k+1,by omega,by go_num,by rw[HS.out]⟩
 case measure=>exact aO):=h
def La(h:P:=by
 go_wp2;go_loop [0,5] (λx n=>∃(b c:Int) (f:Nat),x=.int .i64 b/\n=.int .i64 c/\Hid (b≠0)/\(-1000000000000<=b/\b<=1000000000000)/\b.natAbs<=f/\0<=c/\c+b.natAbs<=1000000000000/\Hid (c+eN f b p=val a p)) (λx _=>(intOf x).natAbs)
 case atStart=>exact⟨a,0,a.natAbs,rfl,rfl,ha,hb,Ug _,by omega,by omega,by show _=_;rw[Int.zero_add];rfl⟩
 case round=>
  obtain⟨b,c,f,rfl,rfl,J,aL,hf,hc,a7,H⟩:=hrel;by_cases hz:b % p=0
  .obtain⟨e1,e2,e3,e4⟩:=Pb J.out G hz;obtain⟨K,rfl⟩:∃K,f=K+1:=⟨f - 1,by have:=J.out;omega⟩
   have H1:=h_ (xW K hz);have H3:=h_ e3;have hh:(b.tmod p==0)=true:=by simp [e1]
   clear e1 e3 hz;go_wp2;go_round
   case rel=>exact⟨b / p,c+1,K,rfl,rfl,H3.out,by omega,by omega,by omega,by omega,by show _=_;have:=H.out;rw[H1.out] at this;omega⟩
   case measure=>exact aO
  .have hh:(b.tmod p==0)=false:=by simpa using SB hz
   have H1:=h_ (tY f hz);clear hz;go_wp2;go_ret;refine⟨?_,rfl⟩;have:=H.out;rw[H1.out,VG] at this;rw[<-this];rfl):=h
def KY(h:P:=by
 obtain⟨d1,d2⟩:=AX F hq h5;obtain⟨g',rfl⟩:∃g',g=g'+1:=⟨g - 1,by omega⟩
 have HY:=h_ (wZ g' h5);have aa:(y % p==0)=true:=by simp [h5]
 exact Gl):=h
def Fl(h:P:=by
 clear hv h4;go_wp2_with ((go_at_call 265;refine (sO _ _ Z.out o_ o_ _).mono ?_;rintro e w' ⟨rfl,rfl⟩))
 exact Hx):=h
def F_(h:P:=by
 go_wp2;go_ret;refine⟨_,rfl,?_,a8⟩;have:=H.out;rw[HF.out,Vr] at this;rw[<-this];exact V):=h
def sO(a p:Int)(ha:a≠0)(hb:-1000000000000<=a/\a<=1000000000000)(G:2<=p)(w):
 Rw 265 #[a,p] w (val a p):=by
 go_enter Tryz.func265,Tryz.ntmps265;exact La
def sI(a p:Int)(ha:a≠0)(hb:-1000000000000<=a/\a<=1000000000000)(G:2<=p)(w):
 Rw 232 #[a,p] w (val a p):=by
 go_enter Tryz.func232,Tryz.ntmps232;exact La
def EB{n y p}{K}(h1:1<n)(_hf:dv n p<=K+1)(e:y=c_ n n):dv y (n+1)<=K/\dv y (n+1)<dv n p:=by
 rw[qp o_] at e;subst e;unfold dv;rw[Um h1];simp
def tx{n y p}{K}(h1:1<n)(G:p<=n)(hf:dv n p<=K+1)(Z:y<=n):dv y (p+1)<=K/\dv y (p+1)<dv n p:=by
 unfold dv at *;rw[Um h1] at *;split<;>omega
def Ok(m:Int)(hb:-10000000000<=m/\m<=10000000000)(w):
 Kp 311 #[m] w λe w'=>∃v,e=.returned v/\aq w' w v (gD m.natAbs)/\Below w w w':=by
 have hs:0<=m\/m<0:=o_;rcases hs with hs|hs
 all_goals
  go_enter Tryz.func311,Tryz.ntmps311;go_wp2;go_loopw [0,3,4] (λx v y wr=>∃(n p:Int) (xs:List Int) (f:Nat),x=.int .i64 n/\y=.int .i64 p/\aq wr w v xs/\Below w w wr/\0<=n/\n<=10000000000/\2<=p/\p<=10000000001/\((xs.length:Int)+2<=p/\p<=100001\/n<=1/\xs.length<=100001)/\(dv n p<=f/\True)/\Hid (xs++fu f n p=gD m.natAbs)) (λx _ y _=>dv (intOf x) (intOf y))
  case atStart=>
   refine⟨_,2,[],2*m.natAbs,rfl,rfl,aq.nil _ _,Uk _ _,by omega,by omega,by omega,by omega,.inl ⟨by simp,by omega⟩,⟨?_,trivial⟩,?_⟩
   .unfold dv;split<;>omega
   .show _=_;rw[VA];unfold gD
    first|rw[show (m.natAbs:Int)=m by omega]|rw[show (m.natAbs:Int)=-m by omega]
    congr 1;omega
  case round=>
   obtain⟨n,p,xs,f,rfl,rfl,V,a8,cz,bY,ac,az,ax,⟨hf,_⟩,H⟩:=hrel;have hz:=a8.size;by_cases h1:1<n
   .have U:(xs.length:Int)+2<=p/\p<=100001:=o_;have ad:0<=p*p/\p*p<=10000200001:=⟨UJ o_ o_,by have:=Ur U.2 U.2 o_ o_;omega⟩
    obtain⟨K,rfl⟩:∃K,f=K+1:=⟨f - 1,by unfold dv at hf;rw[Um h1] at hf;omega⟩
    by_cases h2:n<p*p
    .have HF:Hid (xs++fu (K+1) n p=(xs++[n])++fu K (c_ n n) (n+1)):=by
      show _=_;rw[NG K h1 h2,qp o_,Bp _ o_,Vr]
     have HB:∀y:Int,Hid (y=c_ n n)->(((xs++[n]).length:Int)+2<=n+1/\n+1<=100001\/y<=1/\(xs++[n]).length<=100001):=λy hy=>.inr ⟨by rw[hy.out,qp o_];omega,by simp;omega⟩;have HM:∀y:Int,Hid (y=c_ n n)->1<=y->y<=n->(dv y (n+1)<=K/\dv y (n+1)<dv n p):=λy hy _ _=>EB h1 hf hy.out;have hh:(n % n==0)=true:=s_;have hq:2<=n:=o_;go_wp2_with (at_builtin;refine fN (y:=n) rfl _ _ rfl w _ _ rfl V rfl o_ hz ?_;intro v' w1 G I cB)
     have J:=a8.trans I;go_loop [0] (λx=>∃(y:Int) (g:Nat),x=.int .i64 y/\1<=y/\y<=n/\y.toNat<=g/\Hid (ji g y n=c_ n n)) (λx=>(intOf x).toNat)
     case atStart=>exact⟨n,n.toNat,rfl,by omega,by omega,Ug _,rfl⟩
     case round=>
      obtain⟨y,g,rfl,F,Z,hg,HS⟩:=hrel;by_cases h5:y % n=0
      .have⟨d1,d2⟩:=AX F hq h5;obtain⟨g',rfl⟩:∃g',g=g'+1:=⟨g - 1,by omega⟩
       have HY:=h_ (wZ g' h5);have aa:(y % n==0)=true:=by simp [h5]
       exact Gl
      .have HN:=h_ (qt g h5);have aa:(y % n==0)=false:=by simp [h5]
       have HZ:Hid (y=c_ n n):=HN.out.symm.trans HS;go_wp2;go_roundw
       case rel=>exact⟨y,n+1,xs++[n],K,rfl,rfl,G,J,by omega,by omega,by omega,by omega,HB y HZ,⟨(HM y HZ F Z).1,trivial⟩,by show _=_;rw[HZ.out,<-HF.out];exact H⟩
       case measure=>have:=HM y HZ F Z;simp [intOf];omega
    .have⟨b4,bs⟩:=D6 ac h2 bY;by_cases h3:n % p=0
     .have HF:Hid (xs++fu (K+1) n p=(xs++[p])++fu K (c_ n p) (p+1)):=by
       show _=_;rw[No K h1 h2 h3];simp
      have HB:∀y:Int,Hid (y=c_ n p)->(((xs++[p]).length:Int)+2<=p+1/\p+1<=100001\/y<=1/\(xs++[p]).length<=100001):=λy hy=>.inl ⟨by simp;omega,by omega⟩;have HM:∀y:Int,Hid (y=c_ n p)->1<=y->y<=n->(dv y (p+1)<=K/\dv y (p+1)<dv n p):=λy _ _ Z=>tx h1 bs hf Z;have hh:(n % p==0)=true:=by simp [h3]
      have hq:2<=p:=o_;go_wp2_with (at_builtin;refine fN (y:=p) rfl _ _ rfl w _ _ rfl V rfl o_ hz ?_;intro v' w1 G I cB)
      have J:=a8.trans I;go_loop [0] (λx=>∃(y:Int) (g:Nat),x=.int .i64 y/\1<=y/\y<=n/\y.toNat<=g/\Hid (ji g y p=c_ n p)) (λx=>(intOf x).toNat)
      case atStart=>exact⟨n,n.toNat,rfl,by omega,by omega,Ug _,rfl⟩
      case round=>
       obtain⟨y,g,rfl,F,Z,hg,HS⟩:=hrel;by_cases h5:y % p=0
       .exact KY
       .have HN:=h_ (qt g h5);have aa:(y % p==0)=false:=by simp [h5]
        have HZ:Hid (y=c_ n p):=HN.out.symm.trans HS;go_wp2;go_roundw
        case rel=>exact⟨y,p+1,xs++[p],K,rfl,rfl,G,J,by omega,by omega,by omega,by omega,HB y HZ,⟨(HM y HZ F Z).1,trivial⟩,by show _=_;rw[HZ.out,<-HF.out];exact H⟩
        case measure=>have:=HM y HZ F Z;simp [intOf];omega
     .have HF:Hid (xs++fu (K+1) n p=xs++fu K (c_ n p) (p+1)):=by
       show _=_;rw[Oc K h1 h2 h3];unfold c_;rw[qt _ h3]
      have HB:∀y:Int,Hid (y=c_ n p)->((xs.length:Int)+2<=p+1/\p+1<=100001\/y<=1/\xs.length<=100001):=λy hy=>.inl ⟨by omega,by omega⟩;have HM:∀y:Int,Hid (y=c_ n p)->1<=y->y<=n->(dv y (p+1)<=K/\dv y (p+1)<dv n p):=λy _ _ Z=>tx h1 bs hf Z;have hh:(n % p==0)=false:=by simp [h3]
      have hq:2<=p:=o_;have G:=V;have J:=a8;go_wp2;go_loop [0] (λx=>∃(y:Int) (g:Nat),x=.int .i64 y/\1<=y/\y<=n/\y.toNat<=g/\Hid (ji g y p=c_ n p)) (λx=>(intOf x).toNat)
      case atStart=>exact⟨n,n.toNat,rfl,by omega,by omega,Ug _,rfl⟩
      case round=>
       obtain⟨y,g,rfl,F,Z,hg,HS⟩:=hrel;by_cases h5:y % p=0
       .exact KY
       .have HN:=h_ (qt g h5);have aa:(y % p==0)=false:=by simp [h5]
        have HZ:Hid (y=c_ n p):=HN.out.symm.trans HS;go_wp2;go_roundw
        case rel=>exact⟨y,p+1,xs,K,rfl,rfl,G,J,by omega,by omega,by omega,by omega,HB y HZ,⟨(HM y HZ F Z).1,trivial⟩,by show _=_;rw[HZ.out,<-HF.out];exact H⟩
        case measure=>have:=HM y HZ F Z;simp [intOf];omega
   .have HF:=h_ (Bp f (p:=p) (show n<=1 by omega));exact F_
def MJ(n:Int)(hn:n≠0)(hb:-31<=n/\n<=31)(w):
 Rv 272 #[n] w (ss n):=by
 have Z:=h_ hn;have⟨ab,ac,G⟩:=NP hb.1 hb.2;have I:=h_ ac;have H:=h_ G;have hs:0<=n\/n<0:=o_;rcases hs with hs|hs
 all_goals
  go_enter Tryz.func272,Tryz.ntmps272;go_wp2_with fail
  refine (Ok n o_ _).mono ?_;rintro e w1 ⟨v,rfl,V,a8⟩;obtain⟨a,F,rfl,K⟩:=V.form;have U:=h_ K;generalize hL:gD n.natAbs=L at *;have HL:=h_ hL;go_wp2;go_loop [3,11] (λo i=>∃k:Nat,k<=L.length/\i=.int .i64 k/\o=.int .i64 (jo n (L.take k) (mE n))) (λ_ i=>L.length - (intOf i).toNat)
  case atStart=>exact⟨0,UB _,rfl,by simp [jo,mE,hs]<;>omega⟩
  case round=>
   obtain⟨k,hk,rfl,rfl⟩:=hrel;by_cases aG:k<L.length
   .obtain⟨g,rfl,J,_⟩:=U.out k aG;have h2:=I.out k aG;have h4:=H.out (k+1) o_;have HS:=h_ (PR (n:=n) L (mE n) aG);generalize hx:L[k]?.getD 0=x at J h2 HS;have HX:=h_ hx;by_cases hv:val n x % 2=1
    .have hh:(val n x % 2==1)=true:=by simp [hv]
     have h0:0<=val n x:=nr _ _ _;rw[Um hv] at HS;have h5:-31<=jo n (L.take k) (mE n)*x/\jo n (L.take k) (mE n)*x<=31:=by rw[<-HS.out];exact h4
     exact Fl
    .have hh:(val n x % 2==1)=false:=by simp [hv]
     have h0:0<=val n x:=nr _ _ _;rw[Uj hv] at HS;exact Fl
   .go_wp2;go_ret;refine⟨?_,a8⟩;have:L.take k=L:=UP o_;rw[this,<-HL.out];rfl
def rg(h:P:=by
 exact rV):=h
def zR(h:P:=by
 go_enter Tryz.func225,Tryz.ntmps225;exact rg):=h
def vV(a b:Int):Int:=if b<a then a else b
def pH(a:Int):Int:=if 0<a then 1 else if a<0 then -1 else 0
def QI(a):vV a (-a)=a.natAbs:=by unfold vV;split<;>omega
def Rd(a b:Int)(w):
 Rw 172 #[a,b] w (vV a b):=by
 unfold vV;exact Ip
def lk(a:Int)(ha:iO a)(w):
 Rw 113 #[a] w a.natAbs:=by
 go_enter Tryz.func113,Tryz.ntmps113;go_wp2_with ((go_at_call 172;refine ay (Rd _ _ _) ?_))
 go_ret;exact⟨by rw[<-(h_ (QI a)).out];rfl,rfl⟩
def xC(a:Int)(w):
 Rw 225 #[a] w (pH a):=by
 unfold pH;by_cases h:0<a
 .rw[Um h];exact zR
 .rw[Uj h];by_cases h2:a<0
  .rw[Um h2];exact zR
  .rw[Uj h2];exact zR
def Fz(h:P:=by
 unfold be at hC;simp only[Ux] at hC;exact⟨bH hC.1.1,bH hC.1.2⟩):=h
def pE(h:P:=by
 exact⟨rfl,af I J.size J⟩):=h
def IV(h:P:=by
 clear hv h4;go_wp2;exact Hx):=h
def NA(m:Int)(hb:0<=m/\m<=10000000000)(w):
 Kp 327 #[m] w λe w'=>∃v,e=.returned v/\mp w' w v (fT m)/\Below w w w':=by
 go_enter Tryz.func327,Tryz.ntmps327;go_wp2;go_loopw [0,3,4] (λx v y wr=>∃(n p:Int) (xs:List (Int×Int)) (f:Nat),x=.int .i64 n/\y=.int .i64 p/\mp wr w v xs/\Below w w wr/\0<=n/\n<=10000000000/\2<=p/\p<=10000000001/\((xs.length:Int)+2<=p/\p<=100001\/n<=1/\xs.length<=100001)/\(dv n p<=f/\True)/\Hid (xs++fU f n p=fT m)) (λx _ y _=>dv (intOf x) (intOf y))
 case atStart=>
  refine⟨_,2,[],2*m.toNat,rfl,rfl,mp.nil _ _,Uk _ _,by omega,by omega,by omega,by omega,.inl ⟨by simp,by omega⟩,⟨?_,trivial⟩,?_⟩
  .unfold dv;split<;>omega
  .show _=_;rw[VA];rfl
 case round=>
  obtain⟨n,p,xs,f,rfl,rfl,V,a8,cz,bY,ac,az,ax,⟨hf,_⟩,H⟩:=hrel;have hz:=a8.size;by_cases h1:1<n
  .have U:(xs.length:Int)+2<=p/\p<=100001:=o_;have ad:0<=p*p/\p*p<=10000200001:=⟨UJ o_ o_,by have:=Ur U.2 U.2 o_ o_;omega⟩
   obtain⟨K,rfl⟩:∃K,f=K+1:=⟨f - 1,by unfold dv at hf;rw[Um h1] at hf;omega⟩
   by_cases h2:n<p*p
   .have HF:Hid (xs++fU (K+1) n p=(xs++[(n,val n n)])++fU K (c_ n n) (n+1)):=by
     show _=_;rw[PH K h1 h2,qp o_,Cc _ o_,Vr]
    have HB:∀y:Int,Hid (y=c_ n n)->(((xs++[(n,val n n)]).length:Int)+2<=n+1/\n+1<=100001\/y<=1/\(xs++[(n,val n n)]).length<=100001):=λy hy=>.inr ⟨by rw[hy.out,qp o_];omega,by simp;omega⟩;have HM:∀y:Int,Hid (y=c_ n n)->y<=n->(dv y (n+1)<=K/\dv y (n+1)<dv n p):=λy hy _=>EB h1 hf hy.out;have ab:=Ei (q:=n) (show 1<=n by omega) Int.emod_self;have ae:0<=val n n:=o_;have aF:val n n<=n.natAbs:=yd _ _ _;have hq:2<=n:=o_;go_wp2_with (first|(at_builtin;refine AS (p:=n) (k:=val n n) rfl _ _ rfl w _ _ rfl V rfl o_ hz ?_;intro v' w1 G I)|(go_at_call 232;refine (sI _ _ o_ o_ o_ _).mono ?_;rintro e w' ⟨rfl,rfl⟩))
    have J:=a8.trans I;go_loop [0,5] (λx j=>∃(y:Int) (i:Nat),x=.int .i64 y/\j=.int .i64 (i:Int)/\0<=y/\y<=n/\(i:Int)<=10000000000/\Hid (om i y n=c_ n n)) (λ_ j=>(intOf j).toNat)
    case atStart=>exact⟨n,(val n n).toNat,rfl,by rw[Int.toNat_of_nonneg ae],by omega,by omega,by omega,BS o_⟩
    case round=>
     obtain⟨y,i,rfl,rfl,F,Z,hi,HS⟩:=hrel;by_cases h5:0<i
     .obtain⟨i',rfl⟩:∃i',i=i'+1:=⟨i - 1,by omega⟩
      have d1:0<=y / n:=VY F o_;have d2:y / n<=n:=Int.le_trans (VQ _ F) Z;go_wp2;go_round
      case rel=>exact⟨y / n,i',rfl,by go_num,d1,d2,by omega,HS⟩
      case measure=>simp [intOf]
     .have bb:i=0:=o_;subst bb;have HZ:Hid (y=c_ n n):=HS;go_wp2;go_roundw
      case rel=>exact⟨y,n+1,xs++[(n,val n n)],K,rfl,rfl,G,J,by omega,by omega,by omega,by omega,HB y HZ,⟨(HM y HZ Z).1,trivial⟩,by show _=_;rw[HZ.out,<-HF.out];exact H⟩
      case measure=>have:=HM y HZ Z;simp [intOf];omega
   .have⟨b4,bs⟩:=D6 ac h2 bY;by_cases h3:n % p=0
    .have HF:Hid (xs++fU (K+1) n p=(xs++[(p,val n p)])++fU K (c_ n p) (p+1)):=by
      show _=_;rw[OL K h1 h2 h3];simp
     have HB:∀y:Int,Hid (y=c_ n p)->(((xs++[(p,val n p)]).length:Int)+2<=p+1/\p+1<=100001\/y<=1/\(xs++[(p,val n p)]).length<=100001):=λy hy=>.inl ⟨by simp;omega,by omega⟩;have HM:∀y:Int,Hid (y=c_ n p)->y<=n->(dv y (p+1)<=K/\dv y (p+1)<dv n p):=λy _ Z=>tx h1 bs hf Z;have ab:=Ei (show 1<=n by omega) h3;have ae:0<=val n p:=o_;have aF:val n p<=n.natAbs:=yd _ _ _;have hq:2<=p:=o_;go_wp2_with (first|(at_builtin;refine AS (p:=p) (k:=val n p) rfl _ _ rfl w _ _ rfl V rfl o_ hz ?_;intro v' w1 G I)|(go_at_call 232;refine (sI _ _ o_ o_ o_ _).mono ?_;rintro e w' ⟨rfl,rfl⟩))
     have J:=a8.trans I;go_loop [0,5] (λx j=>∃(y:Int) (i:Nat),x=.int .i64 y/\j=.int .i64 (i:Int)/\0<=y/\y<=n/\(i:Int)<=10000000000/\Hid (om i y p=c_ n p)) (λ_ j=>(intOf j).toNat)
     case atStart=>exact⟨n,(val n p).toNat,rfl,by rw[Int.toNat_of_nonneg ae],by omega,by omega,by omega,BS o_⟩
     case round=>
      obtain⟨y,i,rfl,rfl,F,Z,hi,HS⟩:=hrel;by_cases h5:0<i
      .obtain⟨i',rfl⟩:∃i',i=i'+1:=⟨i - 1,by omega⟩
       have d1:0<=y / p:=VY F o_;have d2:y / p<=n:=Int.le_trans (VQ _ F) Z;go_wp2;go_round
       case rel=>exact⟨y / p,i',rfl,by go_num,d1,d2,by omega,HS⟩
       case measure=>simp [intOf]
      .have bb:i=0:=o_;subst bb;have HZ:Hid (y=c_ n p):=HS;go_wp2;go_roundw
       case rel=>exact⟨y,p+1,xs++[(p,val n p)],K,rfl,rfl,G,J,by omega,by omega,by omega,by omega,HB y HZ,⟨(HM y HZ Z).1,trivial⟩,by show _=_;rw[HZ.out,<-HF.out];exact H⟩
       case measure=>have:=HM y HZ Z;simp [intOf];omega
    .have HF:=h_ (P4 K h1 h2 h3);have hv:=QX h3;have HM:=tx h1 bs hf (Int.le_refl n);go_wp2_with (first|(go_at_call 232;refine (sI _ _ o_ o_ o_ _).mono ?_;rintro e w' ⟨rfl,rfl⟩))
     go_roundw
     case rel=>exact⟨n,p+1,xs,K,rfl,rfl,V,a8,by omega,by omega,by omega,by omega,.inl ⟨by omega,by omega⟩,⟨HM.1,trivial⟩,by show _=_;rw[<-HF.out];exact H⟩
     case measure=>exact aO
  .have HF:=h_ (Cc f (p:=p) (show n<=1 by omega));exact F_
def ON(n:Int)(hb:1<=n/\n<=31)(w):
 Rv 291 #[n] w (sD n):=by
 have⟨ab,ac,G⟩:=PG (n:=n) o_ o_;rw[Um o_] at G;have I:=h_ ac;have H:=h_ G;have Z:Hid (sD n=iP (fT n.natAbs) 1):=by show _=_;unfold sD;rw[Um o_]
 have Hs:Hid (pH n=1):=by show _=_;unfold pH;rw[Um o_]
 go_enter Tryz.func291,Tryz.ntmps291;go_wp2_with ((go_at_call 225;refine ay (xC _ _) ?_))
 have aa:=Hs.out;rw[aa];go_wp2_with ((go_at_call 113;refine (lk _ o_ _).mono ?_;rintro e w' ⟨rfl,rfl⟩))
 refine (NA _ o_ _).mono ?_;rintro e w1 ⟨v,rfl,V,a8⟩;obtain⟨a,F,rfl,K⟩:=V.form;have U:=h_ K;generalize hL:fT n.natAbs=L at *;go_wp2;go_loop [3,12] (λo i=>∃k:Nat,k<=L.length/\i=.int .i64 k/\o=.int .i64 (iP (L.take k) 1)) (λ_ i=>L.length - (intOf i).toNat)
 case atStart=>exact⟨0,UB _,rfl,by simp [iP]⟩
 case round=>
  obtain⟨k,hk,rfl,rfl⟩:=hrel;by_cases aG:k<L.length
  .obtain⟨g,g',rfl,J,ad,aZ,_⟩:=U.out k aG;have h2:=I.out k aG;have h4:=H.out (k+1) o_;have HS:=h_ (Pr L 1 aG);generalize hx:L[k].1=x at ad h2 HS;generalize hy:L[k].2=y at aZ h2 HS;have HX:=h_ hx;have HY:=h_ hy;by_cases hv:y % 2=1
   .have hh:(y % 2==1)=true:=by simp [hv]
    rw[Um hv] at HS;have h5:-31<=iP (L.take k) 1*x/\iP (L.take k) 1*x<=31:=by rw[<-HS.out];exact h4
    exact IV
   .have hh:(y % 2==1)=false:=by simp [hv]
    rw[Uj hv] at HS;exact IV
  .go_wp2;go_ret;refine⟨?_,a8⟩;have:L.take k=L:=UP o_;rw[this,Z.out];rfl
noncomputable def jl(n:Int):Bool:=av n 1 31&&pM n
def C2(n:Int)(w):
 Rv 241 #[n] w (.bool (jl n)):=by
 unfold jl;cases h1:av n 1 31
 .go_enter Tryz.func241,Tryz.ntmps241;go_wp2_with ((go_at_call 104;refine ay (cw _ _ _ _) ?_))
  exact rW
 .have hb:=bH h1;have HS:=h_ (Ez (show n≠0 by omega) (show -31<=n by omega) o_);go_enter Tryz.func241,Tryz.ntmps241;go_wp2_with (first|(go_at_call 104;refine ay (cw _ _ _ _) ?_)|(go_at_call 291;refine ai (ON _ hb _) λw1 I=>?_))
  go_ret;exact⟨by rw[<-HS.out,<-(h_ (Tw (show n≠0 by omega) (show -31<=n by omega) o_)).out];rfl,I⟩
def tC(n:Int)(w):
 Rv 217 #[n] w (.bool (jl n)):=by
 unfold jl;cases h1:av n 1 31
 .go_enter Tryz.func217,Tryz.ntmps217;exact Hq
 .have hb:=bH h1;go_enter Tryz.func217,Tryz.ntmps217;go_wp2_with (first|(go_at_call 63;refine ay (cR _ _ _ _) ?_)|(go_at_call 272;refine (MJ _ o_ o_ _).mono ?_;rintro e w1 ⟨rfl,I⟩))
  go_ret;exact⟨by rw[<-(h_ (Ez (show n≠0 by omega) (show -31<=n by omega) o_)).out];rfl,I⟩
def rs(o:Bool)(A:Int):Int:=if o then A else 0
def fe{A B}(h:be A B=true):(-1000<=A/\A<=1000)/\(-10000<=B/\B<=10000):=by
 unfold be at h;simp at h;exact⟨bH h.1.1,bH h.1.2⟩
def Fj(h:P:=by
 obtain rfl:j=13:=by omega
 go_wp2;go_round
 case rel=>exact⟨_,_,_,⟨k+1,by omega,rfl,rfl,rfl⟩,by rw[ac.out],by rw[V.out],by go_num⟩
 case measure=>exact aO):=h
def FF(h:P:=by
 obtain rfl:i=13:=by omega
 go_wp2;go_round
 case rel=>exact⟨j+1,by omega,by rw[ad.out];go_num,by rw[ab.out];go_num,by go_num⟩
 case measure=>exact aO):=h
def FJ(h:P:=by
 clear I G J g;go_wp2;go_round
 case rel=>exact⟨i+1,by omega,by rw[H.out];go_num,by rw[F.out];go_num,by go_num⟩
 case measure=>exact aO):=h
def Ii(h:P:=by
 go_enter Tryz.func242,Tryz.ntmps242;go_wp2_with ((go_at_call 292;refine (Qj _ _ _ o_ o_ _).mono ?_;rintro e w' ⟨rfl,rfl⟩))
 go_ret2;exact⟨rfl,rfl⟩):=h
def Hf(h:P:=by
 clear I G J g;go_wp2;go_round
 case rel=>exact⟨i+1,by omega,by rw[H.out],by rw[F.out];go_num,by go_num⟩
 case measure=>exact aO):=h
def He(h:P:=by
 clear I G J g;go_wp2;go_round
 case rel=>exact⟨i+1,by omega,by rw[H.out];go_num,by rw[F.out],by go_num⟩
 case measure=>exact aO):=h
def GC(h:P:=by
 clear I G J g;go_wp2;go_round
 case rel=>exact⟨i+1,by omega,by rw[H.out],by rw[F.out],by go_num⟩
 case measure=>exact aO):=h
def fY(f:Int->Int):Nat->Int
 |0=>0
 |k+1=>fY f k+f ((k:Int) - 6)
theorem ua(f:Int->Int)(B:Int)(hf:∀x,0<=f x/\f x<=B):∀k:Nat,0<=fY f k/\fY f k<=k*B
 |0=>by simp [fY]
 |k+1=>by
  have:=ua f B hf k;have h2:=hf ((k:Int) - 6);rw[show ((k+1:Nat):Int)*B=k*B+B by rw[Int.natCast_succ,XG,Wf]];unfold fY;omega
def eh(a b n x y z:Int):Int:=if a*x*x+y*y+b*z*z=n then 1 else 0
def bA(a b n x y:Int)(k:Nat):Int:=fY (eh a b n x y) k
def ds(a b n x:Int)(k:Nat):Int:=fY (λy=>bA a b n x y 13) k
def dV(a b n:Int)(k:Nat):Int:=fY (λx=>ds a b n x 13) k
def jM(a b n:Int):Int:=dV a b n 13
def RV(a b n x y z:Int):0<=eh a b n x y z/\eh a b n x y z<=1:=by unfold eh;split<;>omega
def pc(a b n x y:Int)(k:Nat):0<=bA a b n x y k/\bA a b n x y k<=k:=by have:=ua _ 1 (RV a b n x y) k;unfold bA;omega
def ph(a b n x:Int)(k:Nat):0<=ds a b n x k/\ds a b n x k<=k*13:=ua _ 13 (λy=>by have:=pc a b n x y 13;omega) k
def pe(a b n:Int)(k:Nat):0<=dV a b n k/\dV a b n k<=k*169:=ua _ 169 (λy=>by have:=ph a b n y 13;omega) k
def tz(a b n:Int):0<=jM a b n/\jM a b n<=2197:=by have:=pe a b n 13;unfold jM;omega
def qO{a b x y z:Int}(ha:0<=a/\a<=4)(hb:0<=b/\b<=32)(hx:-6<=x/\x<=6)(hy:-6<=y/\y<=6)(hz:-6<=z/\z<=6):
 (-24<=a*x/\a*x<=24)/\(-144<=a*x*x/\a*x*x<=144)/\(-36<=y*y/\y*y<=36)/\(-192<=b*z/\b*z<=192)/\(-1152<=b*z*z/\b*z*z<=1152):=by
 have h1:=aJ (x:=a) (y:=x) 4 6 o_ hx;have h2:=aJ (x:=a*x) (y:=x) 24 6 o_ hx;have h3:=aJ (x:=y) (y:=y) 6 6 hy hy;have h4:=aJ (x:=b) (y:=z) 32 6 o_ hz;have h5:=aJ (x:=b*z) (y:=z) 192 6 o_ hz;omega
def Qj(a b n:Int)(ha:0<=a/\a<=4)(hb:0<=b/\b<=32)(w:World):
 Rw 292 #[a,b,n] w (jM a b n):=by
 go_enter Tryz.func292,Tryz.ntmps292;go_wp2;go_loop [7,8] (λc x=>∃k:Nat,k<=13/\c=.int .i64 (dV a b n k)/\x=.int .i64 ((k:Int) - 6)) (λ_ x=>(7 - intOf x).toNat)
 case atStart=>exact⟨0,by omega,rfl,rfl⟩
 case round=>
  obtain⟨k,hk,rfl,rfl⟩:=hrel;have bX:=pe a b n k;by_cases aG:k<13
  .have HX:Hid (dV a b n (k+1)=dV a b n k+ds a b n ((k:Int) - 6) 13):=rfl;generalize hx:(k:Int) - 6=x at *;go_wp2;go_loop [7,9] (λc y=>∃j:Nat,j<=13/\c=.int .i64 (dV a b n k+ds a b n x j)/\y=.int .i64 ((j:Int) - 6)) (λ_ y=>(7 - intOf y).toNat)
   case atStart=>exact⟨0,by omega,by simp [ds,fY],rfl⟩
   case round=>
    obtain⟨j,hj,rfl,rfl⟩:=hrel;have bY:=ph a b n x j;by_cases K:j<13
    .have HY:Hid (ds a b n x (j+1)=ds a b n x j+bA a b n x ((j:Int) - 6) 13):=rfl;generalize hy:(j:Int) - 6=y at *;go_wp2;go_loop [7,10] (λc z=>∃i:Nat,i<=13/\c=.int .i64 (dV a b n k+ds a b n x j+bA a b n x y i)/\z=.int .i64 ((i:Int) - 6)) (λ_ z=>(7 - intOf z).toNat)
     case atStart=>exact⟨0,by omega,by simp [bA,fY],rfl⟩
     case round=>
      obtain⟨i,hi,rfl,rfl⟩:=hrel;have bZ:=pc a b n x y i;by_cases aa:i<13
      .have HZ:Hid (bA a b n x y (i+1)=bA a b n x y i+eh a b n x y ((i:Int) - 6)):=rfl;generalize hz:(i:Int) - 6=z at *;obtain⟨f1,f2,f3,f4,f5⟩:=qO (x:=x) (y:=y) (z:=z) ha hb o_ o_ o_;by_cases ht:a*x*x+y*y+b*z*z=n
       .have g:Hid (bA a b n x y (i+1)=bA a b n x y i+1):=by show _=_;rw[HZ.out];unfold eh;rw[Um ht]
        have hh:(a*x*x+y*y+b*z*z==n)=true:=by simpa using ht
        clear HZ ht;go_wp2;go_round
        case rel=>exact⟨i+1,by omega,by rw[g.out];go_num,by go_num⟩
        case measure=>exact aO
       .have g:Hid (bA a b n x y (i+1)=bA a b n x y i):=by show _=_;rw[HZ.out];unfold eh;rw[Uj ht,VG]
        have hh:(a*x*x+y*y+b*z*z==n)=false:=by simpa using ht
        clear HZ ht;go_wp2;go_round
        case rel=>exact⟨i+1,by omega,by rw[g.out],by go_num⟩
        case measure=>exact aO
      .obtain rfl:i=13:=by omega
       go_wp2;go_round
       case rel=>exact⟨j+1,by omega,by rw[HY.out];go_num,by go_num⟩
       case measure=>exact aO
    .obtain rfl:j=13:=by omega
     go_wp2;go_round
     case rel=>exact⟨k+1,by omega,by rw[HX.out],by go_num⟩
     case measure=>exact aO
  .obtain rfl:k=13:=by omega
   exact rg
def LR(n:Int)(hn:1<=n/\n<=31)(Z:n % 2=1)(w:World):
 Rw 218 #[n] w (.tuple #[jM 2 8 n,jM 2 32 n]):=by
 have h1:(n % 2==0)=false:=u_;go_enter Tryz.func218,Tryz.ntmps218;go_wp2;go_loop [5,6,7] (λc d x=>∃k:Nat,k<=13/\c=.int .i64 (dV 2 8 n k)/\d=.int .i64 (dV 2 32 n k)/\x=.int .i64 ((k:Int) - 6)) (λ_ _ x=>(7 - intOf x).toNat)
 case atStart=>exact⟨0,by omega,rfl,rfl,rfl⟩
 case round=>
  obtain⟨k,hk,rfl,rfl,rfl⟩:=hrel;have bX:=pe 2 8 n k;have ax:=pe 2 32 n k;by_cases aG:k<13
  .have ac:Hid (dV 2 8 n (k+1)=dV 2 8 n k+ds 2 8 n ((k:Int) - 6) 13):=rfl;have V:Hid (dV 2 32 n (k+1)=dV 2 32 n k+ds 2 32 n ((k:Int) - 6) 13):=rfl;generalize hx:(k:Int) - 6=x at *;go_wp2;go_loop [5,6,8] (λc d y=>∃j:Nat,j<=13/\c=.int .i64 (dV 2 8 n k+ds 2 8 n x j)/\d=.int .i64 (dV 2 32 n k+ds 2 32 n x j)/\y=.int .i64 ((j:Int) - 6)) (λ_ _ y=>(7 - intOf y).toNat)
   case atStart=>exact⟨0,by omega,by simp [ds,fY],by simp [ds,fY],rfl⟩
   case round=>
    obtain⟨j,hj,rfl,rfl,rfl⟩:=hrel;have bY:=ph 2 8 n x j;have ae:=ph 2 32 n x j;by_cases K:j<13
    .have ad:Hid (ds 2 8 n x (j+1)=ds 2 8 n x j+bA 2 8 n x ((j:Int) - 6) 13):=rfl;have ab:Hid (ds 2 32 n x (j+1)=ds 2 32 n x j+bA 2 32 n x ((j:Int) - 6) 13):=rfl;generalize hy:(j:Int) - 6=y at *;go_wp2;go_loop [5,6,9] (λc d z=>∃i:Nat,i<=13/\c=.int .i64 (dV 2 8 n k+ds 2 8 n x j+bA 2 8 n x y i)/\d=.int .i64 (dV 2 32 n k+ds 2 32 n x j+bA 2 32 n x y i)/\z=.int .i64 ((i:Int) - 6)) (λ_ _ z=>(7 - intOf z).toNat)
     case atStart=>exact⟨0,by omega,by simp [bA,fY],by simp [bA,fY],rfl⟩
     case round=>
      obtain⟨i,hi,rfl,rfl,rfl⟩:=hrel;have bZ:=pc 2 8 n x y i;have az:=pc 2 32 n x y i;by_cases aa:i<13
      .have I:Hid (bA 2 8 n x y (i+1)=bA 2 8 n x y i+eh 2 8 n x y ((i:Int) - 6)):=rfl;have G:Hid (bA 2 32 n x y (i+1)=bA 2 32 n x y i+eh 2 32 n x y ((i:Int) - 6)):=rfl;generalize hz:(i:Int) - 6=z at *;obtain⟨f1,f2,f3,f4,f5⟩:=qO (a:=2) (b:=8) (x:=x) (y:=y) (z:=z) o_ o_ o_ o_ o_;obtain⟨_,_,_,f6,f7⟩:=qO (a:=2) (b:=32) (x:=x) (y:=y) (z:=z) o_ o_ o_ o_ o_;by_cases J:2*x*x+y*y+8*z*z=n
       .by_cases g:2*x*x+y*y+32*z*z=n
        .have H:Hid (bA 2 8 n x y (i+1)=bA 2 8 n x y i+1):=by show _=_;rw[I.out];unfold eh;rw[Um J]
         have h8:(2*x*x+y*y+8*z*z==n)=true:=by simpa using J
         have F:Hid (bA 2 32 n x y (i+1)=bA 2 32 n x y i+1):=by show _=_;rw[G.out];unfold eh;rw[Um g]
         have U:(2*x*x+y*y+32*z*z==n)=true:=by simpa using g
         exact FJ
        .have H:Hid (bA 2 8 n x y (i+1)=bA 2 8 n x y i+1):=by show _=_;rw[I.out];unfold eh;rw[Um J]
         have h8:(2*x*x+y*y+8*z*z==n)=true:=by simpa using J
         have F:Hid (bA 2 32 n x y (i+1)=bA 2 32 n x y i):=by show _=_;rw[G.out];unfold eh;rw[Uj g,VG]
         have U:(2*x*x+y*y+32*z*z==n)=false:=by simpa using g
         exact He
       .by_cases g:2*x*x+y*y+32*z*z=n
        .have H:Hid (bA 2 8 n x y (i+1)=bA 2 8 n x y i):=by show _=_;rw[I.out];unfold eh;rw[Uj J,VG]
         have h8:(2*x*x+y*y+8*z*z==n)=false:=by simpa using J
         have F:Hid (bA 2 32 n x y (i+1)=bA 2 32 n x y i+1):=by show _=_;rw[G.out];unfold eh;rw[Um g]
         have U:(2*x*x+y*y+32*z*z==n)=true:=by simpa using g
         exact Hf
        .have H:Hid (bA 2 8 n x y (i+1)=bA 2 8 n x y i):=by show _=_;rw[I.out];unfold eh;rw[Uj J,VG]
         have h8:(2*x*x+y*y+8*z*z==n)=false:=by simpa using J
         have F:Hid (bA 2 32 n x y (i+1)=bA 2 32 n x y i):=by show _=_;rw[G.out];unfold eh;rw[Uj g,VG]
         have U:(2*x*x+y*y+32*z*z==n)=false:=by simpa using g
         exact GC
      .exact FF
    .exact Fj
  .obtain rfl:k=13:=by omega
   exact uE
def LL(N n:Int)(hN:1<=N/\N<=31)(he:N % 2=0)(hn:N / 2=n)(w:World):
 Rw 218 #[N] w (.tuple #[jM 4 8 n,jM 4 32 n]):=by
 have h1:(N % 2==0)=true:=u_;have Z:0<=n/\n<=15:=o_;go_enter Tryz.func218,Tryz.ntmps218;go_wp2;go_loop [5,6,7] (λc d x=>∃k:Nat,k<=13/\c=.int .i64 (dV 4 8 n k)/\d=.int .i64 (dV 4 32 n k)/\x=.int .i64 ((k:Int) - 6)) (λ_ _ x=>(7 - intOf x).toNat)
 case atStart=>exact⟨0,by omega,rfl,rfl,rfl⟩
 case round=>
  obtain⟨k,hk,rfl,rfl,rfl⟩:=hrel;have bX:=pe 4 8 n k;have ax:=pe 4 32 n k;by_cases aG:k<13
  .have ac:Hid (dV 4 8 n (k+1)=dV 4 8 n k+ds 4 8 n ((k:Int) - 6) 13):=rfl;have V:Hid (dV 4 32 n (k+1)=dV 4 32 n k+ds 4 32 n ((k:Int) - 6) 13):=rfl;generalize hx:(k:Int) - 6=x at *;go_wp2;go_loop [5,6,8] (λc d y=>∃j:Nat,j<=13/\c=.int .i64 (dV 4 8 n k+ds 4 8 n x j)/\d=.int .i64 (dV 4 32 n k+ds 4 32 n x j)/\y=.int .i64 ((j:Int) - 6)) (λ_ _ y=>(7 - intOf y).toNat)
   case atStart=>exact⟨0,by omega,by simp [ds,fY],by simp [ds,fY],rfl⟩
   case round=>
    obtain⟨j,hj,rfl,rfl,rfl⟩:=hrel;have bY:=ph 4 8 n x j;have ae:=ph 4 32 n x j;by_cases K:j<13
    .have ad:Hid (ds 4 8 n x (j+1)=ds 4 8 n x j+bA 4 8 n x ((j:Int) - 6) 13):=rfl;have ab:Hid (ds 4 32 n x (j+1)=ds 4 32 n x j+bA 4 32 n x ((j:Int) - 6) 13):=rfl;generalize hy:(j:Int) - 6=y at *;go_wp2;go_loop [5,6,9] (λc d z=>∃i:Nat,i<=13/\c=.int .i64 (dV 4 8 n k+ds 4 8 n x j+bA 4 8 n x y i)/\d=.int .i64 (dV 4 32 n k+ds 4 32 n x j+bA 4 32 n x y i)/\z=.int .i64 ((i:Int) - 6)) (λ_ _ z=>(7 - intOf z).toNat)
     case atStart=>exact⟨0,by omega,by simp [bA,fY],by simp [bA,fY],rfl⟩
     case round=>
      obtain⟨i,hi,rfl,rfl,rfl⟩:=hrel;have bZ:=pc 4 8 n x y i;have az:=pc 4 32 n x y i;by_cases aa:i<13
      .have I:Hid (bA 4 8 n x y (i+1)=bA 4 8 n x y i+eh 4 8 n x y ((i:Int) - 6)):=rfl;have G:Hid (bA 4 32 n x y (i+1)=bA 4 32 n x y i+eh 4 32 n x y ((i:Int) - 6)):=rfl;generalize hz:(i:Int) - 6=z at *;obtain⟨f1,f2,f3,f4,f5⟩:=qO (a:=4) (b:=8) (x:=x) (y:=y) (z:=z) o_ o_ o_ o_ o_;obtain⟨_,_,_,f6,f7⟩:=qO (a:=4) (b:=32) (x:=x) (y:=y) (z:=z) o_ o_ o_ o_ o_;by_cases J:4*x*x+y*y+8*z*z=n
       .by_cases g:4*x*x+y*y+32*z*z=n
        .have H:Hid (bA 4 8 n x y (i+1)=bA 4 8 n x y i+1):=by show _=_;rw[I.out];unfold eh;rw[Um J]
         have h8:(4*x*x+y*y+8*z*z==n)=true:=by simpa using J
         have F:Hid (bA 4 32 n x y (i+1)=bA 4 32 n x y i+1):=by show _=_;rw[G.out];unfold eh;rw[Um g]
         have U:(4*x*x+y*y+32*z*z==n)=true:=by simpa using g
         exact FJ
        .have H:Hid (bA 4 8 n x y (i+1)=bA 4 8 n x y i+1):=by show _=_;rw[I.out];unfold eh;rw[Um J]
         have h8:(4*x*x+y*y+8*z*z==n)=true:=by simpa using J
         have F:Hid (bA 4 32 n x y (i+1)=bA 4 32 n x y i):=by show _=_;rw[G.out];unfold eh;rw[Uj g,VG]
         have U:(4*x*x+y*y+32*z*z==n)=false:=by simpa using g
         exact He
       .by_cases g:4*x*x+y*y+32*z*z=n
        .have H:Hid (bA 4 8 n x y (i+1)=bA 4 8 n x y i):=by show _=_;rw[I.out];unfold eh;rw[Uj J,VG]
         have h8:(4*x*x+y*y+8*z*z==n)=false:=by simpa using J
         have F:Hid (bA 4 32 n x y (i+1)=bA 4 32 n x y i+1):=by show _=_;rw[G.out];unfold eh;rw[Um g]
         have U:(4*x*x+y*y+32*z*z==n)=true:=by simpa using g
         exact Hf
        .have H:Hid (bA 4 8 n x y (i+1)=bA 4 8 n x y i):=by show _=_;rw[I.out];unfold eh;rw[Uj J,VG]
         have h8:(4*x*x+y*y+8*z*z==n)=false:=by simpa using J
         have F:Hid (bA 4 32 n x y (i+1)=bA 4 32 n x y i):=by show _=_;rw[G.out];unfold eh;rw[Uj g,VG]
         have U:(4*x*x+y*y+32*z*z==n)=false:=by simpa using g
         exact GC
      .exact FF
    .exact Fj
  .obtain rfl:k=13:=by omega
   exact uE
noncomputable def gv(n:Int):Int:=if n % 2=1 then jM 2 8 n else jM 4 8 (n / 2)
noncomputable def gu(n:Int):Int:=if n % 2=1 then jM 2 32 n else jM 4 32 (n / 2)
def vy(n:Int):(0<=gv n/\gv n<=2197)/\(0<=gu n/\gu n<=2197):=by
 unfold gv gu;have h1:=tz 2 8 n;have h2:=tz 4 8 (n / 2);have h3:=tz 2 32 n;have h4:=tz 4 32 (n / 2);constructor<;>(split<;>omega)
def wB(n:Int)(hn:1<=n/\n<=31)(w:World):
 Rw 218 #[n] w (.tuple #[gv n,gu n]):=by
 unfold gv gu;by_cases h:n % 2=1
 .rw[Um h,Um h];exact LR n hn h w
 .rw[Uj h,Uj h];exact LL n (n / 2) hn o_ rfl w
def OH(n:Int)(hn:1<=n/\n<=31)(w:World):
 Rw 242 #[n] w (.tuple #[gv n,gu n]):=by
 unfold gv gu;by_cases h:n % 2=1
 .rw[Um h,Um h];have h1:(n % 2==1)=true:=by simpa using h
  exact Ii
 .rw[Uj h,Uj h];have h1:(n % 2==1)=false:=by simpa using h
  exact Ii
noncomputable def nj(n:Int):Bool:=gv n==2*gu n
def x_(n:Int)(hn:1<=n/\n<=31)(w:World):
 Rw 187 #[n] w (.bool (nj n)):=by
 have hb:=vy n;go_enter Tryz.func187,Tryz.ntmps187;go_wp2_with ((go_at_call 242;refine ay (OH _ hn _) ?_))
 go_ret;exact⟨rfl,rfl⟩
end Go.Proofs.YtaamhakdhaolmaaGreatDoor
