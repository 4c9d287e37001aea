/- Part 13. -/
import Derived.StillTailTactics
import Derived.Deep.Cut
import Derived.Test.YtaamhakdhaolmaaGreatDoorSam
namespace Go.Proofs.YtaamhakdhaolmaaGreatDoor
open Go.RowKit Go.Proofs.Tryz
set_option maxHeartbeats 8000000
set_option maxRecDepth 100000
variable {P:Prop}
set_option linter.all false
def zU(h:P:=by
 exact rV):=h
def g_(a b:Int):Int:=if a<b then -1 else if b<a then 1 else 0
def gk(x y:Int×Int):Int:=if g_ x.1 y.1=0 then g_ x.2 y.2 else g_ x.1 y.1
def Ed{a b}:(g_ a b<0)↔a<b:=by unfold g_;split;omega;split<;>omega
def rj{a b}:(g_ a b=0)↔a=b:=by unfold g_;split;omega;split<;>omega
def TE{x y:Int×Int}:(gk x y<0)↔(x.1<y.1\/(x.1=y.1/\x.2<y.2)):=by
 unfold gk;have h1:=Ed (a:=x.1) (b:=y.1);have h2:=rj (a:=x.1) (b:=y.1);have h3:=Ed (a:=x.2) (b:=y.2);split<;>omega
def xH(a b:Int)(w):Kp 100 #[a,b] w λe w'=>e=.returned (g_ a b)/\w'=w:=by
 unfold g_;exact KJ
def UW(r:Nat)(x y)(w)(h0:w.cell? r=some (.int .i64 x))(h1:w.cell? ⟨r,1,none⟩=some (.int .i64 y)):Kp 99 #[.slice r 2 2] w λe w'=>e=.returned (.int .i64 (if x=0 then y else x))/\w'=w:=by
 go_enter func99,ntmps99;go_wp2;go_loopw [8] (λi wr=>∃k:Nat,k<=2/\i=.int .i64 k/\(1<=k->x=0)/\(2<=k->y=0)/\wr=w) (λi _=>2 - (intOf i).toNat)
 case atStart=>exact⟨0,VH _,rfl,λh=>by omega,λh=>by omega,rfl⟩
 case round=>
  obtain⟨k,hk,rfl,K,i2,rfl⟩:=hrel;rcases (show k=0\/k=1\/k=2 by omega) with rfl|rfl|rfl
  .by_cases hx:x=0
   .subst hx;go_wp2;go_roundw
    case rel=>exact⟨1,o_,by go_num,λ_=>by simp,λh=>by omega,s_⟩
    case measure=>simp [intOf]
   .have g:(x != 0)=true:=by simpa using hx
    exact zU
  .have hx:=K o_;subst hx;by_cases hy:y=0
   .subst hy;go_wp2;go_roundw
    case rel=>exact⟨2,o_,by go_num,λ_=>by simp,λ_=>by simp,s_⟩
    case measure=>simp [intOf]
   .have aG:(y != 0)=true:=by simpa using hy
    exact zU
  .have hx:=K o_;have hy:=i2 o_;subst hx hy;exact zU
def B2(x y:Int×Int)(w):Rv 67 #[.agg #[x.1,x.2],.agg #[y.1,y.2]] w (gk x y):=by
 have HC:=h_ (λa b w=>xH a b w);unfold gk;have⟨a,b⟩:=x;have⟨c,d⟩:=y;simp only;have HX:=λw=>xH a c w;have HY:=λw=>xH b d w;generalize g_ a c=x,g_ b d=y at *;have H:=h_ HX;have g:=h_ HY;obtain⟨kA,kB,-⟩:=cO w #[a,b] 42 #[c,d] 42;obtain⟨-,-,J⟩:=nw w #[a,b] 42 #[c,d] 42;go_enter func67,ntmps67;go_wp2;generalize (w.alloc _).alloc _=W,w.heap.size+1=rb,hS:w.heap.size=I at *;have HS:=h_ hS;clear hS;replace kA:=kA.drew;replace kB:=kB.drew;have⟨aG,F⟩:=kA.q2;have⟨G,ac⟩:=kB.q2;refine wp_region_still_tail 10 k_ k_ ?_;simp;change wpStill _ _ W.drew (λa'=>wpList _ _ _ _ a' W.drew) _ _
 iterate 4 still_step
 still_call (H.out _)
 iterate 4 still_step
 still_call (g.out _)
 refine YK ?_;go_wp2_with (go_at_call 99;refine (UW _ x y _ s_ s_).mono ?_;rintro e w' ⟨rfl,rfl⟩)
 all_goals
  go_ret;refine⟨rfl,?_⟩;rw[HS.out];exact ag (((Vn W W).drew).alloc (Vj _) _) (HS.out▸J.size) J
def xL{x y:Int×Int}:decide (gk x y<0)=dO x y:=by
 have h1:=TE (x:=x) (y:=y);have h2:=qU (x:=x) (y:=y);cases h:dO x y
 .rw[h] at h2;exact We (λh3=>by have:=h2.2 (h1.1 h3);cases this)
 .exact Xn (h1.2 (h2.1 h))
def Rz{x y:Int×Int}:gk x y=0↔x=y:=by
 have h1:=rj (a:=x.1) (b:=y.1);have h2:=rj (a:=x.2) (b:=y.2);unfold gk;rw[Prod.ext_iff];split<;>omega
def RS{a b}:qc (a - b)=g_ a b:=by
 unfold qc g_;split
 .split
  .omega
  .rw[Vo o_]
 .split
  .rw[Vo o_]
  .rw[Vm o_,Vm o_]
def CH(x y:Int×Int)(hx:(-100000<=x.1/\x.1<=100000)/\(-100000<=x.2/\x.2<=100000))(hy:(-100000<=y.1/\y.1<=100000)/\(-100000<=y.2/\y.2<=100000))(w):
 Rv 173 #[.agg #[x.1,x.2],.agg #[y.1,y.2]] w (gk x y):=by
 have⟨a,b⟩:=x;have⟨c,d⟩:=y;simp only at hx hy ⊢;have h1:=λW=>yb (a - c) W;have h2:=λW=>yb (b - d) W;rw[RS] at h1 h2;have H1:=h_ h1;have H2:=h_ h2;have⟨kA,kB,J⟩:=cO w #[a,b] 42 #[c,d] 42;unfold gk;simp only;by_cases g:a=c
 .have he:=rj.2 g;rw[Vo he];have hne:(a != c)=false:=by simpa using g
  clear he g H1;generalize g_ b d=r at *;go_enter func173,ntmps173;go_upto_region 1 with fail
  generalize (w.alloc _).alloc _=W at *;have⟨aG,F⟩:=kA.q2;have⟨G,ac⟩:=kB.q2;go_wp2_with ((go_at_call 225;refine aA (H2.out _) ?_))
  go_ret;exact⟨rfl,J⟩
 .have he:¬g_ a c=0:=λh=>g (rj.1 h);rw[Vm he];have hne:(a != c)=true:=by simpa using g
  generalize g_ a c=r at *;go_enter func173,ntmps173;go_upto_region 1 with fail
  generalize (w.alloc _).alloc _=W at *;have⟨aG,_⟩:=kA.q2;have⟨G,_⟩:=kB.q2;go_wp2_with ((go_at_call 225;refine aA (H1.out _) ?_))
  go_ret;exact⟨rfl,J⟩
def xV(e:E5)(w):
 Kp 66 #[cI e] w λr w'=>r=.returned (.bool (gj e))/\af w w w':=by
 have⟨⟨A,B⟩,lo,hi,t⟩:=e;simp only[cI,gj];have HC:=h_ (jV A B);have⟨kE,J⟩:=ay w #[A,B,lo,hi,t] 70;generalize be A B=cb at *;have H1:=h_ (dh lo 0 hi);have H2:=h_ (dh t 0 16);generalize aw lo 0 hi=b1,aw t 0 16=b2 at *;go_enter func66,ntmps66;go_upto_region 1 with fail
 generalize w.alloc _=W at *;have⟨a4,aZ,a8,a5,ad,bv⟩:=kE.p5;go_wp2_with fail
 refine (HC.out W).mono ?_;rintro r w1 ⟨rfl,I⟩;have F:=ag I J.size J;replace kE:=kE.next I
 have⟨_,_,a8,a5,ad⟩:=kE.q5;cases cb
 .go_wp2;go_ret;exact⟨s_,F⟩
 cases b1
 .go_wp2_with ((go_at_call 63;refine aA (H1.out _) ?_))
  go_ret;exact⟨s_,F⟩
 .by_cases K:hi<=20
  .cases b2
   all_goals
    go_wp2_with (go_at_call 63;first|(with_reducible refine aA (H1.out _) ?_)|(with_reducible refine aA (H2.out _) ?_))
    go_ret;exact⟨by simp [K],F⟩
  .go_wp2_with ((go_at_call 63;refine aA (H1.out _) ?_))
   go_ret;exact⟨by simp;intro h;omega,F⟩
def xR(e:E5)(w):
 Kp 118 #[cI e] w λr w'=>r=.returned (.bool (gj e))/\af w w w':=by
 have⟨⟨A,B⟩,lo,hi,t⟩:=e;simp only[cI,gj];have HC:=h_ (f_ A B);have⟨kE,J⟩:=ay w #[A,B,lo,hi,t] 70;generalize be A B=cb at *;have H:=h_ (cK hi 0 20);have H1:=h_ (cK lo 0 hi);have H2:=h_ (cK t 0 16);have hv:Hid ((aw lo 0 hi&&decide (hi<=20)&&aw t 0 16)=(aw hi 0 20&&aw lo 0 hi&&aw t 0 16)):=h_ (by
  unfold aw;by_cases h1:0<=lo<;>by_cases h2:lo<=hi<;>by_cases h3:hi<=20<;>by_cases h4:0<=hi<;>simp [h1,h2,h3,h4]<;>omega)
 generalize aw hi 0 20=b0,aw lo 0 hi=b1,aw t 0 16=b2,decide (hi<=20)=b3 at *;go_enter func118,ntmps118;go_upto_region 1 with fail
 generalize w.alloc _=W at *;have⟨a4,aZ,a8,a5,ad,bv⟩:=kE.p5;go_wp2_with fail
 refine (HC.out W).mono ?_;rintro r w1 ⟨rfl,I⟩;have F:=ag I J.size J;replace kE:=kE.next I
 have⟨_,_,a8,a5,ad⟩:=kE.q5;cases cb
 .go_wp2;go_ret;exact⟨s_,F⟩
 cases b0
 .go_wp2_with ((go_at_call 104;refine aA (H.out _) ?_))
  go_ret;exact⟨by have:=hv.out;simp at this ⊢;exact this,F⟩
 .cases b1
  .go_wp2_with (go_at_call 104;first|(with_reducible refine aA (H.out _) ?_)|(with_reducible refine aA (H1.out _) ?_))
   go_ret;exact⟨s_,F⟩
  .cases b2
   all_goals
    go_wp2_with (go_at_call 104;first|(with_reducible refine aA (H.out _) ?_)|(with_reducible refine aA (H1.out _) ?_)|(with_reducible refine aA (H2.out _) ?_))
    go_ret;exact⟨by have:=hv.out;simp at this ⊢;try exact this,F⟩
def FQ(h:P:=by
 have b8:=ag K G.size G;go_wp2;go_roundw
 case rel=>exact⟨j+1+1,o_,by go_num,b8⟩
 case measure=>exact aJ):=h
def Hm(h:P:=by
 have b8:=ag K G.size G;go_wp2;go_roundw
 case rel=>exact⟨1,o_,by go_num,b8⟩
 case measure=>exact aJ):=h
def UM(h:P:=by
 go_wp2;exact sK):=h
def ni{e:E5}(h:gj e=true):(-1000<=e.1.1/\e.1.1<=1000)/\(-10000<=e.1.2/\e.1.2<=10000)/\(0<=e.2.1/\e.2.1<=20)/\(0<=e.2.2.1/\e.2.2.1<=20)/\(0<=e.2.2.2/\e.2.2.2<=16):=by
 rw[tU] at h;have h1:(-1000<=e.1.1/\e.1.1<=1000)/\(-10000<=e.1.2/\e.1.2<=10000):=by
  have:=h.1;unfold be at this;simp at this;exact⟨bO this.1.1,bO this.1.2⟩
 omega
def E4{L}(h:eJ L){i}(hi:i+1<L.length):gk (L[i]'o_).1 (L[i+1]'hi).1<0:=by
 have h1:=h.2.1.at (show i<i+1 by omega) hi;rw[<-xL] at h1;exact Yp h1
def w_(b0)(v)(L)(hL:eJ L)(w)(Z:an w b0 v L):
 Kp 50 #[v] w λr w'=>r=.returned true/\af w w w':=by
 obtain⟨a,F,rfl,_,hf⟩:=Z.form;have HF:=h_ hf;have HL:=h_ hL;have b5:=hL.2.2;go_enter func50,ntmps50;go_upto_region 2 with fail
 go_loopw [7] (λiv wr=>∃k:Nat,k<=L.length/\iv=.int .i64 k/\af w w wr) (λiv _=>L.length - (intOf iv).toNat)
 case atStart=>exact⟨0,VH _,rfl,Vn _ _⟩
 case round=>
  obtain⟨k,hk,rfl,aL⟩:=hrel
  rename World=>wr
  by_cases aG:k<L.length
  .have b3:(k:Int)<(L.length:Int):=o_;obtain⟨g,rfl,hg,_,_,q0,q1,q2,q3,q4⟩:=HF.out k aG;have d0:wr.cell? ⟨g,k*5,none⟩=_:=(aL.cell (p:=⟨g,k*5,none⟩) hg).trans q0;have d1:wr.cell? ⟨g,k*5+1,none⟩=_:=(aL.cell (p:=⟨g,k*5+1,none⟩) hg).trans q1;have d2:wr.cell? ⟨g,k*5+2,none⟩=_:=(aL.cell (p:=⟨g,k*5+2,none⟩) hg).trans q2;have d3:wr.cell? ⟨g,k*5+3,none⟩=_:=(aL.cell (p:=⟨g,k*5+3,none⟩) hg).trans q3;have d4:wr.cell? ⟨g,k*5+4,none⟩=_:=(aL.cell (p:=⟨g,k*5+4,none⟩) hg).trans q4;have aa:=HL.out.1 _ (VC aG);have a6:g<wr.heap.size:=Vp hg aL.size;cases k with
   |zero=>
    clear q0 q1 q2 q3 q4;have h1:=λW=>xV (L[0]) W;rw[aa] at h1;generalize L[0]=e at *;obtain⟨⟨a,b⟩,lo,hi,t⟩:=e;simp only[cI] at h1 d0 d1 d2 d3 d4;have H1:=h_ h1;clear h1 aa;obtain⟨kE,ab⟩:=ay wr #[a,b,lo,hi,t] 70;have G:=ag ab aL.size aL;go_upto_region 4 with fail
    clear d0 d1 d2 d3 d4 ab a6;generalize wr.alloc _=W3 at *;have⟨a4,aZ,a8,a5,ad,bv⟩:=kE.p5
    (refine bR k_ k_ ?_;(repeat (go_big_quiet_step ((go_at_call 66;with_reducible exact Calls.quiet_cls ao _ (H1.out _)))));refine wpQuiet_nil ?_;intro w4 K)
    exact Hm
   |succ j=>
    obtain⟨g',e',_,_,_,p0,p1,_⟩:=HF.out j o_;obtain rfl:g'=g:=by simpa using e'.symm
    have c0:wr.cell? ⟨g',j*5,none⟩=_:=(aL.cell (p:=⟨g',j*5,none⟩) hg).trans p0;have c1:wr.cell? ⟨g',j*5+1,none⟩=_:=(aL.cell (p:=⟨g',j*5+1,none⟩) hg).trans p1;have ae:=E4 HL.out aG;have bs:=HL.out.1 _ (VC (show j<L.length by omega));clear q0 q1 q2 q3 q4 p0 p1 e';have h1:=λW=>xV (L[j+1]) W;rw[aa] at h1;have b7:=ni aa;have az:=ni bs;have h2:=λW=>B2 (L[j]'o_).1 (L[j+1]).1 W;generalize L[j+1]=e at *;generalize (L[j]'o_)=e2 at *;obtain⟨⟨a,b⟩,lo,hi,t⟩:=e;have⟨⟨a2,b2⟩,bY,bZ,t2⟩:=e2;simp only[cI] at h1 h2 d0 d1 d2 d3 d4 c0 c1 ae;generalize gk (a2,b2) (a,b)=cm at *;have I:¬0<=cm:=o_;have J:(j:Int)<(L.length:Int):=o_;have⟨kE,ab⟩:=ay wr #[a,b,lo,hi,t] 70;have G:=ag ab aL.size aL;have V:=(ab.cell (p:=⟨g',j*5,none⟩) a6).trans c0;have U:=(ab.cell (p:=⟨g',j*5+1,none⟩) a6).trans c1;go_upto_region 4 with fail
    have c7:=Vp a6 ab.size;generalize wr.alloc _=W3 at *;have⟨a4,aZ,a8,a5,ad,bv⟩:=kE.p5
    (refine bR k_ k_ ?_;(repeat (go_big_quiet_step ((first|(go_at_call 66;with_reducible exact Calls.quiet_cls ao _ ((h_ h1).out _))|(go_at_call 67;with_reducible exact Calls.quiet_cls ao _ ((h_ h2).out _))))));refine wpQuiet_nil ?_;intro w4 K)
    exact FQ
  .have b3:¬(k:Int)<(L.length:Int):=o_;have H:(L.length:Int)<=12:=o_;go_wp2;go_ret;exact⟨by simp [H],aL⟩
def tV(b0)(v)(L)(hL:eJ L)(w)(Z:an w b0 v L):
 Kp 117 #[v] w λr w'=>r=.returned true/\af w w w':=by
 obtain⟨a,F,rfl,_,hf⟩:=Z.form;have HF:=h_ hf;have HL:=h_ hL;have b5:=hL.2.2;have H:¬(12:Int)<(L.length:Int):=o_;go_enter func117,ntmps117;go_upto_region 4 with fail
 go_loopw [10] (λiv wr=>∃k:Nat,k<=L.length/\iv=.int .i64 k/\af w w wr) (λiv _=>L.length - (intOf iv).toNat)
 case atStart=>exact⟨0,VH _,rfl,Vn _ _⟩
 case round=>
  obtain⟨k,hk,rfl,aL⟩:=hrel
  rename World=>wr
  by_cases aG:k<L.length
  .have b3:(k:Int)<(L.length:Int):=o_;obtain⟨g,rfl,hg,_,_,q0,q1,q2,q3,q4⟩:=HF.out k aG;have d0:wr.cell? ⟨g,k*5,none⟩=_:=(aL.cell (p:=⟨g,k*5,none⟩) hg).trans q0;have d1:wr.cell? ⟨g,k*5+1,none⟩=_:=(aL.cell (p:=⟨g,k*5+1,none⟩) hg).trans q1;have d2:wr.cell? ⟨g,k*5+2,none⟩=_:=(aL.cell (p:=⟨g,k*5+2,none⟩) hg).trans q2;have d3:wr.cell? ⟨g,k*5+3,none⟩=_:=(aL.cell (p:=⟨g,k*5+3,none⟩) hg).trans q3;have d4:wr.cell? ⟨g,k*5+4,none⟩=_:=(aL.cell (p:=⟨g,k*5+4,none⟩) hg).trans q4;have aa:=HL.out.1 _ (VC aG);have a6:g<wr.heap.size:=Vp hg aL.size;cases k with
   |zero=>
    clear q0 q1 q2 q3 q4;have h1:=λW=>xR (L[0]) W;rw[aa] at h1;generalize L[0]=e at *;obtain⟨⟨a,b⟩,lo,hi,t⟩:=e;simp only[cI] at h1 d0 d1 d2 d3 d4;have H1:=h_ h1;clear h1 aa;obtain⟨kE,ab⟩:=ay wr #[a,b,lo,hi,t] 70;have G:=ag ab aL.size aL;go_upto_region 6 with fail
    clear d0 d1 d2 d3 d4 ab a6;generalize wr.alloc _=W3 at *;have⟨a4,aZ,a8,a5,ad,bv⟩:=kE.p5
    (refine bR k_ k_ ?_;(repeat (go_big_quiet_step ((go_at_call 118;with_reducible exact Calls.quiet_cls ao _ (H1.out _)))));refine wpQuiet_nil ?_;intro w4 K)
    exact Hm
   |succ j=>
    obtain⟨g',e',_,_,_,p0,p1,_⟩:=HF.out j o_;obtain rfl:g'=g:=by simpa using e'.symm
    have c0:wr.cell? ⟨g',j*5,none⟩=_:=(aL.cell (p:=⟨g',j*5,none⟩) hg).trans p0;have c1:wr.cell? ⟨g',j*5+1,none⟩=_:=(aL.cell (p:=⟨g',j*5+1,none⟩) hg).trans p1;have ae:=E4 HL.out aG;have bs:=HL.out.1 _ (VC (show j<L.length by omega));clear q0 q1 q2 q3 q4 p0 p1 e';have h1:=λW=>xR (L[j+1]) W;rw[aa] at h1;have b7:=ni aa;have az:=ni bs;have h2:=λW=>CH (L[j]'o_).1 (L[j+1]).1 o_ o_ W;generalize L[j+1]=e at *;generalize (L[j]'o_)=e2 at *;obtain⟨⟨a,b⟩,lo,hi,t⟩:=e;have⟨⟨a2,b2⟩,bY,bZ,t2⟩:=e2;simp only[cI] at h1 h2 d0 d1 d2 d3 d4 c0 c1 ae;generalize gk (a2,b2) (a,b)=cm at *;have I:¬0<=cm:=o_;have J:(j:Int)<(L.length:Int):=o_;have⟨kE,ab⟩:=ay wr #[a,b,lo,hi,t] 70;have G:=ag ab aL.size aL;have V:=(ab.cell (p:=⟨g',j*5,none⟩) a6).trans c0;have U:=(ab.cell (p:=⟨g',j*5+1,none⟩) a6).trans c1;go_upto_region 6 with fail
    have c7:=Vp a6 ab.size;generalize wr.alloc _=W3 at *;have⟨a4,aZ,a8,a5,ad,bv⟩:=kE.p5
    (refine bR k_ k_ ?_;(repeat (go_big_quiet_step ((first|(go_at_call 118;with_reducible exact Calls.quiet_cls ao _ ((h_ h1).out _))|(go_at_call 173;with_reducible exact Calls.quiet_cls ao _ ((h_ h2).out _))))));refine wpQuiet_nil ?_;intro w4 K)
    exact FQ
  .have b3:¬(k:Int)<(L.length:Int):=o_;go_wp2;go_ret;exact⟨rfl,aL⟩
def Nr(b0)(v)(L)(hL:12<L.length)(w)(Z:an w b0 v L):
 Kp 117 #[v] w λr w'=>r=.returned false/\af w w w':=by
 obtain⟨a,F,rfl,_,_⟩:=Z.form;have H:(12:Int)<(L.length:Int):=o_;go_enter func117,ntmps117;exact UM
end Go.Proofs.YtaamhakdhaolmaaGreatDoor
