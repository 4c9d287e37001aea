/- Part 12. -/
import Derived.StillTailTactics
import Derived.Deep.Cut
import Derived.Test.YtaamhakdhaolmaaGreatDoorAal
namespace Go.Proofs.YtaamhakdhaolmaaGreatDoor
open Go.RowKit
set_option maxHeartbeats 8000000
set_option maxRecDepth 100000
variable {P:Prop}
set_option linter.all false
def zg(h:P:=by
 exact rg):=h
def gL(a b:Int):Int:=if a<b then -1 else if b<a then 1 else 0
def fX(x y:Int×Int):Int:=if gL x.1 y.1=0 then gL x.2 y.2 else gL x.1 y.1
def Dy{a b}:(gL a b<0)↔a<b:=by unfold gL;split;omega;split<;>omega
def qP{a b}:(gL a b=0)↔a=b:=by unfold gL;split;omega;split<;>omega
def SI{x y:Int×Int}:(fX x y<0)↔(x.1<y.1\/(x.1=y.1/\x.2<y.2)):=by
 unfold fX;have h1:=Dy (a:=x.1) (b:=y.1);have h2:=qP (a:=x.1) (b:=y.1);have h3:=Dy (a:=x.2) (b:=y.2);split<;>omega
def xc(a b:Int)(w):Kp 100 #[a,b] w λe w'=>e=.returned (gL a b)/\w'=w:=by
 unfold gL;exact JW
def TQ(r:Nat)(x y)(w)(h0:w.cell? r=some (.int .i64 x))(h1:w.cell? ⟨r,1,none⟩=some (.int .i64 y)):Kp 99 #[.slice r 2 2] w λe w'=>e=.returned (.int .i64 (if x=0 then y else x))/\w'=w:=by
 go_enter Tryz.func99,Tryz.ntmps99;go_wp2;go_loopw [8] (λi wr=>∃k:Nat,k<=2/\i=.int .i64 k/\(1<=k->x=0)/\(2<=k->y=0)/\wr=w) (λi _=>2 - (intOf i).toNat)
 case atStart=>exact⟨0,UB _,rfl,λh=>by omega,λh=>by omega,rfl⟩
 case round=>
  obtain⟨k,hk,rfl,U,i2,rfl⟩:=hrel;rcases (show k=0\/k=1\/k=2 by omega) with rfl|rfl|rfl
  .by_cases hx:x=0
   .subst hx;go_wp2;go_roundw
    case rel=>exact⟨1,by omega,by go_num,λ_=>by simp,λh=>by omega,by simp⟩
    case measure=>simp [intOf]
   .have g:(x != 0)=true:=by simpa using hx
    exact zg
  .have hx:=U o_;subst hx;by_cases hy:y=0
   .subst hy;go_wp2;go_roundw
    case rel=>exact⟨2,by omega,by go_num,λ_=>by simp,λ_=>by simp,by simp⟩
    case measure=>simp [intOf]
   .have aX:(y != 0)=true:=by simpa using hy
    exact zg
  .have hx:=U o_;have hy:=i2 o_;subst hx hy;exact zg
def By(x y:Int×Int)(w):Rv 67 #[.agg #[x.1,x.2],.agg #[y.1,y.2]] w (fX x y):=by
 have HC:=h_ (λa b w=>xc a b w);unfold fX;have⟨a,b⟩:=x;have⟨c,d⟩:=y;simp only;have HX:=λw=>xc a c w;have HY:=λw=>xc b d w;generalize gL a c=x,gL b d=y at *;have F:=h_ HX;have g:=h_ HY;obtain⟨kA,kB,-⟩:=cr w #[a,b] 42 #[c,d] 42;obtain⟨-,-,J⟩:=oh w #[a,b] 42 #[c,d] 42;go_enter Tryz.func67,Tryz.ntmps67;go_wp2;generalize (w.alloc _).alloc _=W,w.heap.size+1=rb,hS:w.heap.size=Z at *;have HS:=h_ hS;clear hS;replace kA:=kA.drew;replace kB:=kB.drew;have⟨bs,ba⟩:=kA.q2;have⟨bb,bo⟩:=kB.q2;refine wp_region_still_tail 10 k_ k_ ?_;simp;change wpStill _ _ W.drew (λa'=>wpList _ _ _ _ a' W.drew) _ _
 iterate 4 still_step
 still_call (F.out _)
 iterate 4 still_step
 still_call (g.out _)
 refine XH ?_;go_wp2_with (go_at_call 99;refine (TQ _ x y _ s_ s_).mono ?_;rintro e w' ⟨rfl,rfl⟩)
 all_goals
  go_ret;refine⟨rfl,?_⟩;rw[HS.out];exact af (((Uk W W).drew).alloc (Ug _) _) (HS.out▸J.size) J
def xf{x y:Int×Int}:decide (fX x y<0)=dF x y:=by
 have h1:=SI (x:=x) (y:=y);have h2:=qB (x:=x) (y:=y);cases h:dF x y
 .rw[h] at h2;exact Vb (λh3=>by have:=h2.2 (h1.1 h3);cases this)
 .exact V2 (h1.2 (h2.1 h))
def QJ{x y:Int×Int}:fX x y=0↔x=y:=by
 have h1:=qP (a:=x.1) (b:=y.1);have h2:=qP (a:=x.2) (b:=y.2);unfold fX;rw[Prod.ext_iff];split<;>omega
def QZ{a b}:pH (a - b)=gL a b:=by
 unfold pH gL;split
 .split
  .omega
  .rw[Um o_]
 .split
  .rw[Um o_]
  .rw[Uj o_,Uj o_]
def B8(x y:Int×Int)(hx:(-100000<=x.1/\x.1<=100000)/\(-100000<=x.2/\x.2<=100000))(hy:(-100000<=y.1/\y.1<=100000)/\(-100000<=y.2/\y.2<=100000))(w):
 Rv 173 #[.agg #[x.1,x.2],.agg #[y.1,y.2]] w (fX x y):=by
 have⟨a,b⟩:=x;have⟨c,d⟩:=y;simp only at hx hy ⊢;have h1:=λW=>xC (a - c) W;have h2:=λW=>xC (b - d) W;rw[QZ] at h1 h2;have H1:=h_ h1;have H2:=h_ h2;have⟨kA,kB,J⟩:=cr w #[a,b] 42 #[c,d] 42;unfold fX;simp only;by_cases g:a=c
 .have he:=qP.2 g;rw[Um he];have hne:(a != c)=false:=by simpa using g
  clear he g H1;generalize gL b d=r at *;go_enter Tryz.func173,Tryz.ntmps173;go_upto_region 1 with fail
  generalize (w.alloc _).alloc _=W at *;have⟨bs,ba⟩:=kA.q2;have⟨bb,bo⟩:=kB.q2;go_wp2_with ((go_at_call 225;refine ay (H2.out _) ?_))
  go_ret;exact⟨rfl,J⟩
 .have he:¬gL a c=0:=λh=>g (qP.1 h);rw[Uj he];have hne:(a != c)=true:=by simpa using g
  generalize gL a c=r at *;go_enter Tryz.func173,Tryz.ntmps173;go_upto_region 1 with fail
  generalize (w.alloc _).alloc _=W at *;have⟨bs,_⟩:=kA.q2;have⟨bb,_⟩:=kB.q2;go_wp2_with ((go_at_call 225;refine ay (H1.out _) ?_))
  go_ret;exact⟨rfl,J⟩
def xq(e:E5)(w):
 Kp 66 #[cq e] w λr w'=>r=.returned (.bool (fW e))/\Below w w w':=by
 have⟨⟨A,B⟩,lo,hi,t⟩:=e;simp only[cq,fW];have HC:=h_ (jG A B);have⟨kE,J⟩:=aw w #[A,B,lo,hi,t] 70;generalize be A B=cb at *;have H1:=h_ (cR lo 0 hi);have H2:=h_ (cR t 0 16);generalize av lo 0 hi=b1,av t 0 16=b2 at *;go_enter Tryz.func66,Tryz.ntmps66;go_upto_region 1 with fail
 generalize w.alloc _=W at *;have⟨a4,aZ,ba,a5,ad⟩:=kE.q5;have bY:=kE.lt;go_wp2_with fail
 refine (HC.out W).mono ?_;rintro r w1 ⟨rfl,I⟩;have bb:=af I J.size J;replace kE:=kE.next I
 have⟨_,_,ba,a5,ad⟩:=kE.q5;cases cb
 .go_wp2;go_ret;exact⟨by simp,bb⟩
 cases b1
 .go_wp2_with ((go_at_call 63;refine ay (H1.out _) ?_))
  go_ret;exact⟨by simp,bb⟩
 .by_cases K:hi<=20
  .cases b2
   all_goals
    go_wp2_with (go_at_call 63;first|(with_reducible refine ay (H1.out _) ?_)|(with_reducible refine ay (H2.out _) ?_))
    go_ret;exact⟨by simp [K],bb⟩
  .go_wp2_with ((go_at_call 63;refine ay (H1.out _) ?_))
   go_ret;exact⟨by simp;intro h;omega,bb⟩
def xl(e:E5)(w):
 Kp 118 #[cq e] w λr w'=>r=.returned (.bool (fW e))/\Below w w w':=by
 have⟨⟨A,B⟩,lo,hi,t⟩:=e;simp only[cq,fW];have HC:=h_ (fP A B);have⟨kE,J⟩:=aw w #[A,B,lo,hi,t] 70;generalize be A B=cb at *;have F:=h_ (cw hi 0 20);have H1:=h_ (cw lo 0 hi);have H2:=h_ (cw t 0 16);have hv:Hid ((av lo 0 hi&&decide (hi<=20)&&av t 0 16)=(av hi 0 20&&av lo 0 hi&&av t 0 16)):=h_ (by
  unfold av;by_cases h1:0<=lo<;>by_cases h2:lo<=hi<;>by_cases h3:hi<=20<;>by_cases h4:0<=hi<;>simp [h1,h2,h3,h4]<;>omega)
 generalize av hi 0 20=b0,av lo 0 hi=b1,av t 0 16=b2,decide (hi<=20)=b3 at *;go_enter Tryz.func118,Tryz.ntmps118;go_upto_region 1 with fail
 generalize w.alloc _=W at *;have⟨a4,aZ,ba,a5,ad⟩:=kE.q5;have bY:=kE.lt;go_wp2_with fail
 refine (HC.out W).mono ?_;rintro r w1 ⟨rfl,I⟩;have bb:=af I J.size J;replace kE:=kE.next I
 have⟨_,_,ba,a5,ad⟩:=kE.q5;cases cb
 .go_wp2;go_ret;exact⟨by simp,bb⟩
 cases b0
 .go_wp2_with ((go_at_call 104;refine ay (F.out _) ?_))
  go_ret;exact⟨by have:=hv.out;simp at this ⊢;exact this,bb⟩
 .cases b1
  .go_wp2_with (go_at_call 104;first|(with_reducible refine ay (F.out _) ?_)|(with_reducible refine ay (H1.out _) ?_))
   go_ret;exact⟨by simp,bb⟩
  .cases b2
   all_goals
    go_wp2_with (go_at_call 104;first|(with_reducible refine ay (F.out _) ?_)|(with_reducible refine ay (H1.out _) ?_)|(with_reducible refine ay (H2.out _) ?_))
    go_ret;exact⟨by have:=hv.out;simp at this ⊢;try exact this,bb⟩
def E9(h:P:=by
 have ax:=af K G.size G;go_wp2;go_roundw
 case rel=>exact⟨j+1+1,by omega,by go_num,ax⟩
 case measure=>exact aO):=h
def GF(h:P:=by
 have ax:=af K G.size G;go_wp2;go_roundw
 case rel=>exact⟨1,by omega,by go_num,ax⟩
 case measure=>exact aO):=h
def nU(h:P:=by
 go_wp2;exact rW):=h
def mW{e:E5}(h:fW e=true):(-1000<=e.1.1/\e.1.1<=1000)/\(-10000<=e.1.2/\e.1.2<=10000)/\(0<=e.2.1/\e.2.1<=20)/\(0<=e.2.2.1/\e.2.2.1<=20)/\(0<=e.2.2.2/\e.2.2.2<=16):=by
 rw[tu] at h;have h1:(-1000<=e.1.1/\e.1.1<=1000)/\(-10000<=e.1.2/\e.1.2<=10000):=by
  have:=h.1;unfold be at this;simp at this;exact⟨bH this.1.1,bH this.1.2⟩
 omega
def Ej{L}(h:eA L){i}(hi:i+1<L.length):fX (L[i]'o_).1 (L[i+1]'hi).1<0:=by
 have h1:=h.2.1.at (show i<i+1 by omega) hi;rw[<-xf] at h1;exact Xo h1
def AZ(b0)(v)(L)(hL:eA L)(w)(Z:am w b0 v L):
 Kp 50 #[v] w λr w'=>r=.returned true/\Below w w w':=by
 obtain⟨a,F,rfl,_,hf⟩:=Z.form;have HF:=h_ hf;have HL:=h_ hL;have b7:=hL.2.2;go_enter Tryz.func50,Tryz.ntmps50;go_upto_region 2 with fail
 go_loopw [7] (λiv wr=>∃k:Nat,k<=L.length/\iv=.int .i64 k/\Below w w wr) (λiv _=>L.length - (intOf iv).toNat)
 case atStart=>exact⟨0,UB _,rfl,Uk _ _⟩
 case round=>
  obtain⟨k,hk,rfl,aL⟩:=hrel
  rename World=>wr
  by_cases aG:k<L.length
  .have bp:(k:Int)<(L.length:Int):=o_;obtain⟨g,rfl,hg,_,_,q0,q1,q2,q3,q4⟩:=HF.out k aG;have d0:wr.cell? ⟨g,k*5,none⟩=_:=(aL.cell (p:=⟨g,k*5,none⟩) hg).trans q0;have d1:wr.cell? ⟨g,k*5+1,none⟩=_:=(aL.cell (p:=⟨g,k*5+1,none⟩) hg).trans q1;have d2:wr.cell? ⟨g,k*5+2,none⟩=_:=(aL.cell (p:=⟨g,k*5+2,none⟩) hg).trans q2;have d3:wr.cell? ⟨g,k*5+3,none⟩=_:=(aL.cell (p:=⟨g,k*5+3,none⟩) hg).trans q3;have d4:wr.cell? ⟨g,k*5+4,none⟩=_:=(aL.cell (p:=⟨g,k*5+4,none⟩) hg).trans q4;have aa:=HL.out.1 _ (UA aG);have a6:g<wr.heap.size:=Un hg aL.size;cases k with
   |zero=>
    clear q0 q1 q2 q3 q4;have h1:=λW=>xq (L[0]) W;rw[aa] at h1;generalize L[0]=e at *;obtain⟨⟨a,b⟩,lo,hi,t⟩:=e;simp only[cq] at h1 d0 d1 d2 d3 d4;have H1:=h_ h1;clear h1 aa;obtain⟨kE,ab⟩:=aw wr #[a,b,lo,hi,t] 70;have G:=af ab aL.size aL;go_upto_region 4 with fail
    clear d0 d1 d2 d3 d4 ab a6;generalize wr.alloc _=W3 at *;obtain⟨a4,aZ,ba,a5,ad⟩:=kE.q5;have bY:=kE.lt
    (refine bP k_ k_ ?_;(repeat (go_big_quiet_step ((go_at_call 66;with_reducible exact Calls.quiet_cls an _ (H1.out _)))));refine wpQuiet_nil ?_;intro w4 K)
    exact GF
   |succ j=>
    obtain⟨g',e',_,_,_,p0,p1,_⟩:=HF.out j o_;obtain rfl:g'=g:=by simpa using e'.symm
    have c0:wr.cell? ⟨g',j*5,none⟩=_:=(aL.cell (p:=⟨g',j*5,none⟩) hg).trans p0;have c1:wr.cell? ⟨g',j*5+1,none⟩=_:=(aL.cell (p:=⟨g',j*5+1,none⟩) hg).trans p1;have az:=Ej HL.out aG;have bb:=HL.out.1 _ (UA (show j<L.length by omega));clear q0 q1 q2 q3 q4 p0 p1 e';have h1:=λW=>xq (L[j+1]) W;rw[aa] at h1;have a9:=mW aa;have ac:=mW bb;have h2:=λW=>By (L[j]'o_).1 (L[j+1]).1 W;generalize L[j+1]=e at *;generalize (L[j]'o_)=e2 at *;obtain⟨⟨a,b⟩,lo,hi,t⟩:=e;have⟨⟨a2,b2⟩,b6,b8,t2⟩:=e2;simp only[cq] at h1 h2 d0 d1 d2 d3 d4 c0 c1 az;generalize fX (a2,b2) (a,b)=cm at *;have aF:¬0<=cm:=o_;have I:(j:Int)<(L.length:Int):=o_;have⟨kE,ab⟩:=aw wr #[a,b,lo,hi,t] 70;have G:=af ab aL.size aL;have U:=(ab.cell (p:=⟨g',j*5,none⟩) a6).trans c0;have J:=(ab.cell (p:=⟨g',j*5+1,none⟩) a6).trans c1;go_upto_region 4 with fail
    have c9:=Un a6 ab.size;generalize wr.alloc _=W3 at *;have⟨a4,aZ,ba,a5,ad⟩:=kE.q5;have bY:=kE.lt
    (refine bP k_ k_ ?_;(repeat (go_big_quiet_step ((first|(go_at_call 66;with_reducible exact Calls.quiet_cls an _ ((h_ h1).out _))|(go_at_call 67;with_reducible exact Calls.quiet_cls an _ ((h_ h2).out _))))));refine wpQuiet_nil ?_;intro w4 K)
    exact E9
  .have bp:¬(k:Int)<(L.length:Int):=o_;have H:(L.length:Int)<=12:=o_;go_wp2;go_ret;exact⟨by simp [H],aL⟩
def tv(b0)(v)(L)(hL:eA L)(w)(Z:am w b0 v L):
 Kp 117 #[v] w λr w'=>r=.returned true/\Below w w w':=by
 obtain⟨a,F,rfl,_,hf⟩:=Z.form;have HF:=h_ hf;have HL:=h_ hL;have b7:=hL.2.2;have H:¬(12:Int)<(L.length:Int):=o_;go_enter Tryz.func117,Tryz.ntmps117;go_upto_region 4 with fail
 go_loopw [10] (λiv wr=>∃k:Nat,k<=L.length/\iv=.int .i64 k/\Below w w wr) (λiv _=>L.length - (intOf iv).toNat)
 case atStart=>exact⟨0,UB _,rfl,Uk _ _⟩
 case round=>
  obtain⟨k,hk,rfl,aL⟩:=hrel
  rename World=>wr
  by_cases aG:k<L.length
  .have bp:(k:Int)<(L.length:Int):=o_;obtain⟨g,rfl,hg,_,_,q0,q1,q2,q3,q4⟩:=HF.out k aG;have d0:wr.cell? ⟨g,k*5,none⟩=_:=(aL.cell (p:=⟨g,k*5,none⟩) hg).trans q0;have d1:wr.cell? ⟨g,k*5+1,none⟩=_:=(aL.cell (p:=⟨g,k*5+1,none⟩) hg).trans q1;have d2:wr.cell? ⟨g,k*5+2,none⟩=_:=(aL.cell (p:=⟨g,k*5+2,none⟩) hg).trans q2;have d3:wr.cell? ⟨g,k*5+3,none⟩=_:=(aL.cell (p:=⟨g,k*5+3,none⟩) hg).trans q3;have d4:wr.cell? ⟨g,k*5+4,none⟩=_:=(aL.cell (p:=⟨g,k*5+4,none⟩) hg).trans q4;have aa:=HL.out.1 _ (UA aG);have a6:g<wr.heap.size:=Un hg aL.size;cases k with
   |zero=>
    clear q0 q1 q2 q3 q4;have h1:=λW=>xl (L[0]) W;rw[aa] at h1;generalize L[0]=e at *;obtain⟨⟨a,b⟩,lo,hi,t⟩:=e;simp only[cq] at h1 d0 d1 d2 d3 d4;have H1:=h_ h1;clear h1 aa;obtain⟨kE,ab⟩:=aw wr #[a,b,lo,hi,t] 70;have G:=af ab aL.size aL;go_upto_region 6 with fail
    clear d0 d1 d2 d3 d4 ab a6;generalize wr.alloc _=W3 at *;obtain⟨a4,aZ,ba,a5,ad⟩:=kE.q5;have bY:=kE.lt
    (refine bP k_ k_ ?_;(repeat (go_big_quiet_step ((go_at_call 118;with_reducible exact Calls.quiet_cls an _ (H1.out _)))));refine wpQuiet_nil ?_;intro w4 K)
    exact GF
   |succ j=>
    obtain⟨g',e',_,_,_,p0,p1,_⟩:=HF.out j o_;obtain rfl:g'=g:=by simpa using e'.symm
    have c0:wr.cell? ⟨g',j*5,none⟩=_:=(aL.cell (p:=⟨g',j*5,none⟩) hg).trans p0;have c1:wr.cell? ⟨g',j*5+1,none⟩=_:=(aL.cell (p:=⟨g',j*5+1,none⟩) hg).trans p1;have az:=Ej HL.out aG;have bb:=HL.out.1 _ (UA (show j<L.length by omega));clear q0 q1 q2 q3 q4 p0 p1 e';have h1:=λW=>xl (L[j+1]) W;rw[aa] at h1;have a9:=mW aa;have ac:=mW bb;have h2:=λW=>B8 (L[j]'o_).1 (L[j+1]).1 o_ o_ W;generalize L[j+1]=e at *;generalize (L[j]'o_)=e2 at *;obtain⟨⟨a,b⟩,lo,hi,t⟩:=e;have⟨⟨a2,b2⟩,b6,b8,t2⟩:=e2;simp only[cq] at h1 h2 d0 d1 d2 d3 d4 c0 c1 az;generalize fX (a2,b2) (a,b)=cm at *;have aF:¬0<=cm:=o_;have I:(j:Int)<(L.length:Int):=o_;have⟨kE,ab⟩:=aw wr #[a,b,lo,hi,t] 70;have G:=af ab aL.size aL;have U:=(ab.cell (p:=⟨g',j*5,none⟩) a6).trans c0;have J:=(ab.cell (p:=⟨g',j*5+1,none⟩) a6).trans c1;go_upto_region 6 with fail
    have c9:=Un a6 ab.size;generalize wr.alloc _=W3 at *;have⟨a4,aZ,ba,a5,ad⟩:=kE.q5;have bY:=kE.lt
    (refine bP k_ k_ ?_;(repeat (go_big_quiet_step ((first|(go_at_call 118;with_reducible exact Calls.quiet_cls an _ ((h_ h1).out _))|(go_at_call 173;with_reducible exact Calls.quiet_cls an _ ((h_ h2).out _))))));refine wpQuiet_nil ?_;intro w4 K)
    exact E9
  .have bp:¬(k:Int)<(L.length:Int):=o_;go_wp2;go_ret;exact⟨rfl,aL⟩
def MC(b0)(v)(L)(hL:12<L.length)(w)(Z:am w b0 v L):
 Kp 117 #[v] w λr w'=>r=.returned false/\Below w w w':=by
 obtain⟨a,F,rfl,_,_⟩:=Z.form;have H:(12:Int)<(L.length:Int):=o_;go_enter Tryz.func117,Tryz.ntmps117;exact nU
end Go.Proofs.YtaamhakdhaolmaaGreatDoor
