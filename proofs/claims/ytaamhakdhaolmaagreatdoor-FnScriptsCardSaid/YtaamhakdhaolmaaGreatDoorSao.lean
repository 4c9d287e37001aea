/- Part 14. -/
import Derived.Shelf.Abstract
import Derived.Test.YtaamhakdhaolmaaGreatDoorSan
namespace Go.Proofs.YtaamhakdhaolmaaGreatDoor
open Go.RowKit Go.Proofs.Tryz
set_option maxHeartbeats 8000000
set_option maxRecDepth 100000
variable {P:Prop}
set_option linter.all false
def Ij(h:P:=by
 have b8:=ag K aL.size aL;go_wp2;go_ret;exact⟨by rw[HP.out];rfl,b8⟩):=h
def HidF.at{w wr:World}{G}{L:bM}{a:ck}{k}(aL:af w w wr)(aG:k<L.length)
 (h:∀i (hi:i<L.length),∃g,a=some ⟨g,0,none⟩/\g<w.heap.size/\G<=g/\(∀o,w.frozen? ⟨g,o,none⟩=false)/\w.cell? ⟨g,i*5,none⟩=some (.int .i64 L[i].1.1)/\w.cell? ⟨g,i*5+1,none⟩=some (.int .i64 L[i].1.2)/\w.cell? ⟨g,i*5+2,none⟩=some (.int .i64 L[i].2.1)/\w.cell? ⟨g,i*5+3,none⟩=some (.int .i64 L[i].2.2.1)/\w.cell? ⟨g,i*5+4,none⟩=some (.int .i64 L[i].2.2.2)):
 ∃g,a=some ⟨g,0,none⟩/\g<wr.heap.size/\wr.cell? ⟨g,k*5,none⟩=some (.int .i64 L[k].1.1)/\wr.cell? ⟨g,k*5+1,none⟩=some (.int .i64 L[k].1.2)/\wr.cell? ⟨g,k*5+2,none⟩=some (.int .i64 L[k].2.1)/\wr.cell? ⟨g,k*5+3,none⟩=some (.int .i64 L[k].2.2.1)/\wr.cell? ⟨g,k*5+4,none⟩=some (.int .i64 L[k].2.2.2):=by
 have⟨g,h1,hg,_,_,q0,q1,q2,q3,q4⟩:=h k aG;exact⟨g,h1,Vp hg aL.size,(aL.cell (p:=⟨g,k*5,none⟩) hg).trans q0,(aL.cell (p:=⟨g,k*5+1,none⟩) hg).trans q1,(aL.cell (p:=⟨g,k*5+2,none⟩) hg).trans q2,(aL.cell (p:=⟨g,k*5+3,none⟩) hg).trans q3,(aL.cell (p:=⟨g,k*5+4,none⟩) hg).trans q4⟩
def xS(b0)(v)(L)(A B)(hC:be A B=true)(hL:eJ L)(w)(Z:an w b0 v L):
 Kp 121 #[v,.agg #[A,B]] w λr w'=>r=.returned (.int .i64 (plc (A,B) L))/\af w w w':=by
 obtain⟨a,F,rfl,_,hf⟩:=Z.form;have HF:=h_ hf;have HL:=h_ hL;have⟨kC,J⟩:=ay w #[A,B] 42;have aM:(-1000<=A/\A<=1000)/\(-10000<=B/\B<=10000):=by
  exact Gf
 have b5:=hL.2.2;go_enter func121,ntmps121;go_upto_region 2 with fail
 generalize w.alloc _=W at *;go_loopw [5] (λiv wr=>∃k:Nat,k<=L.length/\iv=.int .i64 k/\Hid (∀i (hi:i<L.length),i<k->dO L[i].1 (A,B)=true)/\ah w #[A,B] 42 wr/\af w w wr) (λiv _=>L.length - (intOf iv).toNat)
 case atStart=>exact⟨0,VH _,rfl,h_ (λi _ h=>by omega),kC,J⟩
 case round=>
  obtain⟨k,hk,rfl,HB,kC,aL⟩:=hrel
  rename World=>wr
  have⟨a4,a3,a5⟩:=kC.p2;by_cases aG:k<L.length
  .have b3:(k:Int)<(L.length:Int):=o_;obtain⟨g,rfl,hg,q0,q1,_,_,_⟩:=HidF.at aL aG HF.out;have b6:=ni (HL.out.1 _ (VC aG));have h2:=λW=>CH (L[k]).1 (A,B) o_ (by simp only;omega) W;have a9:=xL (x:=(L[k]).1) (y:=(A,B));have HE:Hid (L[k].1=L[k].1):=h_ rfl;generalize G:L[k].1=c at *;have HK:=h_ G;have⟨a2,b2⟩:=c;simp only at h2 q0 q1 a9;have H2:=h_ h2;generalize gk (a2,b2) (A,B)=cm at *;cases hc:dO (a2,b2) (A,B)
   .rw[hc] at a9;have I:=of_decide_eq_false a9;have HP:=h_ (zg hk HB.out (λh=>by rw[HK.out];exact hc));go_upto_region 2 with fail
    (refine bR k_ k_ ?_;(repeat (go_big_quiet_step ((go_at_call 173;with_reducible exact Calls.quiet_cls ao _ (H2.out _)))));refine wpQuiet_nil ?_;intro w4 K;have⟨aa,V⟩:=bu K;(try simp at b9))
    exact Ij
   .rw[hc] at a9;have I:=Yp a9;have a6:Hid (∀i (hi:i<L.length),i<k+1->dO L[i].1 (A,B)=true):=h_ (λi hi h=>by
     rcases Wv i k with h9|h9
     .exact HB.out i hi h9
     .obtain rfl:i=k:=o_
      rw[HK.out];exact hc)
    go_upto_region 2 with fail
    (refine bR k_ k_ ?_;(repeat (go_big_quiet_step ((go_at_call 173;with_reducible exact Calls.quiet_cls ao _ (H2.out _)))));refine wpQuiet_nil ?_;intro w4 K;have⟨aa,V⟩:=bu K;(try simp at b9))
    replace kC:=kC.next K
    go_wp2;go_roundw
    case rel=>exact⟨k+1,o_,by go_num,a6,kC,(ag K aL.size aL)⟩
    case measure=>exact aJ
  .have b3:¬(k:Int)<(L.length:Int):=o_;have HP:=h_ (zg hk HB.out (λh=>by omega));go_upto_region 2 with fail
   (refine bR k_ k_ ?_;(repeat (go_big_quiet_step (fail)));refine wpQuiet_nil ?_;intro w4 K;have⟨aa,V⟩:=bu K;(try simp at b9))
   exact Ij
def zl(b0)(v)(L)(A B)(b5:L.length<=1000)(w)(Z:an w b0 v L):
 Kp 120 #[v,.int .i64 (plc (A,B) L),.agg #[A,B]] w λr w'=>r=.returned (.bool (df (A,B) L))/\af w w w':=by
 obtain⟨a,F,rfl,_,hf⟩:=Z.form;have HF:=h_ hf;have⟨kC,J⟩:=ay w #[A,B] 42;have ac:=mv (A,B) L;by_cases aG:plc (A,B) L<L.length
 .obtain⟨g,rfl,hg,q0,q1,_,_,_⟩:=HidF.at J aG HF.out;have HV:Hid (df (A,B) L=decide ((L[plc (A,B) L]'aG).1=(A,B))):=h_ (by unfold df;rw[Vv aG]);rw[HV.out];generalize (L[plc (A,B) L]'aG)=e at *;generalize plc (A,B) L=k at *;have⟨⟨a2,b2⟩,r2⟩:=e;simp only at q0 q1 ⊢;have b3:(k:Int)<(L.length:Int):=o_;by_cases h1:a2=A
  .by_cases h2:b2=B
   .subst h1 h2;go_enter func120,ntmps120;go_upto_region 1 with fail
    generalize w.alloc _=W at *;have⟨a4,a3,a5⟩:=kC.p2
    (refine bR k_ k_ ?_;(repeat (go_big_quiet_step (fail)));refine wpQuiet_nil ?_;intro w4 K;have⟨aa,V⟩:=bu K;(try simp at b9))
    go_wp2;go_ret;exact⟨s_,ag K J.size J⟩
   .subst h1;go_enter func120,ntmps120;go_upto_region 1 with fail
    generalize w.alloc _=W at *;have⟨a4,a3,a5⟩:=kC.p2;have b8:(b2==B)=false:=by simpa using h2
    (refine bR k_ k_ ?_;(repeat (go_big_quiet_step (fail)));refine wpQuiet_nil ?_;intro w4 K;have⟨aa,V⟩:=bu K;(try simp at b9))
    go_wp2;go_ret;exact⟨by simp [h2],ag K J.size J⟩
  .go_enter func120,ntmps120;go_upto_region 1 with fail
   generalize w.alloc _=W at *;have⟨a4,a3,a5⟩:=kC.p2;have ab:(a2==A)=false:=by simpa using h1
   (refine bR k_ k_ ?_;(repeat (go_big_quiet_step (fail)));refine wpQuiet_nil ?_;intro w4 K;have⟨aa,V⟩:=bu K;(try simp at b9))
   go_wp2;go_ret;exact⟨by simp [h1],ag K J.size J⟩
 .have HV:Hid (df (A,B) L=false):=h_ (by unfold df;rw[Xa o_]);rw[HV.out];have b3:¬(plc (A,B) L:Int)<(L.length:Int):=o_;generalize plc (A,B) L=k at *;go_enter func120,ntmps120;go_upto_region 1 with fail
  generalize w.alloc _=W at *;have⟨_,_⟩:=kC.q2
  (refine bR k_ k_ ?_;(repeat (go_big_quiet_step (fail)));refine wpQuiet_nil ?_;intro w4 K;have⟨aa,V⟩:=bu K;(try simp at b9))
  go_wp2;go_ret;exact⟨rfl,ag K J.size J⟩
def Ig(h:P:=by unfold fK;rw[hh];exact Vv G):=h
def Kc(h:P:=by simp [results,results145,go_sem,q0,q1,q2,q3,q4]):=h
def Kf(h:P:=by simp [results,results133,go_sem,q0,q1,q2,q3,q4]):=h
def mb:Option E5->Value
 |none=>.tuple #[.agg #[.int .i64 0,.int .i64 0,.int .i64 0,.int .i64 0,.int .i64 0],.bool false]
 |some e=>.tuple #[cI e,.bool true]
def li(c:Int×Int)(L:bM):Int:=if df c L=true then (plc c L:Int) else -1
def Tr(a b lo hi t A B:Int)(r)(w)(k:ah r #[A,B] 42 w):
 Rv 258 #[.agg #[a,b,lo,hi,t],.pointer r] w (decide ((a,b)=(A,B))):=by
 have⟨kE,J⟩:=ay w #[a,b,lo,hi,t] 70;replace k:=k.next J
 by_cases h1:a=A
 .by_cases h2:b=B
  .subst h1 h2;go_enter func258,ntmps258;go_upto_region 1 with fail
   generalize w.alloc _=W at *;have⟨a4,aZ,_,_,_⟩:=kE.q5;have⟨k0,k1⟩:=k.q2;go_wp2;go_ret;exact⟨s_,J⟩
  .subst h1;have b8:(b==B)=false:=by simpa using h2
   go_enter func258,ntmps258;go_upto_region 1 with fail
   generalize w.alloc _=W at *;have⟨a4,aZ,_,_,_⟩:=kE.q5;have⟨k0,k1⟩:=k.q2;go_wp2;go_ret;exact⟨by simp [h2],J⟩
 .have ab:(a==A)=false:=by simpa using h1
  go_enter func258,ntmps258;go_upto_region 1 with fail
  generalize w.alloc _=W at *;have⟨a4,aZ,_,_,_⟩:=kE.q5;have⟨k0,k1⟩:=k.q2;go_wp2;go_ret;exact⟨by simp [h1],J⟩
def QZ(b0)(v)(L:bM)(A B:Int)(r)(hL:eJ L)(w)(Z:an w b0 v L)(k:ah r #[A,B] 42 w):
 Rv 257 #[v,.func (.func 258) #[] #[.pointer r]] w (.int .i64 (li (A,B) L)):=by
 obtain⟨a,F,rfl,_,hf⟩:=Z.form;have HF:=h_ hf;have eg:∀args w,(callFunc 258 args).run prog w=.ok (.enter 258 args) w:=enters_of func258 k_ rfl;have b5:=hL.2.2;go_enter func257,ntmps257;go_wp2;go_loopw [8] (λiv wr=>∃k:Nat,k<=L.length/\iv=.int .i64 k/\Hid (∀i (hi:i<L.length),i<k->L[i].1≠(A,B))/\af w w wr) (λiv _=>L.length - (intOf iv).toNat)
 case atStart=>exact⟨0,VH _,rfl,h_ (λi _ h=>by omega),Vn _ _⟩
 case round=>
  obtain⟨j,hk,rfl,HN,aL⟩:=hrel
  rename World=>wr
  by_cases aG:j<L.length
  .have b3:(j:Int)<(L.length:Int):=o_;obtain⟨g,rfl,_,q0,q1,q2,q3,q4⟩:=HidF.at aL aG HF.out;obtain⟨e,G⟩:∃e,L[j]=e:=⟨_,rfl⟩
   have⟨⟨a2,b2⟩,lo,hi,t⟩:=e;have HK:Hid (L[j].1=(a2,b2)):=h_ (by rw[G]);rw[G] at q0 q1 q2 q3 q4;simp only at q0 q1 q2 q3 q4;have hc:=(h_ (λa b lo hi t W k=>Tr a b lo hi t A B r W k)).out a2 b2 lo hi t wr (k.next aL);by_cases hq:(a2,b2)=(A,B)
   .rw[Xn hq] at hc;have H1:=h_ hc;have HP:Hid (plc (A,B) L=j/\df (A,B) L=true):=h_ (by
     have h1:=(h_ hL).out.2.1.find aG (HK.out.trans hq);exact⟨h1,lH.2 ⟨o_,by simp only[h1];exact HK.out.trans hq⟩⟩)
    go_wp2_with (go_at_fn 258;refine H1.out.mono ?_;rintro e w2 ⟨rfl,U⟩)
    go_ret;exact⟨by unfold li;rw[HP.out.1,HP.out.2];rfl,ag U aL.size aL⟩
   .rw[We hq] at hc;have bs:Hid (∀i (hi:i<L.length),i<j+1->L[i].1≠(A,B)):=h_ (λi hi h=>by
     rcases Wv i j with h9|h9
     .exact HN.out i hi h9
     .obtain rfl:i=j:=o_
      rw[HK.out];exact hq)
    go_wp2_with (go_at_fn 258;refine (h_ hc).out.mono ?_;rintro e w2 ⟨rfl,U⟩)
    go_roundw
    case rel=>exact⟨j+1,o_,by go_num,bs,ag U aL.size aL⟩
    case measure=>exact aJ
  .have b3:¬(j:Int)<(L.length:Int):=o_;have HP:Hid (df (A,B) L=false):=h_ (by
    cases h:df (A,B) L
    .rfl
    .have⟨h1,h2⟩:=lH.1 h;exact absurd h2 (HN.out _ h1 o_))
   go_wp2;go_ret;exact⟨by unfold li;rw[HP.out];rfl,aL⟩
def CC(b0)(v)(L)(A B:Int)(hL:eJ L)(w)(Z:an w b0 v L):
 Rv 202 #[v,.agg #[A,B]] w (.tuple #[.int .i64 (li (A,B) L),.bool (df (A,B) L)]):=by
 have⟨kC,J⟩:=ay w #[A,B] 42;have HI:=h_ (λW r (hb:af w w W) k=>QZ b0 v L A B r hL W (Z.below hb) k);have HG:=h_ (λW (hb:af w w W)=>w_ b0 v L hL W (Z.below hb));obtain⟨a,F,rfl,_,_⟩:=Z.form;have ac:=mv (A,B) L;have b5:=hL.2.2;have cb:li (A,B) L=if df (A,B) L=true then (plc (A,B) L:Int) else -1:=rfl
 rw[cb] at HI ⊢;generalize plc (A,B) L=p at *;cases hh:df (A,B) L
 .rw[hh] at HI;simp at HI ⊢;go_enter func202,ntmps202;go_upto_region 1 with fail
  generalize w.alloc _=W at *;have bZ:=h_ (HI.out W _ J kC);go_wp2_with fail
  refine bZ.out.mono ?_;rintro e w1 ⟨rfl,I⟩;go_wp2;go_ret2;exact qb
 .rw[hh] at HI;simp at HI ⊢;have cc:(0:Int)<=(p:Int):=o_;go_enter func202,ntmps202;go_upto_region 1 with fail
  generalize w.alloc _=W at *;go_wp2_with fail
  refine (h_ (HI.out W _ J kC)).out.mono ?_;rintro e w1 ⟨rfl,I⟩;have H:=ag I J.size J;go_wp2_with fail
  refine aj (HG.out _ H) λw2 U=>?_;go_wp2;go_ret2;exact⟨rfl,ag U H.size H⟩
def NF(b0)(v)(L:bM)(A B:Int)(hL:eJ L)(w:World)(Z:an w b0 v L):
 Rv 145 #[v,.agg #[A,B]] w (mb (fK L (A,B))):=by
 have⟨kC,V,J⟩:=cO w #[A,B] 42 #[(),(),(),(),()] 70;have H:w.heap.size<=w.heap.size+1:=o_;have HI:=h_ (λW (hb:af w w W)=>CC b0 v L A B hL W (Z.below hb));obtain⟨a,F,rfl,_,hf⟩:=Z.form;have HF:=h_ hf;have b5:=hL.2.2;cases hh:df (A,B) L
 .rw[hh] at HI;have HV:Hid (fK L (A,B)=none):=h_ (by unfold fK;rw[hh];rfl);rw[HV.out];simp only[mb];generalize li (A,B) L=ix at *;go_enter func145,ntmps145;go_upto_region 1 with fail
  generalize (w.alloc _).alloc _=W,hq:w.heap.size+1=rR at *;have⟨a4,a3,a5⟩:=kC.p2;go_wp2_with fail
  refine aj (HI.out _ J) λw1 I=>?_;have aL:=ag I J.size J;replace V:=V.next I
  have⟨bx,bz,b3,bb,ab⟩:=V.q5;have⟨aM,a1,ae,a8,aa⟩:=V.f5;have k9:=((((V.set 0 ()).set 1 ()).set 2 ()).set 3 ()).set 4 ();have ad:=((((aL.setCell (p:=rR) H ()).setCell (p:=⟨rR,1,none⟩) H ()).setCell (p:=⟨rR,2,none⟩) H ()).setCell (p:=⟨rR,3,none⟩) H ()).setCell (p:=⟨rR,4,none⟩) H ();go_wp2;generalize World.setCell _ _ _=w9 at ad k9 ⊢;have⟨q0,q1,q2,q3,q4⟩:=k9.q5;exact Vk (v:=.tuple #[.agg #[(),(),(),(),()],false]) Kc rfl ⟨rfl,ad⟩
 .rw[hh] at HI;have⟨G,hc⟩:=lH.1 hh;have cb:li (A,B) L=(plc (A,B) L:Int):=by unfold li;rw[hh];rfl
  rw[cb] at HI;obtain⟨g,rfl,hg,q0,q1,q2,q3,q4⟩:=HidF.at J G HF.out;have HV:Hid (fK L (A,B)=some (L[plc (A,B) L]'G)):=h_ Ig;rw[HV.out];simp only[mb];clear HV hh cb hc HF;generalize (L[plc (A,B) L]'G)=e at *;generalize plc (A,B) L=p at *;obtain⟨⟨a2,b2⟩,lo,hi,t⟩:=e;simp at q0 q1 q2 q3 q4 ⊢;have b9:(p:Int)<(L.length:Int):=o_;go_enter func145,ntmps145;go_upto_region 1 with fail
  generalize (w.alloc _).alloc _=W at *;generalize hq:w.heap.size+1=rR at *;clear hq;have⟨a4,a3,a5⟩:=kC.p2;go_wp2_with fail
  refine aj (HI.out _ J) λw1 I=>?_;have aL:=ag I J.size J;replace V:=V.next I
  have d0:=(I.cell (p:=⟨g,p*5,none⟩) hg).trans q0;have d1:=(I.cell (p:=⟨g,p*5+1,none⟩) hg).trans q1;have d2:=(I.cell (p:=⟨g,p*5+2,none⟩) hg).trans q2;have d3:=(I.cell (p:=⟨g,p*5+3,none⟩) hg).trans q3;have d4:=(I.cell (p:=⟨g,p*5+4,none⟩) hg).trans q4;clear a4 a3 a5 I J q0 q1 q2 q3 q4 kC;have⟨bx,bz,b3,bb,ab⟩:=V.q5;have⟨aM,a1,ae,a8,aa⟩:=V.f5;have ax:=V.lt;have k9:=((((V.set 0 a2).set 1 b2).set 2 lo).set 3 hi).set 4 t;have ad:=((((aL.setCell (p:=⟨rR,0,none⟩) H a2).setCell (p:=⟨rR,1,none⟩) H b2).setCell (p:=⟨rR,2,none⟩) H lo).setCell (p:=⟨rR,3,none⟩) H hi).setCell (p:=⟨rR,4,none⟩) H t;go_wp2;generalize World.setCell _ _ _=w9 at ad k9 ⊢;have⟨q0,q1,q2,q3,q4⟩:=k9.q5;refine Vk (v:=.tuple #[.agg #[a2,b2,lo,hi,t],true]) Kc rfl ?_;exact⟨rfl,ad⟩
def NL(b0)(v)(L)(A B)(hC:be A B=true)(hL:eJ L)(w)(Z:an w b0 v L):
 Rv 133 #[v,.agg #[A,B]] w (mb (fK L (A,B))):=by
 have⟨kC,V,J⟩:=cO w #[A,B] 42 #[(),(),(),(),()] 70;have H:w.heap.size<=w.heap.size+1:=o_;have HG:=h_ (λW (hb:af w w W)=>tV b0 v L hL W (Z.below hb));have K:=λW=>f_ A B W;rw[hC] at K;have HE:=h_ K;have HP:=h_ (λW (hb:af w w W)=>xS b0 v L A B hC hL W (Z.below hb));have HA:=h_ (λW (hb:af w w W)=>zl b0 v L A B (Vl hL.2.2 o_) W (Z.below hb));obtain⟨a,F,rfl,_,hf⟩:=Z.form;have HF:=h_ hf;have b5:=hL.2.2;cases hh:df (A,B) L
 .rw[hh] at HA;have HV:Hid (fK L (A,B)=none):=h_ (by unfold fK;rw[hh];rfl);rw[HV.out];simp only[mb];generalize plc (A,B) L=p at *;go_enter func133,ntmps133;go_upto_region 1 with fail
  generalize (w.alloc _).alloc _=W,hq:w.heap.size+1=rR at *;have⟨a4,a3,a5⟩:=kC.p2
  (refine bR k_ k_ ?_;(repeat (go_big_quiet_step ((first|(go_at_call 117;with_reducible exact Calls.quiet_cls ao _ (HG.out _ (ag (aU.over _).below J.size J)))|(go_at_call 71;with_reducible exact Calls.quiet_cls ao _ (HE.out _))|(go_at_call 121;with_reducible exact Calls.quiet_cls ao _ (HP.out _ (ag (aU.over _).below J.size J)))|(go_at_call 120;with_reducible exact Calls.quiet_cls ao _ (HA.out _ (ag (aU.over _).below J.size J)))))));refine wpQuiet_nil ?_;intro w1 I)
  have aL:=ag I J.size J;replace V:=V.next I
  have⟨bx,bz,b3,bb,ab⟩:=V.q5;have⟨aM,a1,ae,a8,aa⟩:=V.f5;have k9:=((((V.set 0 ()).set 1 ()).set 2 ()).set 3 ()).set 4 ();have ad:=((((aL.setCell (p:=rR) H ()).setCell (p:=⟨rR,1,none⟩) H ()).setCell (p:=⟨rR,2,none⟩) H ()).setCell (p:=⟨rR,3,none⟩) H ()).setCell (p:=⟨rR,4,none⟩) H ();go_wp2;generalize World.setCell _ _ _=w9 at ad k9 ⊢;have⟨q0,q1,q2,q3,q4⟩:=k9.q5;refine Vk (v:=.tuple #[.agg #[(),(),(),(),()],false]) Kf rfl ?_;exact⟨rfl,ad⟩
 .rw[hh] at HA;obtain⟨G,hc⟩:=lH.1 hh;obtain⟨g,rfl,hg,q0,q1,q2,q3,q4⟩:=HidF.at J G HF.out;have HV:Hid (fK L (A,B)=some (L[plc (A,B) L]'G)):=h_ Ig;rw[HV.out];simp only[mb];clear HV hh hc HF;generalize (L[plc (A,B) L]'G)=e at *;generalize plc (A,B) L=p at *;have⟨⟨a2,b2⟩,lo,hi,t⟩:=e;simp at q0 q1 q2 q3 q4 ⊢;have b9:(p:Int)<(L.length:Int):=o_;go_enter func133,ntmps133;go_upto_region 1 with fail
  generalize (w.alloc _).alloc _=W,hq:w.heap.size+1=rR at *;have⟨a4,a3,a5⟩:=kC.p2
  (refine bR k_ k_ ?_;(repeat (go_big_quiet_step ((first|(go_at_call 117;with_reducible exact Calls.quiet_cls ao _ (HG.out _ (ag (aU.over _).below J.size J)))|(go_at_call 71;with_reducible exact Calls.quiet_cls ao _ (HE.out _))|(go_at_call 121;with_reducible exact Calls.quiet_cls ao _ (HP.out _ (ag (aU.over _).below J.size J)))|(go_at_call 120;with_reducible exact Calls.quiet_cls ao _ (HA.out _ (ag (aU.over _).below J.size J)))))));refine wpQuiet_nil ?_;intro w1 I)
  have aL:=ag I J.size J;replace V:=V.next I
  replace kC:=kC.next I
  have d0:=(I.cell (p:=⟨g,p*5,none⟩) hg).trans q0;have d1:=(I.cell (p:=⟨g,p*5+1,none⟩) hg).trans q1;have d2:=(I.cell (p:=⟨g,p*5+2,none⟩) hg).trans q2;have d3:=(I.cell (p:=⟨g,p*5+3,none⟩) hg).trans q3;have d4:=(I.cell (p:=⟨g,p*5+4,none⟩) hg).trans q4;have cM:=Vp hg I.size;have⟨a4,a3,a5⟩:=kC.p2;go_upto_region 3 with fail
  go_wp2_with fail
  refine (h_ (HP.out w1 aL)).out.mono ?_;rintro e w2 ⟨rfl,U⟩;replace aL:=ag U aL.size aL;replace V:=V.next U
  replace d0:=(U.cell (p:=⟨g,p*5,none⟩) cM).trans d0;replace d1:=(U.cell (p:=⟨g,p*5+1,none⟩) cM).trans d1;replace d2:=(U.cell (p:=⟨g,p*5+2,none⟩) cM).trans d2;replace d3:=(U.cell (p:=⟨g,p*5+3,none⟩) cM).trans d3;replace d4:=(U.cell (p:=⟨g,p*5+4,none⟩) cM).trans d4;have⟨bx,bz,b3,bb,ab⟩:=V.q5;have⟨aM,a1,ae,a8,aa⟩:=V.f5;have k9:=((((V.set 0 a2).set 1 b2).set 2 lo).set 3 hi).set 4 t;have ad:=((((aL.setCell (p:=rR) H a2).setCell (p:=⟨rR,1,none⟩) H b2).setCell (p:=⟨rR,2,none⟩) H lo).setCell (p:=⟨rR,3,none⟩) H hi).setCell (p:=⟨rR,4,none⟩) H t;go_wp2;generalize World.setCell _ _ _=w9 at ad k9 ⊢;have⟨q0,q1,q2,q3,q4⟩:=k9.q5;refine Vk (v:=.tuple #[.agg #[a2,b2,lo,hi,t],true]) Kf rfl ?_;exact⟨rfl,ad⟩
end Go.Proofs.YtaamhakdhaolmaaGreatDoor
