/- Part 13. -/
import Derived.Shelf.Abstract
import Derived.Test.YtaamhakdhaolmaaGreatDoorAam
namespace Go.Proofs.YtaamhakdhaolmaaGreatDoor
open Go.RowKit
set_option maxHeartbeats 8000000
set_option maxRecDepth 100000
variable {P:Prop}
set_option linter.all false
def G4(h:P:=by
 have ax:=af K aL.size aL;go_wp2;go_ret;exact⟨by rw[HP.out];rfl,ax⟩):=h
def HidF.at{w wr:World}{G}{L:aK}{a:bT}{k}(aL:Below w w wr)(aG:k<L.length)
 (h:∀i (hi:i<L.length),∃g,a=some ⟨g,0,none⟩/\g<w.heap.size/\G<=g/\(∀o,w.frozen? ⟨g,o,none⟩=false)/\w.cell? ⟨g,i*5,none⟩=some (.int .i64 L[i].1.1)/\w.cell? ⟨g,i*5+1,none⟩=some (.int .i64 L[i].1.2)/\w.cell? ⟨g,i*5+2,none⟩=some (.int .i64 L[i].2.1)/\w.cell? ⟨g,i*5+3,none⟩=some (.int .i64 L[i].2.2.1)/\w.cell? ⟨g,i*5+4,none⟩=some (.int .i64 L[i].2.2.2)):
 ∃g,a=some ⟨g,0,none⟩/\g<wr.heap.size/\wr.cell? ⟨g,k*5,none⟩=some (.int .i64 L[k].1.1)/\wr.cell? ⟨g,k*5+1,none⟩=some (.int .i64 L[k].1.2)/\wr.cell? ⟨g,k*5+2,none⟩=some (.int .i64 L[k].2.1)/\wr.cell? ⟨g,k*5+3,none⟩=some (.int .i64 L[k].2.2.1)/\wr.cell? ⟨g,k*5+4,none⟩=some (.int .i64 L[k].2.2.2):=by
 have⟨g,h1,hg,_,_,q0,q1,q2,q3,q4⟩:=h k aG;exact⟨g,h1,Un hg aL.size,(aL.cell (p:=⟨g,k*5,none⟩) hg).trans q0,(aL.cell (p:=⟨g,k*5+1,none⟩) hg).trans q1,(aL.cell (p:=⟨g,k*5+2,none⟩) hg).trans q2,(aL.cell (p:=⟨g,k*5+3,none⟩) hg).trans q3,(aL.cell (p:=⟨g,k*5+4,none⟩) hg).trans q4⟩
def xn(b0)(v)(L)(A B)(hC:be A B=true)(hL:eA L)(w)(Z:am w b0 v L):
 Kp 121 #[v,.agg #[A,B]] w λr w'=>r=.returned (.int .i64 (plc (A,B) L))/\Below w w w':=by
 obtain⟨a,F,rfl,_,hf⟩:=Z.form;have HF:=h_ hf;have HL:=h_ hL;have⟨kC,J⟩:=aw w #[A,B] 42;have a7:(-1000<=A/\A<=1000)/\(-10000<=B/\B<=10000):=by
  exact Fz
 have b7:=hL.2.2;go_enter Tryz.func121,Tryz.ntmps121;go_upto_region 2 with fail
 generalize w.alloc _=W at *;go_loopw [5] (λiv wr=>∃k:Nat,k<=L.length/\iv=.int .i64 k/\Hid (∀i (hi:i<L.length),i<k->dF L[i].1 (A,B)=true)/\ag w #[A,B] 42 wr/\Below w w wr) (λiv _=>L.length - (intOf iv).toNat)
 case atStart=>exact⟨0,UB _,rfl,h_ (λi _ h=>by omega),kC,J⟩
 case round=>
  obtain⟨k,hk,rfl,HB,kC,aL⟩:=hrel
  rename World=>wr
  have⟨a4,a3⟩:=kC.q2;have a5:=kC.lt;by_cases aG:k<L.length
  .have bp:(k:Int)<(L.length:Int):=o_;obtain⟨g,rfl,hg,q0,q1,_,_,_⟩:=HidF.at aL aG HF.out;have b5:=mW (HL.out.1 _ (UA aG));have h2:=λW=>B8 (L[k]).1 (A,B) o_ (by simp only;omega) W;have a9:=xf (x:=(L[k]).1) (y:=(A,B));have HE:Hid (L[k].1=L[k].1):=h_ rfl;generalize G:L[k].1=c at *;have HK:=h_ G;have⟨a2,b2⟩:=c;simp only at h2 q0 q1 a9;have H2:=h_ h2;generalize fX (a2,b2) (A,B)=cm at *;cases hc:dF (a2,b2) (A,B)
   .rw[hc] at a9;have aF:=of_decide_eq_false a9;have HP:=h_ (yE hk HB.out (λh=>by rw[HK.out];exact hc));go_upto_region 2 with fail
    (refine bP k_ k_ ?_;(repeat (go_big_quiet_step ((go_at_call 173;with_reducible exact Calls.quiet_cls an _ (H2.out _)))));refine wpQuiet_nil ?_;intro w4 K;have⟨I,H⟩:=bf K;have b6:=K.size;(try simp at b6))
    exact G4
   .rw[hc] at a9;have aF:=Xo a9;have bb:Hid (∀i (hi:i<L.length),i<k+1->dF L[i].1 (A,B)=true):=h_ (λi hi h=>by
     rcases Vn i k with h9|h9
     .exact HB.out i hi h9
     .obtain rfl:i=k:=by omega
      rw[HK.out];exact hc)
    go_upto_region 2 with fail
    (refine bP k_ k_ ?_;(repeat (go_big_quiet_step ((go_at_call 173;with_reducible exact Calls.quiet_cls an _ (H2.out _)))));refine wpQuiet_nil ?_;intro w4 K;have⟨I,H⟩:=bf K;have b6:=K.size;(try simp at b6))
    replace kC:=kC.next K
    go_wp2;go_roundw
    case rel=>exact⟨k+1,by omega,by go_num,bb,kC,(af K aL.size aL)⟩
    case measure=>exact aO
  .have bp:¬(k:Int)<(L.length:Int):=o_;have HP:=h_ (yE hk HB.out (λh=>by omega));go_upto_region 2 with fail
   (refine bP k_ k_ ?_;(repeat (go_big_quiet_step (fail)));refine wpQuiet_nil ?_;intro w4 K;have⟨I,H⟩:=bf K;have b6:=K.size;(try simp at b6))
   exact G4
def yJ(b0)(v)(L)(A B)(b7:L.length<=1000)(w)(Z:am w b0 v L):
 Kp 120 #[v,.int .i64 (plc (A,B) L),.agg #[A,B]] w λr w'=>r=.returned (.bool (cO (A,B) L))/\Below w w w':=by
 obtain⟨a,F,rfl,_,hf⟩:=Z.form;have HF:=h_ hf;have⟨kC,J⟩:=aw w #[A,B] 42;have V:=mg (A,B) L;by_cases aG:plc (A,B) L<L.length
 .obtain⟨g,rfl,hg,q0,q1,_,_,_⟩:=HidF.at J aG HF.out;have HV:Hid (cO (A,B) L=decide ((L[plc (A,B) L]'aG).1=(A,B))):=h_ (by unfold cO;rw[Us aG]);rw[HV.out];generalize (L[plc (A,B) L]'aG)=e at *;generalize plc (A,B) L=k at *;have⟨⟨a2,b2⟩,r2⟩:=e;simp only at q0 q1 ⊢;have bp:(k:Int)<(L.length:Int):=o_;by_cases h1:a2=A
  .by_cases h2:b2=B
   .subst h1 h2;go_enter Tryz.func120,Tryz.ntmps120;go_upto_region 1 with fail
    generalize w.alloc _=W at *;have⟨a4,a3⟩:=kC.q2;have a5:=kC.lt
    (refine bP k_ k_ ?_;(repeat (go_big_quiet_step (fail)));refine wpQuiet_nil ?_;intro w4 K;have⟨I,H⟩:=bf K;have b6:=K.size;(try simp at b6))
    go_wp2;go_ret;exact⟨by simp,af K J.size J⟩
   .subst h1;go_enter Tryz.func120,Tryz.ntmps120;go_upto_region 1 with fail
    generalize w.alloc _=W at *;have⟨a4,a3⟩:=kC.q2;have a5:=kC.lt;have ca:(b2==B)=false:=by simpa using h2
    (refine bP k_ k_ ?_;(repeat (go_big_quiet_step (fail)));refine wpQuiet_nil ?_;intro w4 K;have⟨I,H⟩:=bf K;have b6:=K.size;(try simp at b6))
    go_wp2;go_ret;exact⟨by simp [h2],af K J.size J⟩
  .go_enter Tryz.func120,Tryz.ntmps120;go_upto_region 1 with fail
   generalize w.alloc _=W at *;have⟨a4,a3⟩:=kC.q2;have a5:=kC.lt;have ab:(a2==A)=false:=by simpa using h1
   (refine bP k_ k_ ?_;(repeat (go_big_quiet_step (fail)));refine wpQuiet_nil ?_;intro w4 K;have⟨I,H⟩:=bf K;have b6:=K.size;(try simp at b6))
   go_wp2;go_ret;exact⟨by simp [h1],af K J.size J⟩
 .have HV:Hid (cO (A,B) L=false):=h_ (by unfold cO;rw[VS o_]);rw[HV.out];have bp:¬(plc (A,B) L:Int)<(L.length:Int):=o_;generalize plc (A,B) L=k at *;go_enter Tryz.func120,Tryz.ntmps120;go_upto_region 1 with fail
  generalize w.alloc _=W at *;have⟨_,_⟩:=kC.q2
  (refine bP k_ k_ ?_;(repeat (go_big_quiet_step (fail)));refine wpQuiet_nil ?_;intro w4 K;have⟨I,H⟩:=bf K;have b6:=K.size;(try simp at b6))
  go_wp2;go_ret;exact⟨rfl,af K J.size J⟩
def G1(h:P:=by unfold fA;rw[hh];exact Us G):=h
def Jt(h:P:=by simp [results,Tryz.results145,go_sem,q0,q1,q2,q3,q4]):=h
def Jw(h:P:=by simp [results,Tryz.results133,go_sem,q0,q1,q2,q3,q4]):=h
def lJ:Option E5->Value
 |none=>.tuple #[.agg #[.int .i64 0,.int .i64 0,.int .i64 0,.int .i64 0,.int .i64 0],.bool false]
 |some e=>.tuple #[cq e,.bool true]
def kJ(c:Int×Int)(L:aK):Int:=if cO c L=true then (plc c L:Int) else -1
def Sv(a b lo hi t A B:Int)(r)(w)(k:ag r #[A,B] 42 w):
 Rv 258 #[.agg #[a,b,lo,hi,t],.pointer r] w (decide ((a,b)=(A,B))):=by
 have⟨kE,J⟩:=aw w #[a,b,lo,hi,t] 70;replace k:=k.next J
 by_cases h1:a=A
 .by_cases h2:b=B
  .subst h1 h2;go_enter Tryz.func258,Tryz.ntmps258;go_upto_region 1 with fail
   generalize w.alloc _=W at *;have⟨a4,aZ,_,_,_⟩:=kE.q5;have⟨k0,k1⟩:=k.q2;go_wp2;go_ret;exact⟨by simp,J⟩
  .subst h1;have ca:(b==B)=false:=by simpa using h2
   go_enter Tryz.func258,Tryz.ntmps258;go_upto_region 1 with fail
   generalize w.alloc _=W at *;have⟨a4,aZ,_,_,_⟩:=kE.q5;have⟨k0,k1⟩:=k.q2;go_wp2;go_ret;exact⟨by simp [h2],J⟩
 .have ab:(a==A)=false:=by simpa using h1
  go_enter Tryz.func258,Tryz.ntmps258;go_upto_region 1 with fail
  generalize w.alloc _=W at *;have⟨a4,aZ,_,_,_⟩:=kE.q5;have⟨k0,k1⟩:=k.q2;go_wp2;go_ret;exact⟨by simp [h1],J⟩
def Qe(b0)(v)(L:aK)(A B:Int)(r)(hL:eA L)(w)(Z:am w b0 v L)(k:ag r #[A,B] 42 w):
 Rv 257 #[v,.func (.func 258) #[] #[.pointer r]] w (.int .i64 (kJ (A,B) L)):=by
 obtain⟨a,F,rfl,_,hf⟩:=Z.form;have HF:=h_ hf;have eg:∀args w,(callFunc 258 args).run Tryz.prog w=.ok (.enter 258 args) w:=enters_of Tryz.func258 k_ rfl;have b7:=hL.2.2;go_enter Tryz.func257,Tryz.ntmps257;go_wp2;go_loopw [8] (λiv wr=>∃k:Nat,k<=L.length/\iv=.int .i64 k/\Hid (∀i (hi:i<L.length),i<k->L[i].1≠(A,B))/\Below w w wr) (λiv _=>L.length - (intOf iv).toNat)
 case atStart=>exact⟨0,UB _,rfl,h_ (λi _ h=>by omega),Uk _ _⟩
 case round=>
  obtain⟨j,hk,rfl,HN,aL⟩:=hrel
  rename World=>wr
  by_cases aG:j<L.length
  .have bp:(j:Int)<(L.length:Int):=o_;obtain⟨g,rfl,_,q0,q1,q2,q3,q4⟩:=HidF.at aL aG HF.out;obtain⟨e,G⟩:∃e,L[j]=e:=⟨_,rfl⟩
   have⟨⟨a2,b2⟩,lo,hi,t⟩:=e;have HK:Hid (L[j].1=(a2,b2)):=h_ (by rw[G]);rw[G] at q0 q1 q2 q3 q4;simp only at q0 q1 q2 q3 q4;have hc:=(h_ (λa b lo hi t W k=>Sv a b lo hi t A B r W k)).out a2 b2 lo hi t wr (k.next aL);by_cases hq:(a2,b2)=(A,B)
   .rw[V2 hq] at hc;have H1:=h_ hc;have HP:Hid (plc (A,B) L=j/\cO (A,B) L=true):=h_ (by
     have h1:=(h_ hL).out.2.1.find aG (HK.out.trans hq);exact⟨h1,lh.2 ⟨by omega,by simp only[h1];exact HK.out.trans hq⟩⟩)
    go_wp2_with (go_at_fn 258;refine H1.out.mono ?_;rintro e w2 ⟨rfl,U⟩)
    go_ret;exact⟨by unfold kJ;rw[HP.out.1,HP.out.2];rfl,af U aL.size aL⟩
   .rw[Vb hq] at hc;have a6:Hid (∀i (hi:i<L.length),i<j+1->L[i].1≠(A,B)):=h_ (λi hi h=>by
     rcases Vn i j with h9|h9
     .exact HN.out i hi h9
     .obtain rfl:i=j:=by omega
      rw[HK.out];exact hq)
    go_wp2_with (go_at_fn 258;refine (h_ hc).out.mono ?_;rintro e w2 ⟨rfl,U⟩)
    go_roundw
    case rel=>exact⟨j+1,by omega,by go_num,a6,af U aL.size aL⟩
    case measure=>exact aO
  .have bp:¬(j:Int)<(L.length:Int):=o_;have HP:Hid (cO (A,B) L=false):=h_ (by
    cases h:cO (A,B) L
    .rfl
    .have⟨h1,h2⟩:=lh.1 h;exact absurd h2 (HN.out _ h1 o_))
   go_wp2;go_ret;exact⟨by unfold kJ;rw[HP.out];rfl,aL⟩
def B3(b0)(v)(L)(A B:Int)(hL:eA L)(w)(Z:am w b0 v L):
 Rv 202 #[v,.agg #[A,B]] w (.tuple #[.int .i64 (kJ (A,B) L),.bool (cO (A,B) L)]):=by
 have⟨kC,J⟩:=aw w #[A,B] 42;have HI:=h_ (λW r (hb:Below w w W) k=>Qe b0 v L A B r hL W (Z.below hb) k);have HG:=h_ (λW (hb:Below w w W)=>AZ b0 v L hL W (Z.below hb));obtain⟨a,F,rfl,_,_⟩:=Z.form;have V:=mg (A,B) L;have b7:=hL.2.2;have ac:kJ (A,B) L=if cO (A,B) L=true then (plc (A,B) L:Int) else -1:=rfl
 rw[ac] at HI ⊢;generalize plc (A,B) L=p at *;cases hh:cO (A,B) L
 .rw[hh] at HI;simp at HI ⊢;go_enter Tryz.func202,Tryz.ntmps202;go_upto_region 1 with fail
  generalize w.alloc _=W at *;have b9:=h_ (HI.out W _ J kC);go_wp2_with fail
  refine b9.out.mono ?_;rintro e w1 ⟨rfl,I⟩;go_wp2;go_ret2;exact pE
 .rw[hh] at HI;simp at HI ⊢;have cG:(0:Int)<=(p:Int):=o_;go_enter Tryz.func202,Tryz.ntmps202;go_upto_region 1 with fail
  generalize w.alloc _=W at *;go_wp2_with fail
  refine (h_ (HI.out W _ J kC)).out.mono ?_;rintro e w1 ⟨rfl,I⟩;have H:=af I J.size J;go_wp2_with fail
  refine ai (HG.out _ H) λw2 U=>?_;go_wp2;go_ret2;exact⟨rfl,af U H.size H⟩
def MP(b0)(v)(L:aK)(A B:Int)(hL:eA L)(w:World)(Z:am w b0 v L):
 Rv 145 #[v,.agg #[A,B]] w (lJ (fA L (A,B))):=by
 have⟨kC,V,J⟩:=cr w #[A,B] 42 #[(),(),(),(),()] 70;have H:w.heap.size<=w.heap.size+1:=o_;have HI:=h_ (λW (hb:Below w w W)=>B3 b0 v L A B hL W (Z.below hb));obtain⟨a,F,rfl,_,hf⟩:=Z.form;have HF:=h_ hf;have b7:=hL.2.2;cases hh:cO (A,B) L
 .rw[hh] at HI;have HV:Hid (fA L (A,B)=none):=h_ (by unfold fA;rw[hh];rfl);rw[HV.out];simp only[lJ];generalize kJ (A,B) L=ix at *;go_enter Tryz.func145,Tryz.ntmps145;go_upto_region 1 with fail
  generalize (w.alloc _).alloc _=W,hq:w.heap.size+1=rR at *;have⟨a4,a3⟩:=kC.q2;have a5:=kC.lt;go_wp2_with fail
  refine ai (HI.out _ J) λw1 I=>?_;have aL:=af I J.size J;replace V:=V.next I
  have⟨bz,b1,b3,ca,ab⟩:=V.q5;have aM:=V.frozen 0;have a1:=V.frozen 1;have a9:=V.frozen 2;have b9:=V.frozen 3;have aa:=V.frozen 4;have k9:=((((V.set 0 ()).set 1 ()).set 2 ()).set 3 ()).set 4 ();have ad:=((((aL.setCell (p:=rR) H ()).setCell (p:=⟨rR,1,none⟩) H ()).setCell (p:=⟨rR,2,none⟩) H ()).setCell (p:=⟨rR,3,none⟩) H ()).setCell (p:=⟨rR,4,none⟩) H ();go_wp2;generalize World.setCell _ _ _=w9 at ad k9 ⊢;have⟨q0,q1,q2,q3,q4⟩:=k9.q5;exact Uh (v:=.tuple #[.agg #[(),(),(),(),()],false]) Jt rfl ⟨rfl,ad⟩
 .rw[hh] at HI;have⟨G,hc⟩:=lh.1 hh;have ac:kJ (A,B) L=(plc (A,B) L:Int):=by unfold kJ;rw[hh];rfl
  rw[ac] at HI;obtain⟨g,rfl,hg,q0,q1,q2,q3,q4⟩:=HidF.at J G HF.out;have HV:Hid (fA L (A,B)=some (L[plc (A,B) L]'G)):=h_ G1;rw[HV.out];simp only[lJ];clear HV hh ac hc HF;generalize (L[plc (A,B) L]'G)=e at *;generalize plc (A,B) L=p at *;obtain⟨⟨a2,b2⟩,lo,hi,t⟩:=e;simp at q0 q1 q2 q3 q4 ⊢;have cA:(p:Int)<(L.length:Int):=o_;go_enter Tryz.func145,Tryz.ntmps145;go_upto_region 1 with fail
  generalize (w.alloc _).alloc _=W at *;generalize hq:w.heap.size+1=rR at *;clear hq;obtain⟨a4,a3⟩:=kC.q2;have a5:=kC.lt;go_wp2_with fail
  refine ai (HI.out _ J) λw1 I=>?_;have aL:=af I J.size J;replace V:=V.next I
  have d0:=(I.cell (p:=⟨g,p*5,none⟩) hg).trans q0;have d1:=(I.cell (p:=⟨g,p*5+1,none⟩) hg).trans q1;have d2:=(I.cell (p:=⟨g,p*5+2,none⟩) hg).trans q2;have d3:=(I.cell (p:=⟨g,p*5+3,none⟩) hg).trans q3;have d4:=(I.cell (p:=⟨g,p*5+4,none⟩) hg).trans q4;clear a4 a3 a5 I J q0 q1 q2 q3 q4 kC;obtain⟨bz,b1,b3,ca,ab⟩:=V.q5;have aM:=V.frozen 0;have a1:=V.frozen 1;have a9:=V.frozen 2;have b9:=V.frozen 3;have aa:=V.frozen 4;have az:=V.lt;have k9:=((((V.set 0 a2).set 1 b2).set 2 lo).set 3 hi).set 4 t;have ad:=((((aL.setCell (p:=⟨rR,0,none⟩) H a2).setCell (p:=⟨rR,1,none⟩) H b2).setCell (p:=⟨rR,2,none⟩) H lo).setCell (p:=⟨rR,3,none⟩) H hi).setCell (p:=⟨rR,4,none⟩) H t;go_wp2;generalize World.setCell _ _ _=w9 at ad k9 ⊢;obtain⟨q0,q1,q2,q3,q4⟩:=k9.q5;refine Uh (v:=.tuple #[.agg #[a2,b2,lo,hi,t],true]) Jt rfl ?_;exact⟨rfl,ad⟩
def MW(b0)(v)(L)(A B)(hC:be A B=true)(hL:eA L)(w)(Z:am w b0 v L):
 Rv 133 #[v,.agg #[A,B]] w (lJ (fA L (A,B))):=by
 have⟨kC,V,J⟩:=cr w #[A,B] 42 #[(),(),(),(),()] 70;have H:w.heap.size<=w.heap.size+1:=o_;have HG:=h_ (λW (hb:Below w w W)=>tv b0 v L hL W (Z.below hb));have K:=λW=>fP A B W;rw[hC] at K;have HE:=h_ K;have HP:=h_ (λW (hb:Below w w W)=>xn b0 v L A B hC hL W (Z.below hb));have HA:=h_ (λW (hb:Below w w W)=>yJ b0 v L A B (Ui hL.2.2 o_) W (Z.below hb));obtain⟨a,F,rfl,_,hf⟩:=Z.form;have HF:=h_ hf;have b7:=hL.2.2;cases hh:cO (A,B) L
 .rw[hh] at HA;have HV:Hid (fA L (A,B)=none):=h_ (by unfold fA;rw[hh];rfl);rw[HV.out];simp only[lJ];generalize plc (A,B) L=p at *;go_enter Tryz.func133,Tryz.ntmps133;go_upto_region 1 with fail
  generalize (w.alloc _).alloc _=W,hq:w.heap.size+1=rR at *;have⟨a4,a3⟩:=kC.q2;have a5:=kC.lt
  (refine bP k_ k_ ?_;(repeat (go_big_quiet_step ((first|(go_at_call 117;with_reducible exact Calls.quiet_cls an _ (HG.out _ (af (aU.over _).below J.size J)))|(go_at_call 71;with_reducible exact Calls.quiet_cls an _ (HE.out _))|(go_at_call 121;with_reducible exact Calls.quiet_cls an _ (HP.out _ (af (aU.over _).below J.size J)))|(go_at_call 120;with_reducible exact Calls.quiet_cls an _ (HA.out _ (af (aU.over _).below J.size J)))))));refine wpQuiet_nil ?_;intro w1 I)
  have aL:=af I J.size J;replace V:=V.next I
  have⟨bz,b1,b3,ca,ab⟩:=V.q5;have aM:=V.frozen 0;have a1:=V.frozen 1;have a9:=V.frozen 2;have b9:=V.frozen 3;have aa:=V.frozen 4;have k9:=((((V.set 0 ()).set 1 ()).set 2 ()).set 3 ()).set 4 ();have ad:=((((aL.setCell (p:=rR) H ()).setCell (p:=⟨rR,1,none⟩) H ()).setCell (p:=⟨rR,2,none⟩) H ()).setCell (p:=⟨rR,3,none⟩) H ()).setCell (p:=⟨rR,4,none⟩) H ();go_wp2;generalize World.setCell _ _ _=w9 at ad k9 ⊢;have⟨q0,q1,q2,q3,q4⟩:=k9.q5;refine Uh (v:=.tuple #[.agg #[(),(),(),(),()],false]) Jw rfl ?_;exact⟨rfl,ad⟩
 .rw[hh] at HA;obtain⟨G,hc⟩:=lh.1 hh;obtain⟨g,rfl,hg,q0,q1,q2,q3,q4⟩:=HidF.at J G HF.out;have HV:Hid (fA L (A,B)=some (L[plc (A,B) L]'G)):=h_ G1;rw[HV.out];simp only[lJ];clear HV hh hc HF;generalize (L[plc (A,B) L]'G)=e at *;generalize plc (A,B) L=p at *;have⟨⟨a2,b2⟩,lo,hi,t⟩:=e;simp at q0 q1 q2 q3 q4 ⊢;have cA:(p:Int)<(L.length:Int):=o_;go_enter Tryz.func133,Tryz.ntmps133;go_upto_region 1 with fail
  generalize (w.alloc _).alloc _=W,hq:w.heap.size+1=rR at *;have⟨a4,a3⟩:=kC.q2;have a5:=kC.lt
  (refine bP k_ k_ ?_;(repeat (go_big_quiet_step ((first|(go_at_call 117;with_reducible exact Calls.quiet_cls an _ (HG.out _ (af (aU.over _).below J.size J)))|(go_at_call 71;with_reducible exact Calls.quiet_cls an _ (HE.out _))|(go_at_call 121;with_reducible exact Calls.quiet_cls an _ (HP.out _ (af (aU.over _).below J.size J)))|(go_at_call 120;with_reducible exact Calls.quiet_cls an _ (HA.out _ (af (aU.over _).below J.size J)))))));refine wpQuiet_nil ?_;intro w1 I)
  have aL:=af I J.size J;replace V:=V.next I
  replace kC:=kC.next I
  have d0:=(I.cell (p:=⟨g,p*5,none⟩) hg).trans q0;have d1:=(I.cell (p:=⟨g,p*5+1,none⟩) hg).trans q1;have d2:=(I.cell (p:=⟨g,p*5+2,none⟩) hg).trans q2;have d3:=(I.cell (p:=⟨g,p*5+3,none⟩) hg).trans q3;have d4:=(I.cell (p:=⟨g,p*5+4,none⟩) hg).trans q4;have cB:=Un hg I.size;have⟨a4,a3⟩:=kC.q2;have a5:=kC.lt;go_upto_region 3 with fail
  go_wp2_with fail
  refine (h_ (HP.out w1 aL)).out.mono ?_;rintro e w2 ⟨rfl,U⟩;replace aL:=af U aL.size aL;replace V:=V.next U
  replace d0:=(U.cell (p:=⟨g,p*5,none⟩) cB).trans d0;replace d1:=(U.cell (p:=⟨g,p*5+1,none⟩) cB).trans d1;replace d2:=(U.cell (p:=⟨g,p*5+2,none⟩) cB).trans d2;replace d3:=(U.cell (p:=⟨g,p*5+3,none⟩) cB).trans d3;replace d4:=(U.cell (p:=⟨g,p*5+4,none⟩) cB).trans d4;have⟨bz,b1,b3,ca,ab⟩:=V.q5;have aM:=V.frozen 0;have a1:=V.frozen 1;have a9:=V.frozen 2;have b9:=V.frozen 3;have aa:=V.frozen 4;have k9:=((((V.set 0 a2).set 1 b2).set 2 lo).set 3 hi).set 4 t;have ad:=((((aL.setCell (p:=rR) H a2).setCell (p:=⟨rR,1,none⟩) H b2).setCell (p:=⟨rR,2,none⟩) H lo).setCell (p:=⟨rR,3,none⟩) H hi).setCell (p:=⟨rR,4,none⟩) H t;go_wp2;generalize World.setCell _ _ _=w9 at ad k9 ⊢;obtain⟨q0,q1,q2,q3,q4⟩:=k9.q5;refine Uh (v:=.tuple #[.agg #[a2,b2,lo,hi,t],true]) Jw rfl ?_;exact⟨rfl,ad⟩
end Go.Proofs.YtaamhakdhaolmaaGreatDoor
