/- Part 8. -/
import Derived.Deep.Cut
import Derived.Test.YtaamhakdhaolmaaGreatDoorAah
namespace Go.Proofs.YtaamhakdhaolmaaGreatDoor
open Go.RowKit
set_option maxHeartbeats 8000000
set_option maxRecDepth 100000
variable {P:Prop}
set_option linter.all false
def zH(h:P:=by simp [results,Tryz.results251,go_sem,q0,q1]):=h
def zt(h:P:=by simp [results,Tryz.results325,go_sem,q0,q1]):=h
def pz(h:P:=by rw[G];omega):=h
def Fk(h:P:=by
 go_wp2;go_ret;exact⟨_,rfl,⟨⟨_,0,rfl,Ug _,λi hi=>by simp at hi⟩,λh=>absurd rfl h⟩,(Uk _ _).alloc (Ug _) _⟩):=h
def KC(h:P:=by
 go_wp2_with fail
 refine (xV _ (L.take 0) pz _ a2).mono ?_;rintro e w1 ⟨lv,rfl,Z,I⟩;obtain⟨sl,H,rfl,_⟩:=id Z.1;have aZ:=kS.next I
 obtain⟨c0,c1⟩:=aZ.q2;have z0:=aZ.frozen 0;have z1:=aZ.frozen 1;have k9:=(aZ.set 0 false).set 1 (.slice sl (L.take 0).length H);have aL:=af I J.size J;have hS:w.heap.size<=w.heap.size:=Ug _;have ad:Below w.heap.size w ((w1.setCell ⟨w.heap.size,0,none⟩ false).setCell ⟨w.heap.size,1,none⟩ (.slice sl (L.take 0).length H)):=(aL.setCell hS _).setCell hS _;have az:=Z.set2 (S:=w.heap.size) kS.lt false (.slice sl (L.take 0).length H);replace az:aW _ w.heap.size _ _:=az.le (Uo kS.lt);rw[G] at k9 ad az ⊢;rw[<-hE] at az;have bq:(tr L).isEmpty=decide (0=0):=by rw[hE,ns G]
 clear hE Z;go_wp2;generalize (World.setCell (World.setCell _ _ _) _ _)=w9 at ad k9 az ⊢;obtain⟨q0,q1⟩:=k9.q2;refine Uh (v:=.agg #[false,.slice sl (0) H]) zH rfl ?_;exact⟨_,by rw[bq];simp,az,ad⟩):=h
def J0(h:P:=by
 go_wp2_with fail
 refine (yM _ (L.take 0) pz _ a2).mono ?_;rintro e w1 ⟨lv,rfl,Z,I⟩;obtain⟨sl,H,rfl,_⟩:=id Z.1;have aZ:=kS.next I
 obtain⟨c0,c1⟩:=aZ.q2;have z0:=aZ.frozen 0;have z1:=aZ.frozen 1;have k9:=(aZ.set 0 false).set 1 (.slice sl (L.take 0).length H);have aL:=af I J.size J;have hS:w.heap.size<=w.heap.size:=Ug _;have ad:Below w.heap.size w ((w1.setCell ⟨w.heap.size,0,none⟩ false).setCell ⟨w.heap.size,1,none⟩ (.slice sl (L.take 0).length H)):=(aL.setCell hS _).setCell hS _;have az:=Z.set2 (S:=w.heap.size) kS.lt false (.slice sl (L.take 0).length H);replace az:aW _ w.heap.size _ _:=az.le (Uo kS.lt);rw[G] at k9 ad az ⊢;rw[<-hE] at az;have bq:(tr L).isEmpty=decide (0=0):=by rw[hE,ns G]
 clear hE Z;go_wp2;generalize (World.setCell (World.setCell _ _ _) _ _)=w9 at ad k9 az ⊢;obtain⟨q0,q1⟩:=k9.q2;refine Uh (v:=.agg #[false,.slice sl (0) H]) zt rfl ?_;exact⟨_,by rw[bq];simp,az,ad⟩):=h
def JE(h:P:=by
 go_enter Tryz.func40,Tryz.ntmps40;exact Fk):=h
def Af(h:P:=by
 subst hn;obtain⟨a,F,h1,h2,_⟩:=h.1;exact⟨⟨a,F,h1,h2,λi hi=>by simp at hi⟩,λh=>absurd rfl h⟩):=h
def uN(h:P:=by
 exact⟨_,by rw[bq];simp,az,ad⟩):=h
def bS(w:World)(v:Value)(L:List Int):Prop:=∃(a:bT) (F:Nat),v=.slice a L.length F/\L.length<=F/\∀i,i<L.length->∃g o,a=some ⟨g,o,none⟩/\w.cell? ⟨g,o+i,none⟩=some (.int .i64 (L[i]?.getD 0))/\g<w.heap.size
def bS.rd{w:World}{v:Value}{L:List Int}(h:bS w v L):sC w v L:=by
 obtain⟨a,F,h1,_,h2⟩:=h;exact⟨a,F,h1,h2⟩
def bS.below{w w1:World}{v:Value}{L:List Int}(h:bS w v L)(hb:Below w.heap.size w w1):bS w1 v L:=by
 obtain⟨a,F,hv,hm,hc⟩:=h;refine⟨a,F,hv,hm,λi hi=>?_⟩;obtain⟨g,o,ha,h1,h2⟩:=hc i hi;exact⟨g,o,ha,(hb.cell (p:=⟨g,o+i,none⟩) h2).trans h1,Un h2 hb.size⟩
def bS.take{w:World}{a:bT}{F:Nat}{L:List Int}(h:bS w (.slice a L.length F) L){k:Nat}(hk:k<=L.length):bS w (.slice a k F) (L.take k):=by
 obtain⟨a',ae,hv,hm,hc⟩:=h;injection hv with h1 _ h3;subst h1 h3;have hl:(L.take k).length=k:=u_;refine⟨a,F,by rw[hl],by omega,λi hi=>?_⟩;rw[hl] at hi;obtain⟨g,o,ha,q1,q2⟩:=hc i o_;exact⟨g,o,ha,by rw[q1,WX,Um hi],q2⟩
def bS.below0{n:Nat}{w w1:World}{v:Value}{L:List Int}(h:bS w v L)(hb:Below n w w1)(hn:n=w.heap.size:=by rfl):bS w1 v L:=h.below (hn▸hb)
def aq.rdL{w:World}{G:Nat}{v:Value}{L:List Int}(h:aq w G v L):bS w v L:=by
 obtain⟨a,F,hv,hc⟩:=h.form;refine⟨a,F,hv,?_,λi hi=>?_⟩
 .rcases h.2 with ⟨h0,hn⟩|⟨g,ae,aM,ac,_,_,aL,_⟩
  .rw[hv] at h0;injection h0 with _ h1 h2;omega
  .rw[hv] at ac;injection ac with _ _ h3;omega
 .exact Hb
def aW(w:World)(G:Nat)(v:Value)(L:List Int):Prop:=bS w v L/\(L≠[]->aq w G v L)
def aW.le{w:World}{G base':Nat}{v:Value}{L:List Int}(h:aW w G v L)(hb:base'<=G):aW w base' v L:=⟨h.1,λhn=>(h.2 hn).le hb⟩
def aW.set2{w:World}{G S:Nat}{v:Value}{L:List Int}(h:aW w G v L)(hS:S<G)(x y:Value):aW ((w.setCell ⟨S,0,none⟩ x).setCell ⟨S,1,none⟩ y) G v L:=by
 by_cases hn:L=[]
 .exact Af
 .have Z:=h.2 hn;have h3:=aq.over Z (((ah.refl [S] w).setCell (p:=⟨S,0,none⟩) (.inr s_) x).setCell (p:=⟨S,1,none⟩) (.inr s_) y) (λg hg=>by have:=Z.lt g hg;simp;omega);exact⟨h3.rdL,λ_=>h3⟩
def ns{l:List Int}{k:Nat}(h:l.length=k):l.isEmpty=decide (k=0):=by
 subst h;cases l<;>simp
def Wh(G:Nat)(N:Int)(v:Value)(w:World):Prop:=∃lv,v=.agg #[decide (N<0),lv]/\aW w G lv (dg N.natAbs)
def Wh.closed(G:Nat)(N:Int)(v:Value):aQ (Wh G N v):=λ_ _ ⟨lv,h1,h2,h3⟩ hb=>⟨lv,h1,h2.below hb,λh=>(h3 h).below hb⟩
def Wh.le{G base':Nat}{N:Int}{v:Value}{w:World}(h:Wh G N v w)(hb:base'<=G):Wh base' N v w:=by
 obtain⟨lv,h1,h2,h3⟩:=h;exact⟨lv,h1,h2,λhn=>(h3 hn).le hb⟩
def wh(neg:Bool)(L:List Int)(w:World)(e:Ending)(w':World):Prop:=∃lv,e=.returned (.agg #[.bool (neg&&!(tr L).isEmpty),lv])/\aW w' w.heap.size lv (tr L)/\Below w.heap.size w w'
def xV(v:Value)(L:List Int)(hL:L.length<=100000000)(w:World)(hr:bS w v L):
 Kp 302 #[v] w λe w'=>∃v',e=.returned v'/\aW w' w.heap.size v' L/\Below w.heap.size w w':=by
 by_cases hx:L=[]
 .subst hx;obtain⟨a,F,rfl,_,_⟩:=hr;have J:∀(w:World) (a:bT) (n c H c':Nat),(binOp .eql 22 (.slice a n c) (.slice none H c')).run Tryz.prog w=.ok (.bool a.isNone) w:=λw a n c H c'=>Lib.run_eql_slice_nil w _ _ a n c H c' Tryz.underlying22;cases a with
  |none=>
   go_enter Tryz.func302,Tryz.ntmps302;go_wp2;go_ret;exact⟨_,rfl,⟨⟨none,0,rfl,Ug _,λi hi=>by simp at hi⟩,λh=>absurd rfl h⟩,Uk _ _⟩
  |some a=>
   go_enter Tryz.func302,Tryz.ntmps302;exact Fk
 .exact (QC v L hx hL w hr.rd).mono λe w' ⟨v',h1,h2,h3⟩=>⟨v',h1,⟨h2.rdL,λ_=>h2⟩,h3⟩
def lV(neg:Bool)(v:Value)(L:List Int)(hL:L.length<=100000000)(w:World)(hr:bS w v L):
 Kp 251 #[neg,v] w (wh neg L w):=by
 have kS:=ag.new w #[false,.slice none 0 0] 182;have a4:=hr.below (w1:=w.alloc (.cells #[false,.slice none 0 0] 182)) ((Uk _ _).alloc (Ug _) _);have J:Below w.heap.size w (w.alloc (.cells #[false,.slice none 0 0] 182)):=(Uk _ _).alloc (Ug _) _;obtain⟨a,F,rfl,bo,hf⟩:=hr;have HR:=h_ a4;go_enter Tryz.func251,Tryz.ntmps251;go_upto_region 1 with fail
 generalize w.alloc _=W at *;go_loopw [1] (λl wr=>∃k:Nat,k<=L.length/\l=.slice a k F/\Hid (tr (L.take k)=tr L)/\wr=W) (λl _=>match l with|.slice _ n _=>n|_=>0)
 case atStart=>exact⟨L.length,Ug _,rfl,h_ (by rw[Ve]),rfl⟩
 case round=>
  obtain⟨k,hk,rfl,hT,rfl⟩:=hrel;have G:(L.take k).length=k:=u_;have a2:=HR.out.take hk;cases k with
  |zero=>
   have hE:tr L=L.take 0:=by rw[<-hT.out];rfl
   cases neg
   .exact KC
   .exact KC
  |succ k=>
   have aG:k<L.length:=o_;obtain⟨a',ae,hv,_,hc⟩:=HR.out;injection hv with e1 _ e3;subst e1 e3;obtain⟨g,o,rfl,p1,hg⟩:=hc k aG;have V:L[k]?.getD 0=L[k]:=by simp [aG]
   rw[V] at p1;have i0:(0:Int)<=(k:Int):=o_;have U:(0:Int)<((k+1:Nat):Int):=o_;have i2:((k+1:Nat):Int) - 1=k:=o_;have i3:(k:Int)<=(F:Int):=o_;have K:(k:Int)<((k+1:Nat):Int):=o_;have i5:(k:Int)<(k:Int)+1:=o_;have i6:(0:Int)<(k:Int)+1:=o_;clear hc a4;by_cases hy:L[k]=0
   .have a9:Hid (tr (L.take k)=tr L):=by show _=_;rw[<-hT.out,Ea aG hy]
    rw[hy] at p1;clear hT hy V G a2;go_wp2;go_roundw
    case rel=>exact⟨k,by omega,rfl,a9,by first|rfl|trivial⟩
    case measure=>simp
   .have hE:tr L=L.take (k+1):=by rw[<-hT.out,DH aG hy]
    generalize L[k]=y at *;cases neg
    .go_wp2_with fail
     refine (xV _ (L.take (k+1)) pz _ a2).mono ?_;rintro e w1 ⟨lv,rfl,Z,I⟩;obtain⟨sl,H,rfl,_⟩:=id Z.1;have aZ:=kS.next I
     obtain⟨c0,c1⟩:=aZ.q2;have z0:=aZ.frozen 0;have z1:=aZ.frozen 1;have k9:=(aZ.set 0 false).set 1 (.slice sl (L.take (k+1)).length H);have aL:=af I J.size J;have hS:w.heap.size<=w.heap.size:=Ug _;have ad:Below w.heap.size w ((w1.setCell ⟨w.heap.size,0,none⟩ false).setCell ⟨w.heap.size,1,none⟩ (.slice sl (L.take (k+1)).length H)):=(aL.setCell hS _).setCell hS _;have az:=Z.set2 (S:=w.heap.size) kS.lt false (.slice sl (L.take (k+1)).length H);replace az:aW _ w.heap.size _ _:=az.le (Uo kS.lt);rw[G] at k9 ad az ⊢;rw[<-hE] at az;have bq:(tr L).isEmpty=decide ((k+1)=0):=by rw[hE,ns G]
     clear hE Z;go_wp2;generalize (World.setCell (World.setCell _ _ _) _ _)=w9 at ad k9 az ⊢;obtain⟨q0,q1⟩:=k9.q2;refine Uh (v:=.agg #[false,.slice sl ((k+1)) H]) zH rfl ?_;exact uN
    .go_wp2_with fail
     refine (xV _ (L.take (k+1)) pz _ a2).mono ?_;rintro e w1 ⟨lv,rfl,Z,I⟩;obtain⟨sl,H,rfl,_⟩:=id Z.1;have aZ:=kS.next I
     obtain⟨c0,c1⟩:=aZ.q2;have z0:=aZ.frozen 0;have z1:=aZ.frozen 1;have k9:=(aZ.set 0 true).set 1 (.slice sl (L.take (k+1)).length H);have aL:=af I J.size J;have hS:w.heap.size<=w.heap.size:=Ug _;have ad:Below w.heap.size w ((w1.setCell ⟨w.heap.size,0,none⟩ true).setCell ⟨w.heap.size,1,none⟩ (.slice sl (L.take (k+1)).length H)):=(aL.setCell hS _).setCell hS _;have az:=Z.set2 (S:=w.heap.size) kS.lt true (.slice sl (L.take (k+1)).length H);replace az:aW _ w.heap.size _ _:=az.le (Uo kS.lt);rw[G] at k9 ad az ⊢;rw[<-hE] at az;have bq:(tr L).isEmpty=decide ((k+1)=0):=by rw[hE,ns G]
     clear hE Z;go_wp2;generalize (World.setCell (World.setCell _ _ _) _ _)=w9 at ad k9 az ⊢;obtain⟨q0,q1⟩:=k9.q2;refine Uh (v:=.agg #[true,.slice sl ((k+1)) H]) zH rfl ?_;exact uN
def yM(v:Value)(L:List Int)(hL:L.length<=100000000)(w:World)(hr:bS w v L):
 Kp 40 #[v] w λe w'=>∃v',e=.returned v'/\aW w' w.heap.size v' L/\Below w.heap.size w w':=by
 by_cases hx:L=[]
 .subst hx;obtain⟨a,F,rfl,_,_⟩:=hr;cases a with
  |none=>
   exact JE
  |some a=>
   exact JE
 .obtain⟨a,F,rfl,_,hc⟩:=hr;obtain⟨g,o,rfl,_,_⟩:=hc 0 (Vi.2 hx);have bb:∀i,i<L.length->w.cell? ⟨g,o+i,none⟩=some (.int .i64 (L[i]?.getD 0))/\g<w.heap.size:=by
   exact IS
  have HC:=h_ bb;clear hc bb;go_enter Tryz.func40,Tryz.ntmps40;go_wp2_with (at_builtin;refine AV rfl _ _ rfl L g o F rfl rfl HC.out o_ ?_;intro v' w1 G I)
  go_wp2;go_ret;exact⟨_,rfl,⟨G.rdL,λ_=>G⟩,I⟩
def mc(neg:Bool)(v:Value)(L:List Int)(hL:L.length<=100000000)(w:World)(hr:bS w v L):
 Kp 325 #[neg,v] w (wh neg L w):=by
 have kS:=ag.new w #[false,.slice none 0 0] 182;have a4:=hr.below (w1:=w.alloc (.cells #[false,.slice none 0 0] 182)) ((Uk _ _).alloc (Ug _) _);have J:Below w.heap.size w (w.alloc (.cells #[false,.slice none 0 0] 182)):=(Uk _ _).alloc (Ug _) _;obtain⟨a,F,rfl,bo,hf⟩:=hr;have HR:=h_ a4;go_enter Tryz.func325,Tryz.ntmps325;go_upto_region 1 with fail
 generalize w.alloc _=W at *;go_wp2;go_loopw [5] (λn wr=>∃k:Nat,k<=L.length/\n=.int .i64 k/\Hid (tr (L.take k)=tr L)/\wr=W) (λn _=>(intOf n).toNat)
 case atStart=>exact⟨L.length,Ug _,rfl,h_ (by rw[Ve]),rfl⟩
 case round=>
  obtain⟨k,hk,rfl,hT,rfl⟩:=hrel;have G:(L.take k).length=k:=u_;have a2:=HR.out.take hk;have i9:(k:Int)<=(F:Int):=o_;have i8:(0:Int)<=(k:Int):=o_;cases k with
  |zero=>
   have hE:tr L=L.take 0:=by rw[<-hT.out];rfl
   cases neg
   .exact J0
   .exact J0
  |succ k=>
   have aG:k<L.length:=o_;obtain⟨a',ae,hv,_,hc⟩:=HR.out;injection hv with e1 _ e3;subst e1 e3;obtain⟨g,o,rfl,p1,hg⟩:=hc k aG;have V:L[k]?.getD 0=L[k]:=by simp [aG]
   rw[V] at p1;have i0:(0:Int)<=(k:Int):=o_;have U:(0:Int)<((k+1:Nat):Int):=o_;have i2:((k+1:Nat):Int) - 1=k:=o_;have i3:(k:Int)<=(F:Int):=o_;have K:(k:Int)<((k+1:Nat):Int):=o_;have i5:(k:Int)<(L.length:Int):=o_;have i6:(0:Int)<(k:Int)+1:=o_;have i7:(k:Int)+1<=(F:Int):=o_;have aa:(0:Int)<=(k:Int)+1:=o_;clear hc a4;by_cases hy:L[k]=0
   .have a9:Hid (tr (L.take k)=tr L):=by show _=_;rw[<-hT.out,Ea aG hy]
    rw[hy] at p1;clear hT hy V G a2;go_wp2;go_roundw
    case rel=>exact⟨k,by omega,rfl,a9,by first|rfl|trivial⟩
    case measure=>simp [intOf]
   .have hE:tr L=L.take (k+1):=by rw[<-hT.out,DH aG hy]
    generalize L[k]=y at *;cases neg
    .go_wp2_with fail
     refine (yM _ (L.take (k+1)) pz _ a2).mono ?_;rintro e w1 ⟨lv,rfl,Z,I⟩;obtain⟨sl,H,rfl,_⟩:=id Z.1;have aZ:=kS.next I
     obtain⟨c0,c1⟩:=aZ.q2;have z0:=aZ.frozen 0;have z1:=aZ.frozen 1;have k9:=(aZ.set 0 false).set 1 (.slice sl (L.take (k+1)).length H);have aL:=af I J.size J;have hS:w.heap.size<=w.heap.size:=Ug _;have ad:Below w.heap.size w ((w1.setCell ⟨w.heap.size,0,none⟩ false).setCell ⟨w.heap.size,1,none⟩ (.slice sl (L.take (k+1)).length H)):=(aL.setCell hS _).setCell hS _;have az:=Z.set2 (S:=w.heap.size) kS.lt false (.slice sl (L.take (k+1)).length H);replace az:aW _ w.heap.size _ _:=az.le (Uo kS.lt);rw[G] at k9 ad az ⊢;rw[<-hE] at az;have bq:(tr L).isEmpty=decide ((k+1)=0):=by rw[hE,ns G]
     clear hE Z;go_wp2;generalize (World.setCell (World.setCell _ _ _) _ _)=w9 at ad k9 az ⊢;obtain⟨q0,q1⟩:=k9.q2;refine Uh (v:=.agg #[false,.slice sl ((k+1)) H]) zt rfl ?_;exact uN
    .go_wp2_with fail
     refine (yM _ (L.take (k+1)) pz _ a2).mono ?_;rintro e w1 ⟨lv,rfl,Z,I⟩;obtain⟨sl,H,rfl,_⟩:=id Z.1;have aZ:=kS.next I
     obtain⟨c0,c1⟩:=aZ.q2;have z0:=aZ.frozen 0;have z1:=aZ.frozen 1;have k9:=(aZ.set 0 true).set 1 (.slice sl (L.take (k+1)).length H);have aL:=af I J.size J;have hS:w.heap.size<=w.heap.size:=Ug _;have ad:Below w.heap.size w ((w1.setCell ⟨w.heap.size,0,none⟩ true).setCell ⟨w.heap.size,1,none⟩ (.slice sl (L.take (k+1)).length H)):=(aL.setCell hS _).setCell hS _;have az:=Z.set2 (S:=w.heap.size) kS.lt true (.slice sl (L.take (k+1)).length H);replace az:aW _ w.heap.size _ _:=az.le (Uo kS.lt);rw[G] at k9 ad az ⊢;rw[<-hE] at az;have bq:(tr L).isEmpty=decide ((k+1)=0):=by rw[hE,ns G]
     clear hE Z;go_wp2;generalize (World.setCell (World.setCell _ _ _) _ _)=w9 at ad k9 az ⊢;obtain⟨q0,q1⟩:=k9.q2;refine Uh (v:=.agg #[true,.slice sl ((k+1)) H]) zt rfl ?_;exact uN
def bQ{b:Nat}{N:Int}{v:Value}:aQ (Wh b N v):=Wh.closed _ _ _
def eI(h:P:=by have:=H.out;omega):=h
def FD(h:P:=by rw[fI (by have:=H.out;omega)];exact aG):=h
def Hh(h:P:=by
 have V:lb[i]?.getD 0=0:=by simp [K]
 clear ae;rcases (by omega:c+x<0\/10000<=c+x\/(0<=c+x/\c+x<=9999)) with hn|hn|hn
 .
   first
    |(exfalso;omega)
    |have g:=h_ (hC.out.step (d:=c+x+10000) (c':=-1) ex V rfl o_ o_ o_)
     clear ex V HA a2;clear hi;go_wp2;go_roundw
     case rel=>exact⟨i+1,O++[c+x+10000],-1,by omega,by go_num,by go_num,g,by rw[<-fQ H.out o_];exact Z.setG (fI eI).symm i _,hb.setCell (Ug _) _⟩
     case measure=>exact aO
 .
   first
    |(exfalso;omega)
    |have g:=h_ (hC.out.step (d:=c+x - 10000) (c':=1) ex V rfl o_ o_ o_)
     clear ex V HA a2;clear hi;go_wp2;go_roundw
     case rel=>exact⟨i+1,O++[c+x - 10000],1,by omega,by go_num,by go_num,g,by rw[<-fQ H.out o_];exact Z.setG (fI eI).symm i _,hb.setCell (Ug _) _⟩
     case measure=>exact aO
 .
   first
    |(exfalso;omega)
    |have g:=h_ (hC.out.step (d:=c+x) (c':=0) ex V rfl o_ o_ o_)
     clear ex V HA a2;clear hi;go_wp2;go_roundw
     case rel=>exact⟨i+1,O++[c+x],0,by omega,by go_num,by go_num,g,by rw[<-fQ H.out o_];exact Z.setG (fI eI).symm i _,hb.setCell (Ug _) _⟩
     case measure=>exact aO):=h
def IN(h:P:=by
 have V:lb[i]?.getD 0=0:=by simp [K]
 clear ae;rcases (by omega:c<0\/10000<=c\/(0<=c/\c<=9999)) with hn|hn|hn
 .
   first
    |(exfalso;omega)
    |have g:=h_ (hC.out.step (d:=c+10000) (c':=-1) ex V rfl o_ o_ o_)
     clear ex V HA a2;clear hi;go_wp2;go_roundw
     case rel=>exact⟨i+1,O++[c+10000],-1,by omega,by go_num,by go_num,g,by rw[<-fQ H.out o_];exact Z.setG (fI eI).symm i _,hb.setCell (Ug _) _⟩
     case measure=>exact aO
 .
   first
    |(exfalso;omega)
    |have g:=h_ (hC.out.step (d:=c - 10000) (c':=1) ex V rfl o_ o_ o_)
     clear ex V HA a2;clear hi;go_wp2;go_roundw
     case rel=>exact⟨i+1,O++[c - 10000],1,by omega,by go_num,by go_num,g,by rw[<-fQ H.out o_];exact Z.setG (fI eI).symm i _,hb.setCell (Ug _) _⟩
     case measure=>exact aO
 .
   first
    |(exfalso;omega)
    |have g:=h_ (hC.out.step (d:=c) (c':=0) ex V rfl o_ o_ o_)
     clear ex V HA a2;clear hi;go_wp2;go_roundw
     case rel=>exact⟨i+1,O++[c],0,by omega,by go_num,by go_num,g,by rw[<-fQ H.out o_];exact Z.setG (fI eI).symm i _,hb.setCell (Ug _) _⟩
     case measure=>exact aO):=h
def Fi(h:P:=by
 have G:=hC.out.dg;rw[Sr H.out] at Z;have HE:=h_ (And.intro G F);clear F G;go_wp2;go_ret;exact⟨_,O,rfl,Z.le (by rw[HB.out];exact Ug _),HE.out.1,HE.out.2,by have:=H.out;omega,HB.out▸hb⟩):=h
def Lf(h:P:=by
 have aF:=I.adi i;have ae:=bv.adi i;have a4:=hC.out.lo;have b2:=hC.out.hi;have s1:=Z.cell (i:=i) FD;have f1:=Z.frozen i;by_cases ad:i<la.length
 .obtain⟨ga,oa,rfl,q1,bz⟩:=HA.out i ad;have d1:=(hb.cell (p:=⟨ga,oa+i,none⟩) (HB.out▸bz)).trans q1;generalize ex:la[i]?.getD 0=x at d1 aF;clear q1;by_cases K:i<lb.length
  .obtain⟨gb,ob,rfl,q2,aX⟩:=a2.out i K;have d2:=(hb.cell (p:=⟨gb,ob+i,none⟩) (HB.out▸aX)).trans q2;generalize V:lb[i]?.getD 0=y at d2 ae;clear q2;rcases (by omega:c+x+-y<0\/10000<=c+x+-y\/(0<=c+x+-y/\c+x+-y<=9999)) with hn|hn|hn
   .
     first
      |(exfalso;omega)
      |have g:=h_ (hC.out.step (d:=c+x+-y+10000) (c':=-1) ex V rfl o_ o_ o_)
       clear ex V HA a2;clear hi;go_wp2;go_roundw
       case rel=>exact⟨i+1,O++[c+x+-y+10000],-1,by omega,by go_num,by go_num,g,by rw[<-fQ H.out o_];exact Z.setG (fI eI).symm i _,hb.setCell (Ug _) _⟩
       case measure=>exact aO
   .
     first
      |(exfalso;omega)
      |have g:=h_ (hC.out.step (d:=c+x+-y - 10000) (c':=1) ex V rfl o_ o_ o_)
       clear ex V HA a2;clear hi;go_wp2;go_roundw
       case rel=>exact⟨i+1,O++[c+x+-y - 10000],1,by omega,by go_num,by go_num,g,by rw[<-fQ H.out o_];exact Z.setG (fI eI).symm i _,hb.setCell (Ug _) _⟩
       case measure=>exact aO
   .
     first
      |(exfalso;omega)
      |have g:=h_ (hC.out.step (d:=c+x+-y) (c':=0) ex V rfl o_ o_ o_)
       clear ex V HA a2;clear hi;go_wp2;go_roundw
       case rel=>exact⟨i+1,O++[c+x+-y],0,by omega,by go_num,by go_num,g,by rw[<-fQ H.out o_];exact Z.setG (fI eI).symm i _,hb.setCell (Ug _) _⟩
       case measure=>exact aO
  .exact Hh
 .have ex:la[i]?.getD 0=0:=by simp [ad]
  clear aF;by_cases K:i<lb.length
  .obtain⟨gb,ob,rfl,q2,aX⟩:=a2.out i K;have d2:=(hb.cell (p:=⟨gb,ob+i,none⟩) (HB.out▸aX)).trans q2;generalize V:lb[i]?.getD 0=y at d2 ae;clear q2;rcases (by omega:c+-y<0\/10000<=c+-y\/(0<=c+-y/\c+-y<=9999)) with hn|hn|hn
   .
     first
      |(exfalso;omega)
      |have g:=h_ (hC.out.step (d:=c+-y+10000) (c':=-1) ex V rfl o_ o_ o_)
       clear ex V HA a2;clear hi;go_wp2;go_roundw
       case rel=>exact⟨i+1,O++[c+-y+10000],-1,by omega,by go_num,by go_num,g,by rw[<-fQ H.out o_];exact Z.setG (fI eI).symm i _,hb.setCell (Ug _) _⟩
       case measure=>exact aO
   .
     first
      |(exfalso;omega)
      |have g:=h_ (hC.out.step (d:=c+-y - 10000) (c':=1) ex V rfl o_ o_ o_)
       clear ex V HA a2;clear hi;go_wp2;go_roundw
       case rel=>exact⟨i+1,O++[c+-y - 10000],1,by omega,by go_num,by go_num,g,by rw[<-fQ H.out o_];exact Z.setG (fI eI).symm i _,hb.setCell (Ug _) _⟩
       case measure=>exact aO
   .
     first
      |(exfalso;omega)
      |have g:=h_ (hC.out.step (d:=c+-y) (c':=0) ex V rfl o_ o_ o_)
       clear ex V HA a2;clear hi;go_wp2;go_roundw
       case rel=>exact⟨i+1,O++[c+-y],0,by omega,by go_num,by go_num,g,by rw[<-fQ H.out o_];exact Z.setG (fI eI).symm i _,hb.setCell (Ug _) _⟩
       case measure=>exact aO
  .exact IN):=h
def Lt(h:P:=by
 have aF:=I.adi i;have ae:=bv.adi i;have a4:=hC.out.lo;have b2:=hC.out.hi;have s1:=Z.cell (i:=i) FD;have f1:=Z.frozen i;by_cases ad:i<la.length
 .obtain⟨ga,oa,rfl,q1,bz⟩:=HA.out i ad;have d1:=(hb.cell (p:=⟨ga,oa+i,none⟩) (HB.out▸bz)).trans q1;generalize ex:la[i]?.getD 0=x at d1 aF;clear q1;by_cases K:i<lb.length
  .obtain⟨gb,ob,rfl,q2,aX⟩:=a2.out i K;have d2:=(hb.cell (p:=⟨gb,ob+i,none⟩) (HB.out▸aX)).trans q2;generalize V:lb[i]?.getD 0=y at d2 ae;clear q2;rcases (by omega:c+x+y<0\/10000<=c+x+y\/(0<=c+x+y/\c+x+y<=9999)) with hn|hn|hn
   .
     first
      |(exfalso;omega)
      |have g:=h_ (hC.out.step (d:=c+x+y+10000) (c':=-1) ex V rfl o_ o_ o_)
       clear ex V HA a2;clear hi;go_wp2;go_roundw
       case rel=>exact⟨i+1,O++[c+x+y+10000],-1,by omega,by go_num,by go_num,g,by rw[<-fQ H.out o_];exact Z.setG (fI eI).symm i _,hb.setCell (Ug _) _⟩
       case measure=>exact aO
   .
     first
      |(exfalso;omega)
      |have g:=h_ (hC.out.step (d:=c+x+y - 10000) (c':=1) ex V rfl o_ o_ o_)
       clear ex V HA a2;clear hi;go_wp2;go_roundw
       case rel=>exact⟨i+1,O++[c+x+y - 10000],1,by omega,by go_num,by go_num,g,by rw[<-fQ H.out o_];exact Z.setG (fI eI).symm i _,hb.setCell (Ug _) _⟩
       case measure=>exact aO
   .
     first
      |(exfalso;omega)
      |have g:=h_ (hC.out.step (d:=c+x+y) (c':=0) ex V rfl o_ o_ o_)
       clear ex V HA a2;clear hi;go_wp2;go_roundw
       case rel=>exact⟨i+1,O++[c+x+y],0,by omega,by go_num,by go_num,g,by rw[<-fQ H.out o_];exact Z.setG (fI eI).symm i _,hb.setCell (Ug _) _⟩
       case measure=>exact aO
  .exact Hh
 .have ex:la[i]?.getD 0=0:=by simp [ad]
  clear aF;by_cases K:i<lb.length
  .obtain⟨gb,ob,rfl,q2,aX⟩:=a2.out i K;have d2:=(hb.cell (p:=⟨gb,ob+i,none⟩) (HB.out▸aX)).trans q2;generalize V:lb[i]?.getD 0=y at d2 ae;clear q2;rcases (by omega:c+y<0\/10000<=c+y\/(0<=c+y/\c+y<=9999)) with hn|hn|hn
   .
     first
      |(exfalso;omega)
      |have g:=h_ (hC.out.step (d:=c+y+10000) (c':=-1) ex V rfl o_ o_ o_)
       clear ex V HA a2;clear hi;go_wp2;go_roundw
       case rel=>exact⟨i+1,O++[c+y+10000],-1,by omega,by go_num,by go_num,g,by rw[<-fQ H.out o_];exact Z.setG (fI eI).symm i _,hb.setCell (Ug _) _⟩
       case measure=>exact aO
   .
     first
      |(exfalso;omega)
      |have g:=h_ (hC.out.step (d:=c+y - 10000) (c':=1) ex V rfl o_ o_ o_)
       clear ex V HA a2;clear hi;go_wp2;go_roundw
       case rel=>exact⟨i+1,O++[c+y - 10000],1,by omega,by go_num,by go_num,g,by rw[<-fQ H.out o_];exact Z.setG (fI eI).symm i _,hb.setCell (Ug _) _⟩
       case measure=>exact aO
   .
     first
      |(exfalso;omega)
      |have g:=h_ (hC.out.step (d:=c+y) (c':=0) ex V rfl o_ o_ o_)
       clear ex V HA a2;clear hi;go_wp2;go_roundw
       case rel=>exact⟨i+1,O++[c+y],0,by omega,by go_num,by go_num,g,by rw[<-fQ H.out o_];exact Z.setG (fI eI).symm i _,hb.setCell (Ug _) _⟩
       case measure=>exact aO
  .exact IN):=h
def Iw(h:P:=by
 obtain⟨_,F⟩:=hC.out.done I bv (.inl rfl) o_ o_ HV.out;exact Fi):=h
def FU(h:P:=by
 obtain⟨_,F⟩:=hC.out.done I bv (.inr rfl) o_ o_ HV.out;exact Fi):=h
def jd(L:List Int)(i:Nat):vl (L.take (i+1))=vl (L.take i)+10000 ^ i*(L[i]?.getD 0):=by
 by_cases h:i<L.length
 .rw[MS h];simp [h]
 .rw[UP o_,UP o_];simp [h]
def Dg.adi{L:List Int}(h:Dg L)(i:Nat):0<=L[i]?.getD 0/\L[i]?.getD 0<=9999:=by
 by_cases hi:i<L.length
 .have e:L[i]?.getD 0=L[i]:=by simp [hi]
  rw[e];exact h _ (UA hi)
 .simp [hi]
def Dg.snoc{L:List Int}(h:Dg L){x:Int}(hx:0<=x/\x<=9999):Dg (L++[x]):=by
 intro y hy;rcases Vx.1 hy with hy|hy
 .exact h y hy
 .rw[UD] at hy;subst hy;exact hx
def DM(L:List Int)(x:Int):vl (L++[x])=vl L+10000 ^ L.length*x:=by
 rw[ti];simp [vl]
structure Cb (a b:List Int)(s:Int)(i:Nat)(O:List Int)(c:Int):Prop where
 len:O.length=i
 dg:Dg O
 lo:-1<=c
 hi:c<=1
 eq:vl O+c*10000 ^ i=vl (a.take i)+s*vl (b.take i)
def Cb.zero(a b:List Int)(s:Int):Cb a b s 0 [] 0:=⟨rfl,λx hx=>by simp at hx,by omega,by omega,by simp [vl]⟩
def Cb.step{a b:List Int}{s c x y n d c':Int}{i:Nat}{O:List Int}(h:Cb a b s i O c)(hx:a[i]?.getD 0=x)(hy:b[i]?.getD 0=y)(hn:n=c+x+s*y)(hd:n=d+c'*10000)(h0:0<=d/\d<=9999)(hl:-1<=c'/\c'<=1):Cb a b s (i+1) (O++[d]) c':=by
 refine⟨by simp [h.len],h.dg.snoc h0,hl.1,hl.2,?_⟩;have he:=h.eq;rw[DM,h.len,jd,jd,hx,hy];have e1:d=c+x+s*y - c'*10000:=o_;rw[e1,UN];generalize (10000:Int) ^ i=P at *;have q1:P*(c+x+s*y - c'*10000)=c*P+P*x+s*(P*y) - c'*(P*10000):=by
  rw[Int.mul_sub,Vj,Vj,VZ P s y,VZ P c' 10000,Vm P c]
 rw[q1,Vj];generalize c'*(P*10000)=u1;generalize s*(P*y)=u2;generalize P*x=u3;generalize c*P=u4 at *;generalize s*vl (List.take i b)=u5 at *;omega
def i_(L:List Int){i:Nat}(h:L.length<=i):vl (L.take i)=vl L:=by rw[UP h]
theorem po:∀k:Nat,(1:Int)<=10000 ^ k
 |0=>by rw[Xc];omega
 |k+1=>by have:=po k;rw[UN];omega
theorem D4(k:Nat):∀j:Nat,(10000:Int) ^ k<=10000 ^ (k+j)
 |0=>Int.le_refl _
 |j+1=>by have:=D4 k j;have:=po (k+j);rw[<-Wb,UN];omega
def pS{L:List Int}(h:Dg L){m:Nat}(hm:L.length<=m):vl L<10000 ^ m:=Int.lt_of_lt_of_le h.lt (by
 have:=D4 L.length (m - L.length);rwa [show L.length+(m - L.length)=m by omega] at this)
def Cb.done{a b:List Int}{s c:Int}{i:Nat}{O:List Int}(h:Cb a b s i O c)(ha:Dg a)(hb:Dg b)(hs:s=1\/s=-1)(aM:a.length+1<=i)(U:b.length+1<=i)(hV:0<=vl a+s*vl b):c=0/\vl O=vl a+s*vl b:=by
 have he:=h.eq;rw[i_ a o_,i_ b o_] at he;have h1:vl a<10000 ^ (i - 1):=pS ha o_;have h2:vl b<10000 ^ (i - 1):=pS hb o_;have h3:=ha.nn;have h4:=hb.nn;have h5:=h.dg.nn;have h6:=h.dg.lt;rw[h.len] at h6;have e:(10000:Int) ^ i=10000 ^ (i - 1)*10000:=by
  obtain⟨k,rfl⟩:∃k,i=k+1:=⟨i - 1,by omega⟩
  rw[XQ,UN]
 rw[e] at he h6;generalize (10000:Int) ^ (i - 1)=P at *;have hc:c=0:=by
  have:=h.lo;have:=h.hi;have:c=-1\/c=0\/c=1:=by omega
  rcases hs with rfl|rfl<;>rcases this with rfl|rfl|rfl<;>first|rfl|(exfalso;omega)
 subst hc;exact⟨rfl,by omega⟩
def aq.setG{w:World}{G g n F:Nat}{M:List Int}(h:aq w G (.slice (some ⟨g,0,none⟩) n F) M)(hn:n=M.length)(k:Nat)(x:Int):aq (w.setCell ⟨g,k,none⟩ x) G (.slice (some ⟨g,0,none⟩) n F) (M.set k x):=by
 subst hn;unfold aq at h ⊢;rw[List.length_set,List.map_set];exact jJ h rfl _ _
def N5(n:Nat):(madeCells (Value.int .i64 0).cells (n*1)).toList=(List.replicate n (0:Int)).map (Value.int .i64):=by
 rw[Nat.mul_one];show (madeCells #[Value.int .i64 0] n).toList=_;rw[toList_madeCells_one,List.map_replicate]
def qR(w:World)(N:Nat)(hN:N<=1000000):∃wm,(Instr.makeSlice 22 (.int .i64 (N:Int)) (.int .i64 (N:Int))).run Tryz.prog w=.ok (.slice (some ⟨w.heap.size,0,none⟩) N N) wm/\aq wm w.heap.size (.slice (some ⟨w.heap.size,0,none⟩) N N) (List.replicate N 0)/\Below w.heap.size w wm:=by
 obtain⟨i0,hi,bi,ax,a8⟩:=VE Tryz.infoI;obtain⟨wm,b6,V,hg⟩:=run_make_full (P:=Tryz.prog) w w.heap.size 22 3 i0 (.int .i64 0) 1 Tryz.underlying22 hi bi ax .i64 .i64 N (by rw[a8];omega) pv (Ug _);rw[N5] at V;refine⟨wm,b6,?_,⟨hg.os,hg.tape,hg.output,hg.size,λk hk=>hg.block k hk s_⟩⟩;unfold aq;rw[Yo];exact V
def fz(O:List Int)(m:Nat):List Int:=O++List.replicate (m - O.length) 0
def fI{O:List Int}{m:Nat}(h:O.length<=m):(fz O m).length=m:=by simp [fz];omega
def fQ{O:List Int}{m i:Nat}(hi:O.length=i)(h:i<m)(x:Int):(fz O m).set i x=fz (O++[x]) m:=by
 unfold fz;obtain⟨k,hk⟩:∃k,m - i=k+1:=⟨m - i - 1,by omega⟩
 rw[hi,hk,XC,WQ,Uj o_,hi,V7,UV,U5,UE,hi,WA,show m - (i+1)=k by omega];rfl
def Sr{O:List Int}{m:Nat}(h:O.length=m):fz O m=O:=by simp [fz,h]
def Le(V:Int)(n:Nat)(w:World)(e:Ending)(w':World):Prop:=∃v O,e=.returned v/\aq w' w.heap.size v O/\Dg O/\vl O=V/\O.length<=n/\Below w.heap.size w w'
def wS(s:Int)(hs:s=1\/s=-1)(a b:Value)(la lb:List Int)(aM:la.length<=100000)(U:lb.length<=100000)(I:Dg la)(bv:Dg lb)(hV:0<=vl la+s*vl lb)(w:World)(ha:bS w a la)(ax:bS w b lb):
 Kp 252 #[a,b,s] w (Le (vl la+s*vl lb) (max la.length lb.length+1) w):=by
 obtain⟨aa,ca,rfl,_,co⟩:=ha;obtain⟨ab,cb,rfl,_,a7⟩:=ax;obtain⟨m,hm⟩:∃m,m=max la.length lb.length:=⟨_,rfl⟩
 obtain⟨wm,b6,b3,J⟩:=qR w (m+1) o_;have HA:=h_ co;have a2:=h_ a7;simp only[Int.natCast_add,Int.cast_ofNat_Int] at b6;clear co a7;have ez:List.replicate (m+1) (0:Int)=fz [] (m+1):=by simp [fz]
 rw[ez] at b3;rw[<-hm];generalize aL:w.heap.size=B at b6 b3 J;have HB:=h_ aL;clear aL;have HV:=h_ hV;clear hV;rcases Vn la.length lb.length with hx|hx
 .have a9:(la.length:Int)<lb.length:=o_;have ac:¬(lb.length:Int)<=la.length:=o_;obtain rfl:m=lb.length:=by omega
  clear hm;rcases hs with rfl|rfl
  .
    go_enter Tryz.func252,Tryz.ntmps252;go_wp2;go_loopw [8,20] (λcv iv wr=>∃(i:Nat) (O:List Int) (c:Int),i<=lb.length+1/\cv=.int .i64 c/\iv=.int .i64 i/\Hid (Cb la lb (1) i O c)/\aq wr B (.slice (some ⟨B,0,none⟩) (lb.length+1) (lb.length+1)) (fz O (lb.length+1))/\Below B w wr) (λ_ iv _=>lb.length+1 - (intOf iv).toNat)
    case atStart=>exact⟨0,[],0,by omega,rfl,rfl,h_ (Cb.zero _ _ _),b3,J⟩
    case round=>
     clear b3 J;obtain⟨i,O,c,hi,rfl,rfl,hC,Z,hb⟩:=hrel;have H:=h_ hC.out.len;by_cases aG:i<lb.length+1
     .exact Lt
     .obtain rfl:i=lb.length+1:=by omega
      exact Iw
  .
    go_enter Tryz.func252,Tryz.ntmps252;go_wp2;go_loopw [8,20] (λcv iv wr=>∃(i:Nat) (O:List Int) (c:Int),i<=lb.length+1/\cv=.int .i64 c/\iv=.int .i64 i/\Hid (Cb la lb (-1) i O c)/\aq wr B (.slice (some ⟨B,0,none⟩) (lb.length+1) (lb.length+1)) (fz O (lb.length+1))/\Below B w wr) (λ_ iv _=>lb.length+1 - (intOf iv).toNat)
    case atStart=>exact⟨0,[],0,by omega,rfl,rfl,h_ (Cb.zero _ _ _),b3,J⟩
    case round=>
     clear b3 J;obtain⟨i,O,c,hi,rfl,rfl,hC,Z,hb⟩:=hrel;have H:=h_ hC.out.len;by_cases aG:i<lb.length+1
     .exact Lf
     .obtain rfl:i=lb.length+1:=by omega
      exact FU
 .have a9:¬(la.length:Int)<lb.length:=o_;have ac:(lb.length:Int)<=la.length:=o_;obtain rfl:m=la.length:=by omega
  clear hm;rcases hs with rfl|rfl
  .
    go_enter Tryz.func252,Tryz.ntmps252;go_wp2;go_loopw [8,20] (λcv iv wr=>∃(i:Nat) (O:List Int) (c:Int),i<=la.length+1/\cv=.int .i64 c/\iv=.int .i64 i/\Hid (Cb la lb (1) i O c)/\aq wr B (.slice (some ⟨B,0,none⟩) (la.length+1) (la.length+1)) (fz O (la.length+1))/\Below B w wr) (λ_ iv _=>la.length+1 - (intOf iv).toNat)
    case atStart=>exact⟨0,[],0,by omega,rfl,rfl,h_ (Cb.zero _ _ _),b3,J⟩
    case round=>
     clear b3 J;obtain⟨i,O,c,hi,rfl,rfl,hC,Z,hb⟩:=hrel;have H:=h_ hC.out.len;by_cases aG:i<la.length+1
     .exact Lt
     .obtain rfl:i=la.length+1:=by omega
      exact Iw
  .
    go_enter Tryz.func252,Tryz.ntmps252;go_wp2;go_loopw [8,20] (λcv iv wr=>∃(i:Nat) (O:List Int) (c:Int),i<=la.length+1/\cv=.int .i64 c/\iv=.int .i64 i/\Hid (Cb la lb (-1) i O c)/\aq wr B (.slice (some ⟨B,0,none⟩) (la.length+1) (la.length+1)) (fz O (la.length+1))/\Below B w wr) (λ_ iv _=>la.length+1 - (intOf iv).toNat)
    case atStart=>exact⟨0,[],0,by omega,rfl,rfl,h_ (Cb.zero _ _ _),b3,J⟩
    case round=>
     clear b3 J;obtain⟨i,O,c,hi,rfl,rfl,hC,Z,hb⟩:=hrel;have H:=h_ hC.out.len;by_cases aG:i<la.length+1
     .exact Lf
     .obtain rfl:i=la.length+1:=by omega
      exact FU
def vC(h:P:=by rw[hL,qY,HN.out]):=h
def I7(h:P:=by simp [results,Tryz.results195,go_sem,q0,q1]):=h
def Jl(h:P:=by simp [results,Tryz.results290,go_sem,q0,q1]):=h
def vY(h:P:=by
 have U:=h_ (R8 hD.out cQ);have aG:(0:Int)<(M:Int):=o_;have cF:(0:Int)<=(M:Int):=o_;clear hD;go_wp2_with (at_builtin;refine fN rfl _ _ rfl W.heap.size _ L rfl Z rfl o_ g ?_;intro v' w4 bo K bY)
 go_wp2;go_roundw
 case rel=>exact⟨M / 10000,_,by go_num,by omega,U,bo,hb.trans K⟩
 case measure=>exact aO):=h
def uU(h:P:=by
 exact⟨_,rfl,⟨_,by rw[hs],by rw[<-HN.out];exact az⟩,ad⟩):=h
def dG(N:Int)(w:World)(e:Ending)(w':World):Prop:=∃v,e=.returned v/\Wh w N v w'/\Below w w w'
def qY{n}:tr (dg n)=dg n:=by
 have h:=jQ n;rw[rE h.1,h.2.2];rfl
def RD{N:Int}{L}(h:tr L=dg N.natAbs):(decide (N<0)&&!(tr L).isEmpty)=decide (N<0):=by
 rw[h];by_cases hN:N<0
 .have:dg N.natAbs≠[]:=λh=>by have:=ui.1 h;omega
  rw[ns rfl];simp [hN,this]
 .simp [hN]
def wh.whole{neg}{N}{L}(hs:neg=decide (N<0)\/N=0)(hL:tr L=dg N.natAbs){w}{e}{w'}(h:wh neg L w e w'):dG N w e w':=by
 have⟨lv,h1,h2,h3⟩:=h;refine⟨_,h1,⟨lv,?_,by rw[<-hL];exact h2⟩,h3⟩;rcases hs with rfl|rfl
 .rw[RD hL]
 .rw[hL];simp [iB]
def R8{M N}{L}(h:L++dg M=dg N)(hM:M≠0):(L++[((M:Int)) % 10000])++dg (M / 10000)=dg N:=by
 rw[<-h,uv hM,U5];rfl
def ub{M N}{L}(h:L++dg M=dg N):L.length<=(dg N).length:=by rw[<-h];simp
def ft(n:Int)(hn:-1000000000000000000<=n/\n<=1000000000000000000)(w):
 Kp 195 #[n] w (dG n w):=by
 have⟨kS,J⟩:=aw w #[false,.slice none 0 0] 182;obtain⟨N,hN⟩:∃N,N=n.natAbs:=⟨_,rfl⟩
 have ac:(dg N).length<=5:=ff o_;have V:N<=1000000000000000000:=o_;by_cases ae:n<0
 .have b2:-n=(N:Int):=o_;have HN:=h_ hN;clear hN;have cm:¬(-n<n):=o_;go_enter Tryz.func195,Tryz.ntmps195;go_upto_region 1 with fail
  generalize w.alloc _=W at *;go_upto_region 4 with fail
  go_loopw [0,4] (λm l wr=>∃(M:Nat) (L:List Int),m=.int .i64 M/\M<=1000000000000000000/\Hid (L++dg M=dg N)/\aq wr W l L/\Below W W wr) (λm _ _=>(intOf m).toNat)
  case atStart=>exact⟨N,[],by first|rfl|rw[b2],by omega,h_ rfl,aq.nil _ _,Uk _ _⟩
  case round=>
   obtain⟨M,L,rfl,hM,hD,Z,hb⟩:=hrel;have F:=Ui (ub hD.out) ac;have g:=hb.size;by_cases cQ:M=0
   .subst cQ;have hL:=by have:=hD.out;rwa [iB,Vr] at this
    have aZ:=kS.next hb
    go_wp2_with fail
    refine ((lV true) _ L o_ _ Z.rdL).mono ?_;rintro e w1 hP;have hW:=hP.whole (N:=n) (.inl (by simp [ae])) vC;obtain⟨v,rfl,a8,I⟩:=hW;obtain⟨lv,rfl,bb⟩:=id a8;rw[<-HN.out] at bb;have hs:decide (n<0)=true:=u_;rw[hs];obtain⟨sl,H,rfl,_⟩:=id bb.1;have ax:=aZ.next I
    have⟨c0,c1⟩:=ax.q2;have z0:=ax.frozen 0;have z1:=ax.frozen 1;have hS:w.heap.size<=w.heap.size:=Ug _;have k9:=(ax.set 0 true).set 1 (.slice sl (dg N).length H);have aL:=af (af I g hb) J.size J;have ad:Below w w ((w1.setCell w true).setCell ⟨w,1,none⟩ (.slice sl (dg N).length H)):=(aL.setCell hS _).setCell hS _;have az:=bb.set2 (S:=w.heap.size) aZ.lt true (.slice sl (dg N).length H);replace az:aW _ w _ _:=az.le (Uo aZ.lt);go_wp2;generalize (World.setCell (World.setCell _ _ _) _ _)=w9 at ad k9 az ⊢;have⟨q0,q1⟩:=k9.q2;exact Uh (v:=.agg #[true,.slice sl (dg N).length H]) I7 rfl uU
   .exact vY
 .have b2:n=(N:Int):=o_;have HN:=h_ hN;clear hN;go_enter Tryz.func195,Tryz.ntmps195;go_upto_region 1 with fail
  generalize w.alloc _=W at *;go_upto_region 4 with fail
  go_loopw [0,4] (λm l wr=>∃(M:Nat) (L:List Int),m=.int .i64 M/\M<=1000000000000000000/\Hid (L++dg M=dg N)/\aq wr W l L/\Below W W wr) (λm _ _=>(intOf m).toNat)
  case atStart=>exact⟨N,[],by first|rfl|rw[b2],by omega,h_ rfl,aq.nil _ _,Uk _ _⟩
  case round=>
   obtain⟨M,L,rfl,hM,hD,Z,hb⟩:=hrel;have F:=Ui (ub hD.out) ac;have g:=hb.size;by_cases cQ:M=0
   .subst cQ;have hL:=by have:=hD.out;rwa [iB,Vr] at this
    have aZ:=kS.next hb
    go_wp2_with fail
    refine ((lV false) _ L o_ _ Z.rdL).mono ?_;rintro e w1 hP;obtain⟨v,rfl,a8,I⟩:=hP.whole (N:=n) (.inl u_) vC;obtain⟨lv,rfl,bb⟩:=id a8;rw[<-HN.out] at bb;have hs:decide (n<0)=false:=u_;rw[hs];obtain⟨sl,H,rfl,_⟩:=id bb.1;have ax:=aZ.next I
    have⟨c0,c1⟩:=ax.q2;have z0:=ax.frozen 0;have z1:=ax.frozen 1;have hS:w.heap.size<=w.heap.size:=Ug _;have k9:=(ax.set 0 false).set 1 (.slice sl (dg N).length H);have aL:=af (af I g hb) J.size J;have ad:Below w w ((w1.setCell w false).setCell ⟨w,1,none⟩ (.slice sl (dg N).length H)):=(aL.setCell hS _).setCell hS _;have az:=bb.set2 (S:=w.heap.size) aZ.lt false (.slice sl (dg N).length H);replace az:aW _ w _ _:=az.le (Uo aZ.lt);clear hP a8 bb hL;go_wp2;generalize (World.setCell (World.setCell _ _ _) _ _)=w9 at ad k9 az ⊢;have⟨q0,q1⟩:=k9.q2;exact Uh (v:=.agg #[false,.slice sl (dg N).length H]) I7 rfl uU
   .exact vY
def mU(a b:Int)(w):Kp 172 #[a,b] w λe w'=>e=.returned (.int .i64 (if b<a then a else b))/\w'=w:=by
 exact Ip
def uj(n:Int)(hn:-1000000000000000000<=n/\n<=1000000000000000000)(w):Kp 113 #[n] w λe w'=>e=.returned n.natAbs/\w'=w:=by
 have HM:=h_ (mU n (-n) w);have he:(if -n<n then n else -n)=(n.natAbs:Int):=by split<;>omega
 rw[he] at HM;generalize (n.natAbs:Int)=m at HM ⊢;go_enter Tryz.func113,Tryz.ntmps113;go_wp2_with fail
 refine HM.out.mono ?_;rintro e w' ⟨rfl,rfl⟩;exact nh
def rf(n:Int)(hn:-1000000000000000000<=n/\n<=1000000000000000000)(w):
 Kp 290 #[n] w (dG n w):=by
 have⟨kS,J⟩:=aw w #[false,.slice none 0 0] 182;have HA:=h_ (uj n hn);obtain⟨N,hN⟩:∃N,N=n.natAbs:=⟨_,rfl⟩
 rw[<-hN] at HA;have ac:(dg N).length<=5:=ff o_;have V:N<=1000000000000000000:=o_;by_cases ae:n<0
 .have HN:=h_ hN;clear hN;go_enter Tryz.func290,Tryz.ntmps290;go_upto_region 1 with fail
  generalize w.alloc _=W at *;go_wp2_with fail
  refine ai (HA.out _) λw' G=>?_;rw[G];clear G;go_upto_region 3 with fail
  go_loopw [4,3] (λm l wr=>∃(M:Nat) (L:List Int),m=.int .i64 M/\M<=1000000000000000000/\Hid (L++dg M=dg N)/\aq wr W l L/\Below W W wr) (λm _ _=>(intOf m).toNat)
  case atStart=>exact⟨N,[],by first|rfl|rw[b2],by omega,h_ rfl,aq.nil _ _,Uk _ _⟩
  case round=>
   obtain⟨M,L,rfl,hM,hD,Z,hb⟩:=hrel;have F:=Ui (ub hD.out) ac;have g:=hb.size;by_cases cQ:M=0
   .subst cQ;have hL:=by have:=hD.out;rwa [iB,Vr] at this
    have aZ:=kS.next hb
    go_wp2_with fail
    refine ((mc true) _ L o_ _ Z.rdL).mono ?_;rintro e w1 hP;have hW:=hP.whole (N:=n) (.inl (by simp [ae])) vC;obtain⟨v,rfl,a8,I⟩:=hW;obtain⟨lv,rfl,bb⟩:=id a8;rw[<-HN.out] at bb;have hs:decide (n<0)=true:=u_;rw[hs];obtain⟨sl,H,rfl,_⟩:=id bb.1;have ax:=aZ.next I
    have⟨c0,c1⟩:=ax.q2;have z0:=ax.frozen 0;have z1:=ax.frozen 1;have hS:w.heap.size<=w.heap.size:=Ug _;have k9:=(ax.set 0 true).set 1 (.slice sl (dg N).length H);have aL:=af (af I g hb) J.size J;have ad:Below w w ((w1.setCell w true).setCell ⟨w,1,none⟩ (.slice sl (dg N).length H)):=(aL.setCell hS _).setCell hS _;have az:=bb.set2 (S:=w.heap.size) aZ.lt true (.slice sl (dg N).length H);replace az:aW _ w _ _:=az.le (Uo aZ.lt);clear hP a8 bb hL;go_wp2;generalize (World.setCell (World.setCell _ _ _) _ _)=w9 at ad k9 az ⊢;have⟨q0,q1⟩:=k9.q2;exact Uh (v:=.agg #[true,.slice sl (dg N).length H]) Jl rfl uU
   .exact vY
 .have HN:=h_ hN;clear hN;go_enter Tryz.func290,Tryz.ntmps290;go_upto_region 1 with fail
  generalize w.alloc _=W at *;go_wp2_with fail
  refine ai (HA.out _) λw' G=>?_;rw[G];clear G;go_upto_region 3 with fail
  go_loopw [4,3] (λm l wr=>∃(M:Nat) (L:List Int),m=.int .i64 M/\M<=1000000000000000000/\Hid (L++dg M=dg N)/\aq wr W l L/\Below W W wr) (λm _ _=>(intOf m).toNat)
  case atStart=>exact⟨N,[],by first|rfl|rw[b2],by omega,h_ rfl,aq.nil _ _,Uk _ _⟩
  case round=>
   obtain⟨M,L,rfl,hM,hD,Z,hb⟩:=hrel;have F:=Ui (ub hD.out) ac;have g:=hb.size;by_cases cQ:M=0
   .subst cQ;have hL:=by have:=hD.out;rwa [iB,Vr] at this
    have aZ:=kS.next hb
    go_wp2_with fail
    refine ((mc (decide (n<0))) _ L o_ _ Z.rdL).mono ?_;rintro e w1 hP;obtain⟨v,rfl,a8,I⟩:=hP.whole (N:=n) (.inl rfl) vC;obtain⟨lv,rfl,bb⟩:=id a8;rw[<-HN.out] at bb;have hs:decide (n<0)=false:=u_;rw[hs];obtain⟨sl,H,rfl,_⟩:=id bb.1;have ax:=aZ.next I
    have⟨c0,c1⟩:=ax.q2;have z0:=ax.frozen 0;have z1:=ax.frozen 1;have hS:w.heap.size<=w.heap.size:=Ug _;have k9:=(ax.set 0 false).set 1 (.slice sl (dg N).length H);have aL:=af (af I g hb) J.size J;have ad:Below w w ((w1.setCell w false).setCell ⟨w,1,none⟩ (.slice sl (dg N).length H)):=(aL.setCell hS _).setCell hS _;have az:=bb.set2 (S:=w.heap.size) aZ.lt false (.slice sl (dg N).length H);replace az:aW _ w _ _:=az.le (Uo aZ.lt);clear hP a8 bb hL;go_wp2;generalize (World.setCell (World.setCell _ _ _) _ _)=w9 at ad k9 az ⊢;have⟨q0,q1⟩:=k9.q2;exact Uh (v:=.agg #[false,.slice sl (dg N).length H]) Jl rfl uU
   .exact vY
def AG(h:P:=by
 go_wp2_with fail
 refine F.out.mono ?_;rintro e w1 ⟨rfl,G⟩;rw[G];clear G;go_wp2_with fail
 refine ac.out.mono ?_;rintro e w1 ⟨rfl,G⟩;rw[G];clear G;clear F ac;rcases (by omega:x+-y+c<0\/10000<=x+-y+c\/(0<=x+-y+c/\x+-y+c<=9999)) with hn|hn|hn
 .
   have g:=h_ (hC.out.step (d:=x+-y+c+10000) (c':=-1) ex.out V.out rfl o_ o_ o_);go_wp2_with (at_builtin;refine fN rfl _ _ rfl w.heap.size _ O rfl Z rfl eI hb.size ?_;intro v' w4 bo K bY)
   go_wp2;go_roundw
   case rel=>exact⟨i+1,O++[x+-y+c+10000],-1,by omega,by go_num,by go_num,g,bo,hb.trans K⟩
   case measure=>exact aO
 .
   have g:=h_ (hC.out.step (d:=x+-y+c - 10000) (c':=1) ex.out V.out rfl o_ o_ o_);go_wp2_with (at_builtin;refine fN rfl _ _ rfl w.heap.size _ O rfl Z rfl eI hb.size ?_;intro v' w4 bo K bY)
   go_wp2;go_roundw
   case rel=>exact⟨i+1,O++[x+-y+c - 10000],1,by omega,by go_num,by go_num,g,bo,hb.trans K⟩
   case measure=>exact aO
 .
   have g:=h_ (hC.out.step (d:=x+-y+c) (c':=0) ex.out V.out rfl o_ o_ o_);go_wp2_with (at_builtin;refine fN rfl _ _ rfl w.heap.size _ O rfl Z rfl eI hb.size ?_;intro v' w4 bo K bY)
   go_wp2;go_roundw
   case rel=>exact⟨i+1,O++[x+-y+c],0,by omega,by go_num,by go_num,g,bo,hb.trans K⟩
   case measure=>exact aO):=h
def Ay(h:P:=by
 go_wp2_with fail
 refine F.out.mono ?_;rintro e w1 ⟨rfl,G⟩;rw[G];clear G;go_wp2_with fail
 refine ac.out.mono ?_;rintro e w1 ⟨rfl,G⟩;rw[G];clear G;clear F ac;rcases (by omega:x+y+c<0\/10000<=x+y+c\/(0<=x+y+c/\x+y+c<=9999)) with hn|hn|hn
 .
   have g:=h_ (hC.out.step (d:=x+y+c+10000) (c':=-1) ex.out V.out rfl o_ o_ o_);go_wp2_with (at_builtin;refine fN rfl _ _ rfl w.heap.size _ O rfl Z rfl eI hb.size ?_;intro v' w4 bo K bY)
   go_wp2;go_roundw
   case rel=>exact⟨i+1,O++[x+y+c+10000],-1,by omega,by go_num,by go_num,g,bo,hb.trans K⟩
   case measure=>exact aO
 .
   have g:=h_ (hC.out.step (d:=x+y+c - 10000) (c':=1) ex.out V.out rfl o_ o_ o_);go_wp2_with (at_builtin;refine fN rfl _ _ rfl w.heap.size _ O rfl Z rfl eI hb.size ?_;intro v' w4 bo K bY)
   go_wp2;go_roundw
   case rel=>exact⟨i+1,O++[x+y+c - 10000],1,by omega,by go_num,by go_num,g,bo,hb.trans K⟩
   case measure=>exact aO
 .
   have g:=h_ (hC.out.step (d:=x+y+c) (c':=0) ex.out V.out rfl o_ o_ o_);go_wp2_with (at_builtin;refine fN rfl _ _ rfl w.heap.size _ O rfl Z rfl eI hb.size ?_;intro v' w4 bo K bY)
   go_wp2;go_roundw
   case rel=>exact⟨i+1,O++[x+y+c],0,by omega,by go_num,by go_num,g,bo,hb.trans K⟩
   case measure=>exact aO):=h
def GK(h:P:=by
 have b4:Hid (O.length<=m+1):=by show _<=_;have:=H.out;omega
 clear hi hC H;go_wp2;go_ret;exact⟨_,O,rfl,Z,hE.out.1,hE.out.2,b4.out,hb⟩):=h
def FX(h:P:=by
 refine⟨hC.out.dg,?_⟩;have:=hC.out.eq;rw[i_ la o_,i_ lb o_] at this;omega):=h
def Fg(h:P:=by
 go_enter Tryz.func326,Tryz.ntmps326;exact rV):=h
def nE(v:Value)(L:List Int)(i:Nat)(w:World)(h:bS w v L):Kp 326 #[v,i] w λe w'=>e=.returned (L[i]?.getD 0:Int)/\w'=w:=by
 obtain⟨a,F,rfl,_,hc⟩:=h;by_cases hi:i<L.length
 .obtain⟨g,o,rfl,q,_⟩:=hc i hi;generalize L[i]?.getD 0=x at q;clear hc;exact Fg
 .have e:L[i]?.getD 0=0:=by simp [hi]
  rw[e];clear hc e;exact Fg
def wL(s:Int)(hs:s=1\/s=-1)(a b:Value)(la lb:List Int)(aM:la.length<=100000)(U:lb.length<=100000)(I:Dg la)(bv:Dg lb)(hV:0<=vl la+s*vl lb)(w:World)(ha:bS w a la)(ax:bS w b lb):
 Kp 347 #[a,b,s] w (Le (vl la+s*vl lb) (max la.length lb.length+1) w):=by
 have HA:=h_ ha;have a2:=h_ ax;obtain⟨aa,ca,rfl,_,_⟩:=ha;obtain⟨ab,cb,rfl,_,_⟩:=ax;obtain⟨m,hm⟩:∃m,m=max la.length lb.length:=⟨_,rfl⟩
 rw[<-hm];have cc:la.length<=m:=o_;have cs:lb.length<=m:=o_;have aL:m<=100000:=o_;clear hm;have HV:=h_ hV;clear hV;rcases hs with rfl|rfl
 .
   go_enter Tryz.func347,Tryz.ntmps347;go_wp2;go_loopw [7,8,9] (λov cv iv wr=>∃(i:Nat) (O:List Int) (c:Int),i<=m+1/\cv=.int .i64 c/\iv=.int .i64 i/\Hid (Cb la lb (1) i O c)/\aq wr w.heap.size ov O/\Below w.heap.size w wr) (λ_ _ iv _=>m+1 - (intOf iv).toNat)
   case atStart=>exact⟨0,[],0,by omega,rfl,rfl,h_ (Cb.zero _ _ _),aq.nil _ _,Uk _ _⟩
   case round=>
    obtain⟨i,O,c,hi,rfl,rfl,hC,Z,hb⟩:=hrel;have H:=h_ hC.out.len;by_cases aG:¬(i<la.length)/\¬(i<lb.length)/\c=0
    .obtain⟨h1,h2,rfl⟩:=aG;have hE:Hid (Dg O/\vl O=vl la+(1)*vl lb):=by
      exact FX
     exact GK
    .have az:i<m+1:=by
      rcases Vn i (m+1) with h|h
      .exact h
      .exfalso;obtain⟨ad,_⟩:=hC.out.done I bv (.inl rfl) o_ o_ HV.out;exact aG ⟨by omega,by omega,ad⟩
     have aF:=I.adi i;have ae:=bv.adi i;have a4:=hC.out.lo;have b2:=hC.out.hi;have F:=h_ (nE _ la i _ (HA.out.below hb));have ac:=h_ (nE _ lb i _ (a2.out.below hb));generalize a7:la[i]?.getD 0=x at aF F;generalize J:lb[i]?.getD 0=y at ae ac;have ex:=h_ a7;have V:=h_ J;clear a7 J;rcases (by omega:i<la.length\/(¬i<la.length/\i<lb.length)\/(¬i<la.length/\¬i<lb.length/\c≠0)) with hq|hq|hq
     .exact Ay
     .exact Ay
     .exact Ay
 .
   go_enter Tryz.func347,Tryz.ntmps347;go_wp2;go_loopw [7,8,9] (λov cv iv wr=>∃(i:Nat) (O:List Int) (c:Int),i<=m+1/\cv=.int .i64 c/\iv=.int .i64 i/\Hid (Cb la lb (-1) i O c)/\aq wr w.heap.size ov O/\Below w.heap.size w wr) (λ_ _ iv _=>m+1 - (intOf iv).toNat)
   case atStart=>exact⟨0,[],0,by omega,rfl,rfl,h_ (Cb.zero _ _ _),aq.nil _ _,Uk _ _⟩
   case round=>
    obtain⟨i,O,c,hi,rfl,rfl,hC,Z,hb⟩:=hrel;have H:=h_ hC.out.len;by_cases aG:¬(i<la.length)/\¬(i<lb.length)/\c=0
    .obtain⟨h1,h2,rfl⟩:=aG;have hE:Hid (Dg O/\vl O=vl la+(-1)*vl lb):=by
      exact FX
     exact GK
    .have az:i<m+1:=by
      rcases Vn i (m+1) with h|h
      .exact h
      .exfalso;obtain⟨ad,_⟩:=hC.out.done I bv (.inr rfl) o_ o_ HV.out;exact aG ⟨by omega,by omega,ad⟩
     have aF:=I.adi i;have ae:=bv.adi i;have a4:=hC.out.lo;have b2:=hC.out.hi;have F:=h_ (nE _ la i _ (HA.out.below hb));have ac:=h_ (nE _ lb i _ (a2.out.below hb));generalize a7:la[i]?.getD 0=x at aF F;generalize J:lb[i]?.getD 0=y at ae ac;have ex:=h_ a7;have V:=h_ J;clear a7 J;rcases (by omega:i<la.length\/(¬i<la.length/\i<lb.length)\/(¬i<la.length/\¬i<lb.length/\c≠0)) with hq|hq|hq
     .exact AG
     .exact AG
     .exact AG
theorem yP:∀{S} {j} (_:j<S.length) (v),vl (S.set j v)=vl S+10000 ^ j*(v - S[j]?.getD 0)
 |[],_,h,_=>by simp at h
 |x::S,0,_,v=>by simp [vl];omega
 |x::S,j+1,h,v=>by
  simp only[U1,vl,UY];rw[(yP (S:=S) (j:=j) kj v),Vj,UN,Vm (10000 ^ j) 10000,Va];omega
def Dg.set{S}(h:Dg S)(j){v}(hv:0<=v/\v<=9999):Dg (S.set j v):=by
 intro y hy;rcases WR hy with hy|rfl
 .exact h y hy
 .exact hv
def tR{x y:Int}(hx:0<=x/\x<=9999)(hy:0<=y/\y<=9999):0<=x*y/\x*y<=99980001:=by
 refine⟨UJ hx.1 hy.1,?_⟩;have:=Ur hx.2 hy.2 hy.1 (by omega:(0:Int)<=9999);omega
def EG{a b}(ha:Dg a)(hb:Dg b){m k}(hm:a.length<=m)(hk:b.length<=k):vl a*vl b<10000 ^ (m+k):=by
 have h2:=pS hb hk;rw[Int.pow_add];have q1:vl a*vl b<=vl a*10000 ^ k:=UT o_ ha.nn;have q2:vl a*10000 ^ k<10000 ^ m*10000 ^ k:=Int.mul_lt_mul_of_pos_right (pS ha hm) (by have:=po k;omega);omega
structure Mi (a b:List Int)(n i k:Nat)(x:Int)(S:List Int)(c:Int):Prop where
 len:S.length=n
 dg:Dg S
 lo:0<=c
 hi:c<=9999
 eq:vl S+c*10000 ^ k=vl (a.take i)*vl b+10000 ^ i*(x*vl (b.take (k - i)))
def Mi.start{a b}{n i}{x}{S}(hl:S.length=n)(hd:Dg S)(he:vl S=vl (a.take i)*vl b):Mi a b n i i x S 0:=
 ⟨hl,hd,by omega,by omega,by rw[he,V7];simp [vl]⟩
def Mi.step{a b}{n i k}{x c s y}{S}(h:Mi a b n i k x S c)(hk:k<n)(cu:i<=k)(hx:0<=x/\x<=9999)(hb:Dg b)(hs:S[k]?.getD 0=s)(hy:b[k - i]?.getD 0=y):Mi a b n i (k+1) x (S.set k ((s+c+x*y) % 10000)) ((s+c+x*y) / 10000):=by
 have bp:=h.dg.adi k;have ae:=hb.adi (k - i);rw[hs] at bp;rw[hy] at ae;have hm:=tR hx ae;have H:=h.lo;have g:=h.hi;obtain⟨z,hz⟩:∃z,s+c+x*y=z:=⟨_,rfl⟩
 refine⟨by simp [h.len],h.dg.set k o_,by omega,by omega,?_⟩;have he:=h.eq;rw[yP (by rw[h.len];exact hk),hs,show k+1 - i=(k - i)+1 by omega,jd,hy,UN,hz];have F:(10000:Int) ^ k=10000 ^ i*10000 ^ (k - i):=by rw[<-Int.pow_add];congr 1;omega
 have q1:z / 10000*(10000 ^ k*10000)=10000 ^ k*(z / 10000*10000):=by rw[VZ]
 have q2:(10000:Int) ^ i*(x*(vl (b.take (k - i))+10000 ^ (k - i)*y))=10000 ^ i*(x*vl (b.take (k - i)))+10000 ^ k*(x*y):=by
  rw[F,Vj,Vj,VZ x,Va]
 rw[q1,q2,XS,<-Vj,show z % 10000 - s+z / 10000*10000=c+x*y by omega,Vj,Vm _ c];omega
def Mi.done{a b}{n i}{x c}{S}(h:Mi a b n i n x S c)(ha:Dg a)(hb:Dg b)(hx:a[i]?.getD 0=x)(hi:i<a.length)(hn:n=a.length+b.length+1):c=0/\vl S=vl (a.take (i+1))*vl b:=by
 have he:=h.eq;rw[i_ b o_] at he;have e1:vl (a.take (i+1))*vl b=vl (a.take i)*vl b+10000 ^ i*(x*vl b):=by
  rw[jd,hx,XG,Va]
 rw[<-e1] at he;have h1:=EG (ha.take (i+1)) hb (m:=a.length+1) (k:=b.length) nV (Ug _);rw[show a.length+1+b.length=n by omega] at h1;have h2:=h.dg.nn;have G:=po n;have hc:c=0:=by
  have H:=h.lo;rcases (by omega:0<c\/c<=0) with hc|hc
  .exfalso;have:=by
    have:=Vh (show (1:Int)<=c by omega) (show (0:Int)<=10000 ^ n by omega);rwa [Wf] at this
   omega
  .omega
 subst hc;rw[Ys,VG] at he;exact⟨rfl,he⟩
def Ao(h:P:=by
 go_wp2;go_ret;exact⟨by rw[he.out];rfl,rfl⟩):=h
def dn(x y:Int):Int:=if x<y then -1 else if y<x then 1 else 0
def gJ(a b:List Int)(i:Nat):Prop:=∀j,i<=j->a[j]?.getD 0=b[j]?.getD 0
def gJ.start{a b}{i}(ha:a.length<=i)(hb:b.length<=i):gJ a b i:=λj hj=>by
 have h1:a[j]?=none:=VS o_;have h2:b[j]?=none:=VS o_;rw[h1,h2]
def gJ.step{a b}{i}(h:gJ a b (i+1))(he:a[i]?.getD 0=b[i]?.getD 0):gJ a b i:=λj hj=>by
 rcases XN hj with rfl|hj
 .exact he
 .exact h j hj
def gJ.symm{a b}{i}(h:gJ a b i):gJ b a i:=λj hj=>(h j hj).symm
def NN{L}(h:Dg L)(i):vl (L.take i)<10000 ^ i:=pS (h.take i) (by rw[UH];omega)
def gJ.lt{a b}{i}(h:gJ a b (i+1))(ha:Dg a)(hb:Dg b)(hl:a[i]?.getD 0<b[i]?.getD 0):vl a<vl b:=by
 have key:∀n,vl (a.take (i+1+n))<vl (b.take (i+1+n)):=by
  intro n
  induction n with
  |zero=>
   rw[Nat.add_zero,jd,jd];have h1:=NN ha i;have h2:=(hb.take i).nn;have h3:=by
    have:=UT (c:=10000 ^ i) (show a[i]?.getD 0+1<=b[i]?.getD 0 by omega) (by have:=po i;omega);rw[Vj,Int.mul_one] at this;exact this
   omega
  |succ n g=>
   rw[<-Wb,jd,jd,h (i+1+n) o_];omega
 have:=key (a.length+b.length);rwa [i_ a o_,i_ b o_] at this
def gJ.eq{a b}(h:gJ a b 0):vl a=vl b:=by
 have key:∀n,vl (a.take n)=vl (b.take n):=by
  intro n
  induction n with
  |zero=>simp
  |succ n g=>rw[jd,jd,h n o_,g]
 have:=key (a.length+b.length);rwa [i_ a o_,i_ b o_] at this
def EA{a b}(ha:Dg a)(hb:Dg b)(U:jV b)(h:a.length<b.length):vl a<vl b:=by
 have h1:=pS ha (m:=b.length - 1) o_;have h2:=Et hb U (by intro e;subst e;simp at h);omega
def qo{x y}(h:x<y):dn x y=-1:=by unfold dn;rw[Um h]
def ql{x y}(h:y<x):dn x y=1:=by unfold dn;rw[Uj o_,Um h]
def BR{x y}(h:x=y):dn x y=0:=by unfold dn;rw[Uj o_,Uj o_]
def O7(a b)(la lb)(aM:la.length<=100000)(U:lb.length<=100000)(I:Dg la)(bv:Dg lb)(w)(ha:bS w a la)(hb:bS w b lb):
 Kp 348 #[a,b] w λe w'=>e=.returned (dn (vl la) (vl lb))/\w'=w:=by
 have HA:=h_ ha;have HB:=h_ hb;obtain⟨aa,ca,rfl,_,_⟩:=ha;obtain⟨ab,cb,rfl,_,_⟩:=hb;have HM:=h_ (mU la.length lb.length w);obtain⟨m,hm⟩:∃m:Nat,(if (lb.length:Int)<la.length then (la.length:Int) else lb.length)=m:=⟨max la.length lb.length,by split<;>omega⟩
 have cc:la.length<=m:=by split at hm<;>omega
 have cs:lb.length<=m:=by split at hm<;>omega
 have aL:m<=100000:=by split at hm<;>omega
 rw[hm] at HM;go_enter Tryz.func348,Tryz.ntmps348;go_wp2_with fail
 refine HM.out.mono ?_;rintro e w1 ⟨rfl,G⟩;rw[G];go_wp2;go_loopw [5] (λiv wr=>∃i:Nat,i<=m/\iv=.int .i64 ((i:Int) - 1)/\Hid (gJ la lb i)/\w=wr) (λiv _=>(intOf iv+1).toNat)
 case atStart=>exact⟨m,Ug _,rfl,h_ (gJ.start cc cs),rfl⟩
 case round=>
  obtain⟨i,hi,rfl,hE,rfl⟩:=hrel;cases i with
  |zero=>
   have he:=h_ (BR hE.out.eq);exact Ao
  |succ i=>
   have g:((i+1:Nat):Int) - 1=i:=o_;rw[g];have F:=h_ (nE _ la i _ HA.out);have ac:=h_ (nE _ lb i _ HB.out);rcases (by omega:la[i]?.getD 0<lb[i]?.getD 0\/lb[i]?.getD 0<la[i]?.getD 0\/la[i]?.getD 0=lb[i]?.getD 0) with hq|hq|hq
   .have he:=h_ (qo (hE.out.lt I bv hq));generalize la[i]?.getD 0=x,lb[i]?.getD 0=y at *;go_wp2_with fail
    refine F.out.mono ?_;rintro e w1 ⟨rfl,G⟩;rw[G];go_wp2_with fail
    refine ac.out.mono ?_;rintro e w1 ⟨rfl,G⟩;rw[G];exact Ao
   .have he:=h_ (ql (hE.out.symm.lt bv I hq));generalize la[i]?.getD 0=x,lb[i]?.getD 0=y at *;go_wp2_with fail
    refine F.out.mono ?_;rintro e w1 ⟨rfl,G⟩;rw[G];go_wp2_with fail
    refine ac.out.mono ?_;rintro e w1 ⟨rfl,G⟩;rw[G];have ad:¬x<y:=o_;exact Ao
   .have he:=h_ (hE.out.step hq);rw[<-hq] at ac;generalize la[i]?.getD 0=x at *;go_wp2_with fail
    refine F.out.mono ?_;rintro e w1 ⟨rfl,G⟩;rw[G];go_wp2_with fail
    refine ac.out.mono ?_;rintro e w1 ⟨rfl,G⟩;rw[G];go_wp2;go_roundw
    case rel=>exact⟨i,by omega,by go_num,he,trivial⟩
    case measure=>simp [intOf]
def Os(a b:Int)(w):Kp 100 #[a,b] w λe w'=>e=.returned (dn a b)/\w'=w:=by
 unfold dn;exact JW
end Go.Proofs.YtaamhakdhaolmaaGreatDoor
