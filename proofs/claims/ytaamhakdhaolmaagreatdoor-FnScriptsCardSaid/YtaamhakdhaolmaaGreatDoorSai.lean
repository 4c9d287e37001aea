/- Part 8. -/
import Derived.Deep.Cut
import Derived.Test.YtaamhakdhaolmaaGreatDoorSah
namespace Go.Proofs.YtaamhakdhaolmaaGreatDoor
open Go.RowKit Go.Proofs.Tryz
open World(setCell)
set_option maxHeartbeats 8000000
set_option maxRecDepth 100000
variable {P:Prop}
set_option linter.all false
def Ap(h:P:=by simp [results,results251,go_sem,q0,q1]):=h
def Ai(h:P:=by simp [results,results325,go_sem,q0,q1]):=h
def pV(h:P:=by rw[G];omega):=h
def F3(h:P:=by
 go_wp2;go_ret;exact⟨_,rfl,⟨⟨_,0,rfl,Vj _,λi hi=>by simp at hi⟩,λh=>absurd rfl h⟩,(Vn _ _).alloc (Vj _) _⟩):=h
def Ly(h:P:=by
 go_wp2_with fail
 refine (yx _ (L.take 0) pV _ aM).mono ?_;rintro e w1 ⟨lv,rfl,Z,I⟩;obtain⟨sl,H,rfl,_⟩:=id Z.1;have aZ:=kS.next I
 have⟨c0,c1⟩:=aZ.q2;have⟨z0,z1⟩:=aZ.f2;have k9:=(aZ.set 0 false).set 1 (.slice sl (L.take 0).length H);have aL:=ag I J.size J;have hS:w.heap.size<=w.heap.size:=Vj _;have ad:af w w ((w1.setCell ⟨w.heap.size,0,none⟩ false).setCell ⟨w.heap.size,1,none⟩ (.slice sl (L.take 0).length H)):=(aL.setCell hS _).setCell hS _;have az:=Z.set2 (S:=w.heap.size) kS.lt false (.slice sl (L.take 0).length H);replace az:aW _ w.heap.size _ _:=az.le (Vq kS.lt);rw[G] at k9 ad az ⊢;rw[<-hE] at az;have bq:(tr L).isEmpty=decide (0=0):=by rw[hE,nI G]
 clear hE Z;go_wp2;generalize (setCell (setCell _ _ _) _ _)=w9 at ad k9 az ⊢;have⟨q0,q1⟩:=k9.q2;refine Vk (v:=.agg #[false,.slice sl (0) H]) Ap rfl ?_;exact⟨_,by rw[bq];simp,az,ad⟩):=h
def KN(h:P:=by
 go_wp2_with fail
 refine (zp _ (L.take 0) pV _ aM).mono ?_;rintro e w1 ⟨lv,rfl,Z,I⟩;obtain⟨sl,H,rfl,_⟩:=id Z.1;have aZ:=kS.next I
 have⟨c0,c1⟩:=aZ.q2;have⟨z0,z1⟩:=aZ.f2;have k9:=(aZ.set 0 false).set 1 (.slice sl (L.take 0).length H);have aL:=ag I J.size J;have hS:w.heap.size<=w.heap.size:=Vj _;have ad:af w w ((w1.setCell ⟨w.heap.size,0,none⟩ false).setCell ⟨w.heap.size,1,none⟩ (.slice sl (L.take 0).length H)):=(aL.setCell hS _).setCell hS _;have az:=Z.set2 (S:=w.heap.size) kS.lt false (.slice sl (L.take 0).length H);replace az:aW _ w.heap.size _ _:=az.le (Vq kS.lt);rw[G] at k9 ad az ⊢;rw[<-hE] at az;have bq:(tr L).isEmpty=decide (0=0):=by rw[hE,nI G]
 clear hE Z;go_wp2;generalize (setCell (setCell _ _ _) _ _)=w9 at ad k9 az ⊢;have⟨q0,q1⟩:=k9.q2;refine Vk (v:=.agg #[false,.slice sl (0) H]) Ai rfl ?_;exact⟨_,by rw[bq];simp,az,ad⟩):=h
def Kn(h:P:=by
 go_enter func40,ntmps40;exact F3):=h
def AI(h:P:=by
 subst hn;obtain⟨a,F,h1,h2,_⟩:=h.1;exact⟨⟨a,F,h1,h2,λi hi=>by simp at hi⟩,λh=>absurd rfl h⟩):=h
def vt(h:P:=by
 exact⟨_,by rw[bq];simp,az,ad⟩):=h
def cd(w:World)(v:Value)(L:List Int):Prop:=∃(a:ck) (F:Nat),v=.slice a L.length F/\L.length<=F/\∀i,i<L.length->∃g o,a=some ⟨g,o,none⟩/\w.cell? ⟨g,o+i,none⟩=some (.int .i64 (L[i]?.getD 0))/\g<w.heap.size
def cd.rd{w}{v}{L}(h:cd w v L):qv w v L:=by
 have⟨a,F,h1,_,h2⟩:=h;exact⟨a,F,h1,h2⟩
def cd.below{w w1}{v}{L}(h:cd w v L)(hb:af w w w1):cd w1 v L:=by
 have⟨a,F,hv,hm,hc⟩:=h;refine⟨a,F,hv,hm,λi hi=>?_⟩;have⟨g,o,ha,h1,h2⟩:=hc i hi;exact⟨g,o,ha,(hb.cell (p:=⟨g,o+i,none⟩) h2).trans h1,Vp h2 hb.size⟩
def cd.take{w}{a}{F}{L}(h:cd w (.slice a L.length F) L){k}(hk:k<=L.length):cd w (.slice a k F) (L.take k):=by
 have⟨a',aX,hv,hm,hc⟩:=h;injection hv with h1 _ h3;subst h1 h3;have hl:(L.take k).length=k:=u_;refine⟨a,F,by rw[hl],o_,λi hi=>?_⟩;rw[hl] at hi;have⟨g,o,ha,q1,q2⟩:=hc i o_;exact⟨g,o,ha,by rw[q1,X8,Vo hi],q2⟩
def cd.below0{n}{w w1}{v}{L}(h:cd w v L)(hb:af n w w1)(hn:n=w.heap.size:=by rfl):cd w1 v L:=h.below (hn▸hb)
def ar.rdL{w}{G}{v}{L}(h:ar w G v L):cd w v L:=by
 have⟨a,F,hv,hc⟩:=h.form;refine⟨a,F,hv,?_,λi hi=>?_⟩
 .rcases h.2 with ⟨h0,hn⟩|⟨g,aX,cur,K,_,_,aL,_⟩
  .rw[hv] at h0;injection h0 with _ h1 h2;omega
  .rw[hv] at K;injection K with _ _ h3;omega
 .exact Ir
def aW(w:World)(G:Nat)(v:Value)(L:List Int):Prop:=cd w v L/\(L≠[]->ar w G v L)
def aW.le{w}{G base'}{v}{L}(h:aW w G v L)(hb:base'<=G):aW w base' v L:=⟨h.1,λhn=>(h.2 hn).le hb⟩
def aW.set2{w}{G S}{v}{L}(h:aW w G v L)(hS:S<G)(x y):aW ((w.setCell S x).setCell ⟨S,1,none⟩ y) G v L:=by
 by_cases hn:L=[]
 .exact AI
 .have Z:=h.2 hn;have h3:=ar.over Z (((ai.refl [S] w).setCell (p:=S) (.inr s_) x).setCell (p:=⟨S,1,none⟩) (.inr s_) y) (λg hg=>by have:=Z.lt g hg;simp;omega);exact⟨h3.rdL,λ_=>h3⟩
def nI{l:List Int}{k}(h:l.length=k):l.isEmpty=decide (k=0):=by
 subst h;cases l<;>simp
def Wh(G:Nat)(N:Int)(v:Value)(w:World):Prop:=∃lv,v=.agg #[decide (N<0),lv]/\aW w G lv (dg N.natAbs)
def Wh.closed(G)(N)(v):aQ (Wh G N v):=λ_ _ ⟨lv,h1,h2,h3⟩ hb=>⟨lv,h1,h2.below hb,λh=>(h3 h).below hb⟩
def Wh.le{G base'}{N}{v}{w}(h:Wh G N v w)(hb:base'<=G):Wh base' N v w:=by
 have⟨lv,h1,h2,h3⟩:=h;exact⟨lv,h1,h2,λhn=>(h3 hn).le hb⟩
def wM(neg:Bool)(L:List Int)(w:World)(e:Ending)(w':World):Prop:=∃lv,e=.returned (.agg #[.bool (neg&&!(tr L).isEmpty),lv])/\aW w' w lv (tr L)/\af w w w'
def yx(v)(L)(hL:L.length<=100000000)(w)(hr:cd w v L):
 Kp 302 #[v] w λe w'=>∃v',e=.returned v'/\aW w' w v' L/\af w w w':=by
 by_cases hx:L=[]
 .subst hx;obtain⟨a,F,rfl,_,_⟩:=hr;have J:∀(w:World) (a:ck) (n c H c':Nat),(binOp .eql 22 (.slice a n c) (.slice none H c')).run prog w=.ok (.bool a.isNone) w:=λw a n c H c'=>Lib.run_eql_slice_nil w _ _ a n c H c' underlying22;cases a with
  |none=>
   go_enter func302,ntmps302;go_wp2;go_ret;exact⟨_,rfl,⟨⟨none,0,rfl,Vj _,λi hi=>by simp at hi⟩,λh=>absurd rfl h⟩,Vn _ _⟩
  |some a=>
   go_enter func302,ntmps302;exact F3
 .exact (Rq v L hx hL w hr.rd).mono λe w' ⟨v',h1,h2,h3⟩=>⟨v',h1,⟨h2.rdL,λ_=>h2⟩,h3⟩
def mg(neg:Bool)(v)(L)(hL:L.length<=100000000)(w)(hr:cd w v L):
 Kp 251 #[neg,v] w (wM neg L w):=by
 have kS:=ah.new w #[false,.slice none 0 0] 182;have bz:=hr.below (w1:=w.alloc (.cells #[false,.slice none 0 0] 182)) ((Vn _ _).alloc (Vj _) _);have J:af w w (w.alloc (.cells #[false,.slice none 0 0] 182)):=(Vn _ _).alloc (Vj _) _;obtain⟨a,F,rfl,bo,hf⟩:=hr;have HR:=h_ bz;go_enter func251,ntmps251;go_upto_region 1 with fail
 generalize w.alloc _=W at *;go_loopw [1] (λl wr=>∃k:Nat,k<=L.length/\l=.slice a k F/\Hid (tr (L.take k)=tr L)/\wr=W) (λl _=>match l with|.slice _ n _=>n|_=>0)
 case atStart=>exact⟨L.length,Vj _,rfl,h_ (by rw[Wa]),rfl⟩
 case round=>
  obtain⟨k,hk,rfl,hT,rfl⟩:=hrel;have G:(L.take k).length=k:=u_;have aM:=HR.out.take hk;cases k with
  |zero=>
   have hE:tr L=L.take 0:=by rw[<-hT.out];rfl
   cases neg
   .exact Ly
   .exact Ly
  |succ k=>
   have aG:k<L.length:=o_;have⟨a',aX,hv,_,hc⟩:=HR.out;injection hv with e1 _ e3;subst e1 e3;obtain⟨g,o,rfl,p1,hg⟩:=hc k aG;have V:L[k]?.getD 0=L[k]:=by simp [aG]
   rw[V] at p1;have U:(0:Int)<=(k:Int):=o_;have K:(0:Int)<((k+1:Nat):Int):=o_;have i2:((k+1:Nat):Int) - 1=k:=o_;have i3:(k:Int)<=(F:Int):=o_;have i4:(k:Int)<((k+1:Nat):Int):=o_;have i5:(k:Int)<(k:Int)+1:=o_;have i6:(0:Int)<(k:Int)+1:=o_;by_cases hy:L[k]=0
   .have bi:Hid (tr (L.take k)=tr L):=by show _=_;rw[<-hT.out,ET aG hy]
    rw[hy] at p1;go_wp2;go_roundw
    case rel=>exact⟨k,o_,rfl,bi,by first|rfl|trivial⟩
    case measure=>simp
   .have hE:tr L=L.take (k+1):=by rw[<-hT.out,Em aG hy]
    generalize L[k]=y at *;cases neg
    .go_wp2_with fail
     refine (yx _ (L.take (k+1)) pV _ aM).mono ?_;rintro e w1 ⟨lv,rfl,Z,I⟩;obtain⟨sl,H,rfl,_⟩:=id Z.1;have aZ:=kS.next I
     have⟨c0,c1⟩:=aZ.q2;have⟨z0,z1⟩:=aZ.f2;have k9:=(aZ.set 0 false).set 1 (.slice sl (L.take (k+1)).length H);have aL:=ag I J.size J;have hS:w.heap.size<=w.heap.size:=Vj _;have ad:af w w ((w1.setCell w false).setCell ⟨w,1,none⟩ (.slice sl (L.take (k+1)).length H)):=(aL.setCell hS _).setCell hS _;have az:=Z.set2 (S:=w.heap.size) kS.lt false (.slice sl (L.take (k+1)).length H);replace az:aW _ w _ _:=az.le (Vq kS.lt);rw[G] at k9 ad az ⊢;rw[<-hE] at az;have bq:(tr L).isEmpty=decide ((k+1)=0):=by rw[hE,nI G]
     go_wp2;generalize (setCell (setCell _ _ _) _ _)=w9 at ad k9 az ⊢;have⟨q0,q1⟩:=k9.q2;exact Vk (v:=.agg #[false,.slice sl ((k+1)) H]) Ap rfl vt
    .go_wp2_with fail
     refine (yx _ (L.take (k+1)) pV _ aM).mono ?_;rintro e w1 ⟨lv,rfl,Z,I⟩;obtain⟨sl,H,rfl,_⟩:=id Z.1;have aZ:=kS.next I
     have⟨c0,c1⟩:=aZ.q2;have⟨z0,z1⟩:=aZ.f2;have k9:=(aZ.set 0 true).set 1 (.slice sl (L.take (k+1)).length H);have hS:w.heap.size<=w.heap.size:=Vj _;have ad:af w w ((w1.setCell w true).setCell ⟨w,1,none⟩ (.slice sl (L.take (k+1)).length H)):=((ag I J.size J).setCell hS _).setCell hS _;have az:=Z.set2 (S:=w.heap.size) kS.lt true (.slice sl (L.take (k+1)).length H);replace az:aW _ w _ _:=az.le (Vq kS.lt);rw[G] at k9 ad az ⊢;rw[<-hE] at az;have bq:(tr L).isEmpty=decide ((k+1)=0):=by rw[hE,nI G]
     go_wp2;generalize (setCell (setCell _ _ _) _ _)=w9 at ad k9 az ⊢;have⟨q0,q1⟩:=k9.q2;exact Vk (v:=.agg #[true,.slice sl ((k+1)) H]) Ap rfl vt
def zp(v)(L)(hL:L.length<=100000000)(w)(hr:cd w v L):
 Kp 40 #[v] w λe w'=>∃v',e=.returned v'/\aW w' w v' L/\af w w w':=by
 by_cases hx:L=[]
 .subst hx;obtain⟨a,F,rfl,_,_⟩:=hr;cases a with
  |none=>
   exact Kn
  |some a=>
   exact Kn
 .obtain⟨a,F,rfl,_,hc⟩:=hr;obtain⟨g,o,rfl,_,_⟩:=hc 0 (Wm.2 hx);have a2:∀i,i<L.length->w.cell? ⟨g,o+i,none⟩=some (.int .i64 (L[i]?.getD 0))/\g<w.heap.size:=by
   exact Jw
  go_enter func40,ntmps40;go_wp2_with (at_builtin;refine Bs rfl _ _ rfl L g o F rfl rfl (h_ a2).out o_ ?_;intro v' w1 G I)
  go_wp2;go_ret;exact⟨_,rfl,⟨G.rdL,λ_=>G⟩,I⟩
def mq(neg:Bool)(v)(L)(hL:L.length<=100000000)(w)(hr:cd w v L):
 Kp 325 #[neg,v] w (wM neg L w):=by
 have kS:=ah.new w #[false,.slice none 0 0] 182;have bz:=hr.below (w1:=w.alloc (.cells #[false,.slice none 0 0] 182)) ((Vn _ _).alloc (Vj _) _);have J:af w w (w.alloc (.cells #[false,.slice none 0 0] 182)):=(Vn _ _).alloc (Vj _) _;obtain⟨a,F,rfl,bo,hf⟩:=hr;have HR:=h_ bz;go_enter func325,ntmps325;go_upto_region 1 with fail
 generalize w.alloc _=W at *;go_wp2;go_loopw [5] (λn wr=>∃k:Nat,k<=L.length/\n=.int .i64 k/\Hid (tr (L.take k)=tr L)/\wr=W) (λn _=>(intOf n).toNat)
 case atStart=>exact⟨L.length,Vj _,rfl,h_ (by rw[Wa]),rfl⟩
 case round=>
  obtain⟨k,hk,rfl,hT,rfl⟩:=hrel;have G:(L.take k).length=k:=u_;have aM:=HR.out.take hk;have i9:(k:Int)<=(F:Int):=o_;have i8:(0:Int)<=(k:Int):=o_;cases k with
  |zero=>
   have hE:tr L=L.take 0:=by rw[<-hT.out];rfl
   cases neg
   .exact KN
   .exact KN
  |succ k=>
   have aG:k<L.length:=o_;have⟨a',aX,hv,_,hc⟩:=HR.out;injection hv with e1 _ e3;subst e1 e3;obtain⟨g,o,rfl,p1,hg⟩:=hc k aG;have V:L[k]?.getD 0=L[k]:=by simp [aG]
   rw[V] at p1;have U:(0:Int)<=(k:Int):=o_;have K:(0:Int)<((k+1:Nat):Int):=o_;have i2:((k+1:Nat):Int) - 1=k:=o_;have i3:(k:Int)<=(F:Int):=o_;have i4:(k:Int)<((k+1:Nat):Int):=o_;have i5:(k:Int)<(L.length:Int):=o_;have i6:(0:Int)<(k:Int)+1:=o_;have i7:(k:Int)+1<=(F:Int):=o_;have aa:(0:Int)<=(k:Int)+1:=o_;by_cases hy:L[k]=0
   .have bi:Hid (tr (L.take k)=tr L):=by show _=_;rw[<-hT.out,ET aG hy]
    rw[hy] at p1;go_wp2;go_roundw
    case rel=>exact⟨k,o_,rfl,bi,by first|rfl|trivial⟩
    case measure=>simp [intOf]
   .have hE:tr L=L.take (k+1):=by rw[<-hT.out,Em aG hy]
    generalize L[k]=y at *;cases neg
    .go_wp2_with fail
     refine (zp _ (L.take (k+1)) pV _ aM).mono ?_;rintro e w1 ⟨lv,rfl,Z,I⟩;obtain⟨sl,H,rfl,_⟩:=id Z.1;have aZ:=kS.next I
     have⟨c0,c1⟩:=aZ.q2;have⟨z0,z1⟩:=aZ.f2;have k9:=(aZ.set 0 false).set 1 (.slice sl (L.take (k+1)).length H);have aL:=ag I J.size J;have hS:w.heap.size<=w.heap.size:=Vj _;have ad:af w w ((w1.setCell w false).setCell ⟨w,1,none⟩ (.slice sl (L.take (k+1)).length H)):=(aL.setCell hS _).setCell hS _;have az:=Z.set2 (S:=w.heap.size) kS.lt false (.slice sl (L.take (k+1)).length H);replace az:aW _ w _ _:=az.le (Vq kS.lt);rw[G] at k9 ad az ⊢;rw[<-hE] at az;have bq:(tr L).isEmpty=decide ((k+1)=0):=by rw[hE,nI G]
     go_wp2;generalize (setCell (setCell _ _ _) _ _)=w9 at ad k9 az ⊢;have⟨q0,q1⟩:=k9.q2;exact Vk (v:=.agg #[false,.slice sl ((k+1)) H]) Ai rfl vt
    .go_wp2_with fail
     refine (zp _ (L.take (k+1)) pV _ aM).mono ?_;rintro e w1 ⟨lv,rfl,Z,I⟩;obtain⟨sl,H,rfl,_⟩:=id Z.1;have aZ:=kS.next I
     have⟨c0,c1⟩:=aZ.q2;have⟨z0,z1⟩:=aZ.f2;have k9:=(aZ.set 0 true).set 1 (.slice sl (L.take (k+1)).length H);have hS:w.heap.size<=w.heap.size:=Vj _;have ad:af w w ((w1.setCell w true).setCell ⟨w,1,none⟩ (.slice sl (L.take (k+1)).length H)):=((ag I J.size J).setCell hS _).setCell hS _;have az:=Z.set2 (S:=w.heap.size) kS.lt true (.slice sl (L.take (k+1)).length H);replace az:aW _ w _ _:=az.le (Vq kS.lt);rw[G] at k9 ad az ⊢;rw[<-hE] at az;have bq:(tr L).isEmpty=decide ((k+1)=0):=by rw[hE,nI G]
     go_wp2;generalize (setCell (setCell _ _ _) _ _)=w9 at ad k9 az ⊢;have⟨q0,q1⟩:=k9.q2;exact Vk (v:=.agg #[true,.slice sl ((k+1)) H]) Ai rfl vt
def bV{b:Nat}{N:Int}{v:Value}:aQ (Wh b N v):=Wh.closed _ _ _
def eS(h:P:=by have:=H.out;omega):=h
def Gj(h:P:=by rw[fS (by have:=H.out;omega)];exact aG):=h
def Iw(h:P:=by
 have V:lb[i]?.getD 0=0:=by simp [K]
 clear ae;rcases (by omega:c+x<0\/10000<=c+x\/(0<=c+x/\c+x<=9999)) with hn|hn|hn
 .
   first
    |(exfalso;omega)
    |have g:=h_ (hC.out.step (d:=c+x+10000) (c':=-1) ex V rfl o_ o_ o_)
     clear ex V HA ac;clear hi;go_wp2;go_roundw
     case rel=>exact⟨i+1,O++[c+x+10000],-1,o_,by go_num,by go_num,g,by rw[<-gc H.out o_];exact Z.setG (fS eS).symm i _,hb.setCell (Vj _) _⟩
     case measure=>exact aJ
 .
   first
    |(exfalso;omega)
    |have g:=h_ (hC.out.step (d:=c+x - 10000) (c':=1) ex V rfl o_ o_ o_)
     clear ex V HA ac;clear hi;go_wp2;go_roundw
     case rel=>exact⟨i+1,O++[c+x - 10000],1,o_,by go_num,by go_num,g,by rw[<-gc H.out o_];exact Z.setG (fS eS).symm i _,hb.setCell (Vj _) _⟩
     case measure=>exact aJ
 .
   first
    |(exfalso;omega)
    |have g:=h_ (hC.out.step (d:=c+x) (c':=0) ex V rfl o_ o_ o_)
     clear ex V HA ac;clear hi;go_wp2;go_roundw
     case rel=>exact⟨i+1,O++[c+x],0,o_,by go_num,by go_num,g,by rw[<-gc H.out o_];exact Z.setG (fS eS).symm i _,hb.setCell (Vj _) _⟩
     case measure=>exact aJ):=h
def Js(h:P:=by
 have V:lb[i]?.getD 0=0:=by simp [K]
 clear ae;rcases (by omega:c<0\/10000<=c\/(0<=c/\c<=9999)) with hn|hn|hn
 .
   first
    |(exfalso;omega)
    |have g:=h_ (hC.out.step (d:=c+10000) (c':=-1) ex V rfl o_ o_ o_)
     clear ex V HA ac;clear hi;go_wp2;go_roundw
     case rel=>exact⟨i+1,O++[c+10000],-1,o_,by go_num,by go_num,g,by rw[<-gc H.out o_];exact Z.setG (fS eS).symm i _,hb.setCell (Vj _) _⟩
     case measure=>exact aJ
 .
   first
    |(exfalso;omega)
    |have g:=h_ (hC.out.step (d:=c - 10000) (c':=1) ex V rfl o_ o_ o_)
     clear ex V HA ac;clear hi;go_wp2;go_roundw
     case rel=>exact⟨i+1,O++[c - 10000],1,o_,by go_num,by go_num,g,by rw[<-gc H.out o_];exact Z.setG (fS eS).symm i _,hb.setCell (Vj _) _⟩
     case measure=>exact aJ
 .
   first
    |(exfalso;omega)
    |have g:=h_ (hC.out.step (d:=c) (c':=0) ex V rfl o_ o_ o_)
     clear ex V HA ac;clear hi;go_wp2;go_roundw
     case rel=>exact⟨i+1,O++[c],0,o_,by go_num,by go_num,g,by rw[<-gc H.out o_];exact Z.setG (fS eS).symm i _,hb.setCell (Vj _) _⟩
     case measure=>exact aJ):=h
def F1(h:P:=by
 have G:=hC.out.dg;rw[To H.out] at Z;have HE:=h_ (And.intro G F);clear F G;go_wp2;go_ret;exact⟨_,O,rfl,Z.le (by rw[HB.out];exact Vj _),HE.out.1,HE.out.2,by have:=H.out;omega,HB.out▸hb⟩):=h
def L7(h:P:=by
 have aF:=U.adi i;have ae:=bp.adi i;have a2:=hC.out.lo;have bv:=hC.out.hi;have s1:=Z.cell (i:=i) Gj;have f1:=Z.frozen i;by_cases aZ:i<la.length
 .obtain⟨ga,oa,rfl,q1,b3⟩:=HA.out i aZ;have d1:=(hb.cell (p:=⟨ga,oa+i,none⟩) (HB.out▸b3)).trans q1;generalize ex:la[i]?.getD 0=x at d1 aF;clear q1;by_cases K:i<lb.length
  .obtain⟨gb,ob,rfl,q2,cc⟩:=ac.out i K;have d2:=(hb.cell (p:=⟨gb,ob+i,none⟩) (HB.out▸cc)).trans q2;generalize V:lb[i]?.getD 0=y at d2 ae;clear q2;rcases (by omega:c+x+-y<0\/10000<=c+x+-y\/(0<=c+x+-y/\c+x+-y<=9999)) with hn|hn|hn
   .
     first
      |(exfalso;omega)
      |have g:=h_ (hC.out.step (d:=c+x+-y+10000) (c':=-1) ex V rfl o_ o_ o_)
       clear ex V HA ac;clear hi;go_wp2;go_roundw
       case rel=>exact⟨i+1,O++[c+x+-y+10000],-1,o_,by go_num,by go_num,g,by rw[<-gc H.out o_];exact Z.setG (fS eS).symm i _,hb.setCell (Vj _) _⟩
       case measure=>exact aJ
   .
     first
      |(exfalso;omega)
      |have g:=h_ (hC.out.step (d:=c+x+-y - 10000) (c':=1) ex V rfl o_ o_ o_)
       clear ex V HA ac;clear hi;go_wp2;go_roundw
       case rel=>exact⟨i+1,O++[c+x+-y - 10000],1,o_,by go_num,by go_num,g,by rw[<-gc H.out o_];exact Z.setG (fS eS).symm i _,hb.setCell (Vj _) _⟩
       case measure=>exact aJ
   .
     first
      |(exfalso;omega)
      |have g:=h_ (hC.out.step (d:=c+x+-y) (c':=0) ex V rfl o_ o_ o_)
       clear ex V HA ac;clear hi;go_wp2;go_roundw
       case rel=>exact⟨i+1,O++[c+x+-y],0,o_,by go_num,by go_num,g,by rw[<-gc H.out o_];exact Z.setG (fS eS).symm i _,hb.setCell (Vj _) _⟩
       case measure=>exact aJ
  .exact Iw
 .have ex:la[i]?.getD 0=0:=by simp [aZ]
  clear aF;by_cases K:i<lb.length
  .obtain⟨gb,ob,rfl,q2,cc⟩:=ac.out i K;have d2:=(hb.cell (p:=⟨gb,ob+i,none⟩) (HB.out▸cc)).trans q2;generalize V:lb[i]?.getD 0=y at d2 ae;clear q2;rcases (by omega:c+-y<0\/10000<=c+-y\/(0<=c+-y/\c+-y<=9999)) with hn|hn|hn
   .
     first
      |(exfalso;omega)
      |have g:=h_ (hC.out.step (d:=c+-y+10000) (c':=-1) ex V rfl o_ o_ o_)
       clear ex V HA ac;clear hi;go_wp2;go_roundw
       case rel=>exact⟨i+1,O++[c+-y+10000],-1,o_,by go_num,by go_num,g,by rw[<-gc H.out o_];exact Z.setG (fS eS).symm i _,hb.setCell (Vj _) _⟩
       case measure=>exact aJ
   .
     first
      |(exfalso;omega)
      |have g:=h_ (hC.out.step (d:=c+-y - 10000) (c':=1) ex V rfl o_ o_ o_)
       clear ex V HA ac;clear hi;go_wp2;go_roundw
       case rel=>exact⟨i+1,O++[c+-y - 10000],1,o_,by go_num,by go_num,g,by rw[<-gc H.out o_];exact Z.setG (fS eS).symm i _,hb.setCell (Vj _) _⟩
       case measure=>exact aJ
   .
     first
      |(exfalso;omega)
      |have g:=h_ (hC.out.step (d:=c+-y) (c':=0) ex V rfl o_ o_ o_)
       clear ex V HA ac;clear hi;go_wp2;go_roundw
       case rel=>exact⟨i+1,O++[c+-y],0,o_,by go_num,by go_num,g,by rw[<-gc H.out o_];exact Z.setG (fS eS).symm i _,hb.setCell (Vj _) _⟩
       case measure=>exact aJ
  .exact Js):=h
def Ml(h:P:=by
 have aF:=U.adi i;have ae:=bp.adi i;have a2:=hC.out.lo;have bv:=hC.out.hi;have s1:=Z.cell (i:=i) Gj;have f1:=Z.frozen i;by_cases aZ:i<la.length
 .obtain⟨ga,oa,rfl,q1,b3⟩:=HA.out i aZ;have d1:=(hb.cell (p:=⟨ga,oa+i,none⟩) (HB.out▸b3)).trans q1;generalize ex:la[i]?.getD 0=x at d1 aF;clear q1;by_cases K:i<lb.length
  .obtain⟨gb,ob,rfl,q2,cc⟩:=ac.out i K;have d2:=(hb.cell (p:=⟨gb,ob+i,none⟩) (HB.out▸cc)).trans q2;generalize V:lb[i]?.getD 0=y at d2 ae;clear q2;rcases (by omega:c+x+y<0\/10000<=c+x+y\/(0<=c+x+y/\c+x+y<=9999)) with hn|hn|hn
   .
     first
      |(exfalso;omega)
      |have g:=h_ (hC.out.step (d:=c+x+y+10000) (c':=-1) ex V rfl o_ o_ o_)
       clear ex V HA ac;clear hi;go_wp2;go_roundw
       case rel=>exact⟨i+1,O++[c+x+y+10000],-1,o_,by go_num,by go_num,g,by rw[<-gc H.out o_];exact Z.setG (fS eS).symm i _,hb.setCell (Vj _) _⟩
       case measure=>exact aJ
   .
     first
      |(exfalso;omega)
      |have g:=h_ (hC.out.step (d:=c+x+y - 10000) (c':=1) ex V rfl o_ o_ o_)
       clear ex V HA ac;clear hi;go_wp2;go_roundw
       case rel=>exact⟨i+1,O++[c+x+y - 10000],1,o_,by go_num,by go_num,g,by rw[<-gc H.out o_];exact Z.setG (fS eS).symm i _,hb.setCell (Vj _) _⟩
       case measure=>exact aJ
   .
     first
      |(exfalso;omega)
      |have g:=h_ (hC.out.step (d:=c+x+y) (c':=0) ex V rfl o_ o_ o_)
       clear ex V HA ac;clear hi;go_wp2;go_roundw
       case rel=>exact⟨i+1,O++[c+x+y],0,o_,by go_num,by go_num,g,by rw[<-gc H.out o_];exact Z.setG (fS eS).symm i _,hb.setCell (Vj _) _⟩
       case measure=>exact aJ
  .exact Iw
 .have ex:la[i]?.getD 0=0:=by simp [aZ]
  clear aF;by_cases K:i<lb.length
  .obtain⟨gb,ob,rfl,q2,cc⟩:=ac.out i K;have d2:=(hb.cell (p:=⟨gb,ob+i,none⟩) (HB.out▸cc)).trans q2;generalize V:lb[i]?.getD 0=y at d2 ae;clear q2;rcases (by omega:c+y<0\/10000<=c+y\/(0<=c+y/\c+y<=9999)) with hn|hn|hn
   .
     first
      |(exfalso;omega)
      |have g:=h_ (hC.out.step (d:=c+y+10000) (c':=-1) ex V rfl o_ o_ o_)
       clear ex V HA ac;clear hi;go_wp2;go_roundw
       case rel=>exact⟨i+1,O++[c+y+10000],-1,o_,by go_num,by go_num,g,by rw[<-gc H.out o_];exact Z.setG (fS eS).symm i _,hb.setCell (Vj _) _⟩
       case measure=>exact aJ
   .
     first
      |(exfalso;omega)
      |have g:=h_ (hC.out.step (d:=c+y - 10000) (c':=1) ex V rfl o_ o_ o_)
       clear ex V HA ac;clear hi;go_wp2;go_roundw
       case rel=>exact⟨i+1,O++[c+y - 10000],1,o_,by go_num,by go_num,g,by rw[<-gc H.out o_];exact Z.setG (fS eS).symm i _,hb.setCell (Vj _) _⟩
       case measure=>exact aJ
   .
     first
      |(exfalso;omega)
      |have g:=h_ (hC.out.step (d:=c+y) (c':=0) ex V rfl o_ o_ o_)
       clear ex V HA ac;clear hi;go_wp2;go_roundw
       case rel=>exact⟨i+1,O++[c+y],0,o_,by go_num,by go_num,g,by rw[<-gc H.out o_];exact Z.setG (fS eS).symm i _,hb.setCell (Vj _) _⟩
       case measure=>exact aJ
  .exact Js):=h
def Jc(h:P:=by
 obtain⟨_,F⟩:=hC.out.done U bp (.inl rfl) o_ o_ HV.out;exact F1):=h
def GA(h:P:=by
 obtain⟨_,F⟩:=hC.out.done U bp (.inr rfl) o_ o_ HV.out;exact F1):=h
def jq(L:List Int)(i:Nat):vl (L.take (i+1))=vl (L.take i)+10000 ^ i*(L[i]?.getD 0):=by
 by_cases h:i<L.length
 .rw[NI h];simp [h]
 .rw[VO o_,VO o_];simp [h]
def Dg.adi{L:List Int}(h:Dg L)(i:Nat):0<=L[i]?.getD 0/\L[i]?.getD 0<=9999:=by
 by_cases hi:i<L.length
 .have e:L[i]?.getD 0=L[i]:=by simp [hi]
  rw[e];exact h _ (VC hi)
 .simp [hi]
def Dg.snoc{L:List Int}(h:Dg L){x:Int}(hx:0<=x/\x<=9999):Dg (L++[x]):=by
 intro y hy;rcases Wy.1 hy with hy|hy
 .exact h y hy
 .rw[VE] at hy;subst hy;exact hx
def Es(L:List Int)(x:Int):vl (L++[x])=vl L+10000 ^ L.length*x:=by
 rw[tL];simp [vl]
structure Cb (a b:List Int)(s:Int)(i:Nat)(O:List Int)(c:Int):Prop where
 len:O.length=i
 dg:Dg O
 lo:-1<=c
 hi:c<=1
 eq:vl O+c*10000 ^ i=vl (a.take i)+s*vl (b.take i)
def Cb.zero(a b:List Int)(s:Int):Cb a b s 0 [] 0:=⟨rfl,λx hx=>by simp at hx,o_,o_,by simp [vl]⟩
def Cb.step{a b:List Int}{s c x y n d c':Int}{i:Nat}{O:List Int}(h:Cb a b s i O c)(hx:a[i]?.getD 0=x)(hy:b[i]?.getD 0=y)(hn:n=c+x+s*y)(hd:n=d+c'*10000)(h0:0<=d/\d<=9999)(hl:-1<=c'/\c'<=1):Cb a b s (i+1) (O++[d]) c':=by
 refine⟨by simp [h.len],h.dg.snoc h0,hl.1,hl.2,?_⟩;have he:=h.eq;rw[Es,h.len,jq,jq,hx,hy];have e1:d=c+x+s*y - c'*10000:=o_;rw[e1,VR];generalize (10000:Int) ^ i=P at *;have q1:P*(c+x+s*y - c'*10000)=c*P+P*x+s*(P*y) - c'*(P*10000):=by
  rw[Int.mul_sub,Wn,Wn,Xj P s y,Xj P c' 10000,Wu P c]
 rw[q1,Wn];generalize c'*(P*10000)=u1;generalize s*(P*y)=u2;generalize P*x=u3;generalize c*P=u4 at *;generalize s*vl (List.take i b)=u5 at *;omega
def jm(L:List Int){i:Nat}(h:L.length<=i):vl (L.take i)=vl L:=by rw[VO h]
theorem pJ:∀k:Nat,(1:Int)<=10000 ^ k
 |0=>by rw[Yd];omega
 |k+1=>by have:=pJ k;rw[VR];omega
theorem EK(k:Nat):∀j:Nat,(10000:Int) ^ k<=10000 ^ (k+j)
 |0=>Int.le_refl _
 |j+1=>by have:=EK k j;have:=pJ (k+j);rw[<-Xw,VR];omega
def qm{L:List Int}(h:Dg L){m:Nat}(hm:L.length<=m):vl L<10000 ^ m:=Int.lt_of_lt_of_le h.lt (by
 have:=EK L.length (m - L.length);rwa [show L.length+(m - L.length)=m by omega] at this)
def Cb.done{a b:List Int}{s c:Int}{i:Nat}{O:List Int}(h:Cb a b s i O c)(ha:Dg a)(hb:Dg b)(hs:s=1\/s=-1)(ax:a.length+1<=i)(aX:b.length+1<=i)(hV:0<=vl a+s*vl b):c=0/\vl O=vl a+s*vl b:=by
 have he:=h.eq;rw[jm a o_,jm b o_] at he;have h1:vl a<10000 ^ (i - 1):=qm ha o_;have h2:vl b<10000 ^ (i - 1):=qm hb o_;have h3:=ha.nn;have h4:=hb.nn;have h5:=h.dg.nn;have h6:=h.dg.lt;rw[h.len] at h6;have e:(10000:Int) ^ i=10000 ^ (i - 1)*10000:=by
  obtain⟨k,rfl⟩:∃k,i=k+1:=⟨i - 1,o_⟩
  rw[YS,VR]
 rw[e] at he h6;generalize (10000:Int) ^ (i - 1)=P at *;have hc:c=0:=by
  have:=h.lo;have:=h.hi;have:c=-1\/c=0\/c=1:=o_
  rcases hs with rfl|rfl<;>rcases this with rfl|rfl|rfl<;>first|rfl|(exfalso;omega)
 subst hc;exact⟨rfl,o_⟩
def ar.setG{w:World}{G g n F:Nat}{M:List Int}(h:ar w G (.slice (some ⟨g,0,none⟩) n F) M)(hn:n=M.length)(k:Nat)(x:Int):ar (w.setCell ⟨g,k,none⟩ x) G (.slice (some ⟨g,0,none⟩) n F) (M.set k x):=by
 subst hn;unfold ar at h ⊢;rw[List.length_set,List.map_set];exact pl h rfl _ _
def OP(n:Nat):(madeCells (Value.int .i64 0).cells (n*1)).toList=(List.replicate n (0:Int)).map (Value.int .i64):=by
 rw[Nat.mul_one];show (madeCells #[Value.int .i64 0] n).toList=_;rw[toList_madeCells_one,List.map_replicate]
def rm(w:World)(N:Nat)(hN:N<=1000000):∃wm,(Instr.makeSlice 22 (.int .i64 (N:Int)) (.int .i64 (N:Int))).run prog w=.ok (.slice (some ⟨w.heap.size,0,none⟩) N N) wm/\ar wm w.heap.size (.slice (some ⟨w.heap.size,0,none⟩) N N) (List.replicate N 0)/\af w w wm:=by
 obtain⟨U,hi,bi,ac,ba⟩:=WL Tryz.infoI;obtain⟨wm,b2,V,hg⟩:=run_make_full (P:=prog) w w.heap.size 22 3 U (.int .i64 0) 1 underlying22 hi bi ac .i64 .i64 N (by rw[ba];omega) pN (Vj _);rw[OP] at V;refine⟨wm,b2,?_,⟨hg.os,hg.tape,hg.output,hg.size,λk hk=>hg.block k hk s_⟩⟩;unfold ar;rw[Zs];exact V
def fz(O:List Int)(m:Nat):List Int:=O++List.replicate (m - O.length) 0
def fS{O:List Int}{m:Nat}(h:O.length<=m):(fz O m).length=m:=by simp [fz];omega
def gc{O:List Int}{m i:Nat}(hi:O.length=i)(h:i<m)(x:Int):(fz O m).set i x=fz (O++[x]) m:=by
 unfold fz;obtain⟨k,hk⟩:∃k,m - i=k+1:=⟨m - i - 1,o_⟩
 rw[hi,hk,YE,Zh,Vm o_,hi,XB,Wj,VX,VI,hi,XM,show m - (i+1)=k by omega];rfl
def To{O:List Int}{m:Nat}(h:O.length=m):fz O m=O:=by simp [fz,h]
def L6(V:Int)(n:Nat)(w:World)(e:Ending)(w':World):Prop:=∃v O,e=.returned v/\ar w' w.heap.size v O/\Dg O/\vl O=V/\O.length<=n/\af w w w'
def xu(s:Int)(hs:s=1\/s=-1)(a b:Value)(la lb:List Int)(ax:la.length<=100000)(aX:lb.length<=100000)(U:Dg la)(bp:Dg lb)(hV:0<=vl la+s*vl lb)(w:World)(ha:cd w a la)(I:cd w b lb):
 Kp 252 #[a,b,s] w (L6 (vl la+s*vl lb) (max la.length lb.length+1) w):=by
 obtain⟨aa,ca,rfl,_,b9⟩:=ha;obtain⟨ab,cb,rfl,_,aM⟩:=I;obtain⟨m,hm⟩:∃m,m=max la.length lb.length:=⟨_,rfl⟩
 obtain⟨wm,b2,bs,J⟩:=rm w (m+1) o_;have HA:=h_ b9;have ac:=h_ aM;simp only[Int.natCast_add,Int.cast_ofNat_Int] at b2;clear b9 aM;have ez:List.replicate (m+1) (0:Int)=fz [] (m+1):=by simp [fz]
 rw[ez] at bs;rw[<-hm];generalize aL:w.heap.size=B at b2 bs J;have HB:=h_ aL;clear aL;have HV:=h_ hV;clear hV;rcases Wv la.length lb.length with hx|hx
 .have b7:(la.length:Int)<lb.length:=o_;have az:¬(lb.length:Int)<=la.length:=o_;obtain rfl:m=lb.length:=o_
  clear hm;rcases hs with rfl|rfl
  .
    go_enter func252,ntmps252;go_wp2;go_loopw [8,20] (λcv iv wr=>∃(i:Nat) (O:List Int) (c:Int),i<=lb.length+1/\cv=.int .i64 c/\iv=.int .i64 i/\Hid (Cb la lb (1) i O c)/\ar wr B (.slice (some ⟨B,0,none⟩) (lb.length+1) (lb.length+1)) (fz O (lb.length+1))/\af B w wr) (λ_ iv _=>lb.length+1 - (intOf iv).toNat)
    case atStart=>exact⟨0,[],0,o_,rfl,rfl,h_ (Cb.zero _ _ _),bs,J⟩
    case round=>
     clear bs J;obtain⟨i,O,c,hi,rfl,rfl,hC,Z,hb⟩:=hrel;have H:=h_ hC.out.len;by_cases aG:i<lb.length+1
     .exact Ml
     .obtain rfl:i=lb.length+1:=o_
      exact Jc
  .
    go_enter func252,ntmps252;go_wp2;go_loopw [8,20] (λcv iv wr=>∃(i:Nat) (O:List Int) (c:Int),i<=lb.length+1/\cv=.int .i64 c/\iv=.int .i64 i/\Hid (Cb la lb (-1) i O c)/\ar wr B (.slice (some ⟨B,0,none⟩) (lb.length+1) (lb.length+1)) (fz O (lb.length+1))/\af B w wr) (λ_ iv _=>lb.length+1 - (intOf iv).toNat)
    case atStart=>exact⟨0,[],0,o_,rfl,rfl,h_ (Cb.zero _ _ _),bs,J⟩
    case round=>
     clear bs J;obtain⟨i,O,c,hi,rfl,rfl,hC,Z,hb⟩:=hrel;have H:=h_ hC.out.len;by_cases aG:i<lb.length+1
     .exact L7
     .obtain rfl:i=lb.length+1:=o_
      exact GA
 .have b7:¬(la.length:Int)<lb.length:=o_;have az:(lb.length:Int)<=la.length:=o_;obtain rfl:m=la.length:=o_
  clear hm;rcases hs with rfl|rfl
  .
    go_enter func252,ntmps252;go_wp2;go_loopw [8,20] (λcv iv wr=>∃(i:Nat) (O:List Int) (c:Int),i<=la.length+1/\cv=.int .i64 c/\iv=.int .i64 i/\Hid (Cb la lb (1) i O c)/\ar wr B (.slice (some ⟨B,0,none⟩) (la.length+1) (la.length+1)) (fz O (la.length+1))/\af B w wr) (λ_ iv _=>la.length+1 - (intOf iv).toNat)
    case atStart=>exact⟨0,[],0,o_,rfl,rfl,h_ (Cb.zero _ _ _),bs,J⟩
    case round=>
     clear bs J;obtain⟨i,O,c,hi,rfl,rfl,hC,Z,hb⟩:=hrel;have H:=h_ hC.out.len;by_cases aG:i<la.length+1
     .exact Ml
     .obtain rfl:i=la.length+1:=o_
      exact Jc
  .
    go_enter func252,ntmps252;go_wp2;go_loopw [8,20] (λcv iv wr=>∃(i:Nat) (O:List Int) (c:Int),i<=la.length+1/\cv=.int .i64 c/\iv=.int .i64 i/\Hid (Cb la lb (-1) i O c)/\ar wr B (.slice (some ⟨B,0,none⟩) (la.length+1) (la.length+1)) (fz O (la.length+1))/\af B w wr) (λ_ iv _=>la.length+1 - (intOf iv).toNat)
    case atStart=>exact⟨0,[],0,o_,rfl,rfl,h_ (Cb.zero _ _ _),bs,J⟩
    case round=>
     clear bs J;obtain⟨i,O,c,hi,rfl,rfl,hC,Z,hb⟩:=hrel;have H:=h_ hC.out.len;by_cases aG:i<la.length+1
     .exact L7
     .obtain rfl:i=la.length+1:=o_
      exact GA
def wb(h:P:=by rw[hL,rE,HN.out]):=h
def JL(h:P:=by simp [results,results195,go_sem,q0,q1]):=h
def J5(h:P:=by simp [results,results290,go_sem,q0,q1]):=h
def wE(h:P:=by
 have U:=h_ (S8 hD.out cT);have aG:(0:Int)<(M:Int):=o_;have cA:(0:Int)<=(M:Int):=o_;clear hD;go_wp2_with (at_builtin;refine fY rfl _ _ rfl W.heap.size _ L rfl Z rfl o_ g ?_;intro v' w4 bb K b0)
 go_wp2;go_roundw
 case rel=>exact⟨M / 10000,_,by go_num,o_,U,bb,hb.trans K⟩
 case measure=>exact aJ):=h
def vB(h:P:=by
 exact⟨_,rfl,⟨_,by rw[hs],by rw[<-HN.out];exact az⟩,ad⟩):=h
def dP(N:Int)(w:World)(e:Ending)(w':World):Prop:=∃v,e=.returned v/\Wh w N v w'/\af w w w'
def rE{n}:tr (dg n)=dg n:=by
 have h:=ke n;rw[sC h.1,h.2.2];rfl
def SH{N:Int}{L}(h:tr L=dg N.natAbs):(decide (N<0)&&!(tr L).isEmpty)=decide (N<0):=by
 rw[h];by_cases hN:N<0
 .have:dg N.natAbs≠[]:=λh=>by have:=uH.1 h;omega
  rw[nI rfl];simp [hN,this]
 .simp [hN]
def wM.whole{neg}{N}{L}(hs:neg=decide (N<0)\/N=0)(hL:tr L=dg N.natAbs){w}{e}{w'}(h:wM neg L w e w'):dP N w e w':=by
 have⟨lv,h1,h2,h3⟩:=h;refine⟨_,h1,⟨lv,?_,by rw[<-hL];exact h2⟩,h3⟩;rcases hs with rfl|rfl
 .rw[SH hL]
 .rw[hL];simp [iN]
def S8{M N}{L}(h:L++dg M=dg N)(hM:M≠0):(L++[((M:Int)) % 10000])++dg (M / 10000)=dg N:=by
 rw[<-h,uT hM,VX];rfl
def uz{M N}{L}(h:L++dg M=dg N):L.length<=(dg N).length:=by rw[<-h];simp
def fF(n:Int)(hn:-1000000000000000000<=n/\n<=1000000000000000000)(w):
 Kp 195 #[n] w (dP n w):=by
 have⟨kS,J⟩:=ay w #[false,.slice none 0 0] 182;obtain⟨N,hN⟩:∃N,N=n.natAbs:=⟨_,rfl⟩
 have ae:(dg N).length<=5:=ft o_;have V:N<=1000000000000000000:=o_;by_cases aX:n<0
 .have bv:-n=(N:Int):=o_;have HN:=h_ hN;clear hN;have cm:¬(-n<n):=o_;go_enter func195,ntmps195;go_upto_region 1 with fail
  generalize w.alloc _=W at *;go_upto_region 4 with fail
  go_loopw [0,4] (λm l wr=>∃(M:Nat) (L:List Int),m=.int .i64 M/\M<=1000000000000000000/\Hid (L++dg M=dg N)/\ar wr W l L/\af W W wr) (λm _ _=>(intOf m).toNat)
  case atStart=>exact⟨N,[],by first|rfl|rw[bv],o_,h_ rfl,ar.nil _ _,Vn _ _⟩
  case round=>
   obtain⟨M,L,rfl,hM,hD,Z,hb⟩:=hrel;have F:=Vl (uz hD.out) ae;have g:=hb.size;by_cases cT:M=0
   .subst cT;have hL:=by have:=hD.out;rwa [iN,V5] at this
    have aZ:=kS.next hb
    go_wp2_with fail
    refine ((mg true) _ L o_ _ Z.rdL).mono ?_;rintro e w1 hP;have hW:=hP.whole (N:=n) (.inl (by simp [aX])) wb;obtain⟨v,rfl,ba,I⟩:=hW;obtain⟨lv,rfl,bs⟩:=id ba;rw[<-HN.out] at bs;have hs:decide (n<0)=true:=u_;rw[hs];obtain⟨sl,H,rfl,_⟩:=id bs.1;have a4:=aZ.next I
    have⟨c0,c1⟩:=a4.q2;have⟨z0,z1⟩:=a4.f2;have hS:w.heap.size<=w.heap.size:=Vj _;have k9:=(a4.set 0 true).set 1 (.slice sl (dg N).length H);have aL:=ag (ag I g hb) J.size J;have ad:af w w ((w1.setCell w true).setCell ⟨w,1,none⟩ (.slice sl (dg N).length H)):=(aL.setCell hS _).setCell hS _;have az:=bs.set2 (S:=w.heap.size) aZ.lt true (.slice sl (dg N).length H);replace az:aW _ w _ _:=az.le (Vq aZ.lt);go_wp2;generalize (setCell (setCell _ _ _) _ _)=w9 at ad k9 az ⊢;have⟨q0,q1⟩:=k9.q2;exact Vk (v:=.agg #[true,.slice sl (dg N).length H]) JL rfl vB
   .exact wE
 .have bv:n=(N:Int):=o_;have HN:=h_ hN;clear hN;go_enter func195,ntmps195;go_upto_region 1 with fail
  generalize w.alloc _=W at *;go_upto_region 4 with fail
  go_loopw [0,4] (λm l wr=>∃(M:Nat) (L:List Int),m=.int .i64 M/\M<=1000000000000000000/\Hid (L++dg M=dg N)/\ar wr W l L/\af W W wr) (λm _ _=>(intOf m).toNat)
  case atStart=>exact⟨N,[],by first|rfl|rw[bv],o_,h_ rfl,ar.nil _ _,Vn _ _⟩
  case round=>
   obtain⟨M,L,rfl,hM,hD,Z,hb⟩:=hrel;have F:=Vl (uz hD.out) ae;have g:=hb.size;by_cases cT:M=0
   .subst cT;have hL:=by have:=hD.out;rwa [iN,V5] at this
    have aZ:=kS.next hb
    go_wp2_with fail
    refine ((mg false) _ L o_ _ Z.rdL).mono ?_;rintro e w1 hP;obtain⟨v,rfl,ba,I⟩:=hP.whole (N:=n) (.inl u_) wb;obtain⟨lv,rfl,bs⟩:=id ba;rw[<-HN.out] at bs;have hs:decide (n<0)=false:=u_;rw[hs];obtain⟨sl,H,rfl,_⟩:=id bs.1;have a4:=aZ.next I
    have⟨c0,c1⟩:=a4.q2;have⟨z0,z1⟩:=a4.f2;have hS:w.heap.size<=w.heap.size:=Vj _;have k9:=(a4.set 0 false).set 1 (.slice sl (dg N).length H);have aL:=ag (ag I g hb) J.size J;have ad:af w w ((w1.setCell w false).setCell ⟨w,1,none⟩ (.slice sl (dg N).length H)):=(aL.setCell hS _).setCell hS _;have az:=bs.set2 (S:=w.heap.size) aZ.lt false (.slice sl (dg N).length H);replace az:aW _ w _ _:=az.le (Vq aZ.lt);clear hP ba bs hL;go_wp2;generalize (setCell (setCell _ _ _) _ _)=w9 at ad k9 az ⊢;have⟨q0,q1⟩:=k9.q2;exact Vk (v:=.agg #[false,.slice sl (dg N).length H]) JL rfl vB
   .exact wE
def ng(a b:Int)(w):Kp 172 #[a,b] w λe w'=>e=.returned (.int .i64 (if b<a then a else b))/\w'=w:=by
 exact I6
def uI(n:Int)(hn:-1000000000000000000<=n/\n<=1000000000000000000)(w):Kp 113 #[n] w λe w'=>e=.returned n.natAbs/\w'=w:=by
 have HM:=h_ (ng n (-n) w);have he:(if -n<n then n else -n)=(n.natAbs:Int):=by split<;>omega
 rw[he] at HM;generalize (n.natAbs:Int)=m at HM ⊢;go_enter func113,ntmps113;go_wp2_with fail
 refine HM.out.mono ?_;rintro e w' ⟨rfl,rfl⟩;exact qe
def rL(n:Int)(hn:-1000000000000000000<=n/\n<=1000000000000000000)(w):
 Kp 290 #[n] w (dP n w):=by
 have⟨kS,J⟩:=ay w #[false,.slice none 0 0] 182;have HA:=h_ (uI n hn);obtain⟨N,hN⟩:∃N,N=n.natAbs:=⟨_,rfl⟩
 rw[<-hN] at HA;have ae:(dg N).length<=5:=ft o_;have V:N<=1000000000000000000:=o_;by_cases aX:n<0
 .have HN:=h_ hN;clear hN;go_enter func290,ntmps290;go_upto_region 1 with fail
  generalize w.alloc _=W at *;go_wp2_with fail
  refine aj (HA.out _) λw' G=>?_;rw[G];clear G;go_upto_region 3 with fail
  go_loopw [4,3] (λm l wr=>∃(M:Nat) (L:List Int),m=.int .i64 M/\M<=1000000000000000000/\Hid (L++dg M=dg N)/\ar wr W l L/\af W W wr) (λm _ _=>(intOf m).toNat)
  case atStart=>exact⟨N,[],by first|rfl|rw[bv],o_,h_ rfl,ar.nil _ _,Vn _ _⟩
  case round=>
   obtain⟨M,L,rfl,hM,hD,Z,hb⟩:=hrel;have F:=Vl (uz hD.out) ae;have g:=hb.size;by_cases cT:M=0
   .subst cT;have hL:=by have:=hD.out;rwa [iN,V5] at this
    have aZ:=kS.next hb
    go_wp2_with fail
    refine ((mq true) _ L o_ _ Z.rdL).mono ?_;rintro e w1 hP;have hW:=hP.whole (N:=n) (.inl (by simp [aX])) wb;obtain⟨v,rfl,ba,I⟩:=hW;obtain⟨lv,rfl,bs⟩:=id ba;rw[<-HN.out] at bs;have hs:decide (n<0)=true:=u_;rw[hs];obtain⟨sl,H,rfl,_⟩:=id bs.1;have a4:=aZ.next I
    have⟨c0,c1⟩:=a4.q2;have⟨z0,z1⟩:=a4.f2;have hS:w.heap.size<=w.heap.size:=Vj _;have k9:=(a4.set 0 true).set 1 (.slice sl (dg N).length H);have aL:=ag (ag I g hb) J.size J;have ad:af w w ((w1.setCell w true).setCell ⟨w,1,none⟩ (.slice sl (dg N).length H)):=(aL.setCell hS _).setCell hS _;have az:=bs.set2 (S:=w.heap.size) aZ.lt true (.slice sl (dg N).length H);replace az:aW _ w _ _:=az.le (Vq aZ.lt);clear hP ba bs hL;go_wp2;generalize (setCell (setCell _ _ _) _ _)=w9 at ad k9 az ⊢;have⟨q0,q1⟩:=k9.q2;exact Vk (v:=.agg #[true,.slice sl (dg N).length H]) J5 rfl vB
   .exact wE
 .have HN:=h_ hN;clear hN;go_enter func290,ntmps290;go_upto_region 1 with fail
  generalize w.alloc _=W at *;go_wp2_with fail
  refine aj (HA.out _) λw' G=>?_;rw[G];clear G;go_upto_region 3 with fail
  go_loopw [4,3] (λm l wr=>∃(M:Nat) (L:List Int),m=.int .i64 M/\M<=1000000000000000000/\Hid (L++dg M=dg N)/\ar wr W l L/\af W W wr) (λm _ _=>(intOf m).toNat)
  case atStart=>exact⟨N,[],by first|rfl|rw[bv],o_,h_ rfl,ar.nil _ _,Vn _ _⟩
  case round=>
   obtain⟨M,L,rfl,hM,hD,Z,hb⟩:=hrel;have F:=Vl (uz hD.out) ae;have g:=hb.size;by_cases cT:M=0
   .subst cT;have hL:=by have:=hD.out;rwa [iN,V5] at this
    have aZ:=kS.next hb
    go_wp2_with fail
    refine ((mq (decide (n<0))) _ L o_ _ Z.rdL).mono ?_;rintro e w1 hP;obtain⟨v,rfl,ba,I⟩:=hP.whole (N:=n) (.inl rfl) wb;obtain⟨lv,rfl,bs⟩:=id ba;rw[<-HN.out] at bs;have hs:decide (n<0)=false:=u_;rw[hs];obtain⟨sl,H,rfl,_⟩:=id bs.1;have a4:=aZ.next I
    have⟨c0,c1⟩:=a4.q2;have⟨z0,z1⟩:=a4.f2;have hS:w.heap.size<=w.heap.size:=Vj _;have k9:=(a4.set 0 false).set 1 (.slice sl (dg N).length H);have aL:=ag (ag I g hb) J.size J;have ad:af w w ((w1.setCell w false).setCell ⟨w,1,none⟩ (.slice sl (dg N).length H)):=(aL.setCell hS _).setCell hS _;have az:=bs.set2 (S:=w.heap.size) aZ.lt false (.slice sl (dg N).length H);replace az:aW _ w _ _:=az.le (Vq aZ.lt);clear hP ba bs hL;go_wp2;generalize (setCell (setCell _ _ _) _ _)=w9 at ad k9 az ⊢;have⟨q0,q1⟩:=k9.q2;exact Vk (v:=.agg #[false,.slice sl (dg N).length H]) J5 rfl vB
   .exact wE
def Ba(h:P:=by
 go_wp2_with fail
 refine F.out.mono ?_;rintro e w1 ⟨rfl,G⟩;rw[G];clear G;go_wp2_with fail
 refine az.out.mono ?_;rintro e w1 ⟨rfl,G⟩;rw[G];clear G;clear F az;rcases (by omega:x+-y+c<0\/10000<=x+-y+c\/(0<=x+-y+c/\x+-y+c<=9999)) with hn|hn|hn
 .
   have g:=h_ (hC.out.step (d:=x+-y+c+10000) (c':=-1) ex.out V.out rfl o_ o_ o_);go_wp2_with (at_builtin;refine fY rfl _ _ rfl w.heap.size _ O rfl Z rfl eS hb.size ?_;intro v' w4 bb K b0)
   go_wp2;go_roundw
   case rel=>exact⟨i+1,O++[x+-y+c+10000],-1,o_,by go_num,by go_num,g,bb,hb.trans K⟩
   case measure=>exact aJ
 .
   have g:=h_ (hC.out.step (d:=x+-y+c - 10000) (c':=1) ex.out V.out rfl o_ o_ o_);go_wp2_with (at_builtin;refine fY rfl _ _ rfl w.heap.size _ O rfl Z rfl eS hb.size ?_;intro v' w4 bb K b0)
   go_wp2;go_roundw
   case rel=>exact⟨i+1,O++[x+-y+c - 10000],1,o_,by go_num,by go_num,g,bb,hb.trans K⟩
   case measure=>exact aJ
 .
   have g:=h_ (hC.out.step (d:=x+-y+c) (c':=0) ex.out V.out rfl o_ o_ o_);go_wp2_with (at_builtin;refine fY rfl _ _ rfl w.heap.size _ O rfl Z rfl eS hb.size ?_;intro v' w4 bb K b0)
   go_wp2;go_roundw
   case rel=>exact⟨i+1,O++[x+-y+c],0,o_,by go_num,by go_num,g,bb,hb.trans K⟩
   case measure=>exact aJ):=h
def A3(h:P:=by
 go_wp2_with fail
 refine F.out.mono ?_;rintro e w1 ⟨rfl,G⟩;rw[G];clear G;go_wp2_with fail
 refine az.out.mono ?_;rintro e w1 ⟨rfl,G⟩;rw[G];clear G;clear F az;rcases (by omega:x+y+c<0\/10000<=x+y+c\/(0<=x+y+c/\x+y+c<=9999)) with hn|hn|hn
 .
   have g:=h_ (hC.out.step (d:=x+y+c+10000) (c':=-1) ex.out V.out rfl o_ o_ o_);go_wp2_with (at_builtin;refine fY rfl _ _ rfl w.heap.size _ O rfl Z rfl eS hb.size ?_;intro v' w4 bb K b0)
   go_wp2;go_roundw
   case rel=>exact⟨i+1,O++[x+y+c+10000],-1,o_,by go_num,by go_num,g,bb,hb.trans K⟩
   case measure=>exact aJ
 .
   have g:=h_ (hC.out.step (d:=x+y+c - 10000) (c':=1) ex.out V.out rfl o_ o_ o_);go_wp2_with (at_builtin;refine fY rfl _ _ rfl w.heap.size _ O rfl Z rfl eS hb.size ?_;intro v' w4 bb K b0)
   go_wp2;go_roundw
   case rel=>exact⟨i+1,O++[x+y+c - 10000],1,o_,by go_num,by go_num,g,bb,hb.trans K⟩
   case measure=>exact aJ
 .
   have g:=h_ (hC.out.step (d:=x+y+c) (c':=0) ex.out V.out rfl o_ o_ o_);go_wp2_with (at_builtin;refine fY rfl _ _ rfl w.heap.size _ O rfl Z rfl eS hb.size ?_;intro v' w4 bb K b0)
   go_wp2;go_roundw
   case rel=>exact⟨i+1,O++[x+y+c],0,o_,by go_num,by go_num,g,bb,hb.trans K⟩
   case measure=>exact aJ):=h
def Ht(h:P:=by
 have bz:Hid (O.length<=m+1):=by show _<=_;have:=H.out;omega
 clear hi hC H;go_wp2;go_ret;exact⟨_,O,rfl,Z,hE.out.1,hE.out.2,bz.out,hb⟩):=h
def GD(h:P:=by
 refine⟨hC.out.dg,?_⟩;have:=hC.out.eq;rw[jm la o_,jm lb o_] at this;omega):=h
def FZ(h:P:=by
 go_enter func326,ntmps326;exact sJ):=h
def nS(v:Value)(L:List Int)(i:Nat)(w:World)(h:cd w v L):Kp 326 #[v,i] w λe w'=>e=.returned (L[i]?.getD 0:Int)/\w'=w:=by
 obtain⟨a,F,rfl,_,hc⟩:=h;by_cases hi:i<L.length
 .obtain⟨g,o,rfl,q,_⟩:=hc i hi;generalize L[i]?.getD 0=x at q;clear hc;exact FZ
 .have e:L[i]?.getD 0=0:=by simp [hi]
  rw[e];clear hc e;exact FZ
def xn(s:Int)(hs:s=1\/s=-1)(a b:Value)(la lb:List Int)(ax:la.length<=100000)(aX:lb.length<=100000)(U:Dg la)(bp:Dg lb)(hV:0<=vl la+s*vl lb)(w:World)(ha:cd w a la)(I:cd w b lb):
 Kp 347 #[a,b,s] w (L6 (vl la+s*vl lb) (max la.length lb.length+1) w):=by
 have HA:=h_ ha;have ac:=h_ I;obtain⟨aa,ca,rfl,_,_⟩:=ha;obtain⟨ab,cb,rfl,_,_⟩:=I;obtain⟨m,hm⟩:∃m,m=max la.length lb.length:=⟨_,rfl⟩
 rw[<-hm];have cy:la.length<=m:=o_;have cm:lb.length<=m:=o_;have aM:m<=100000:=o_;clear hm;have HV:=h_ hV;clear hV;rcases hs with rfl|rfl
 .
   go_enter func347,ntmps347;go_wp2;go_loopw [7,8,9] (λov cv iv wr=>∃(i:Nat) (O:List Int) (c:Int),i<=m+1/\cv=.int .i64 c/\iv=.int .i64 i/\Hid (Cb la lb (1) i O c)/\ar wr w.heap.size ov O/\af w w wr) (λ_ _ iv _=>m+1 - (intOf iv).toNat)
   case atStart=>exact⟨0,[],0,o_,rfl,rfl,h_ (Cb.zero _ _ _),ar.nil _ _,Vn _ _⟩
   case round=>
    obtain⟨i,O,c,hi,rfl,rfl,hC,Z,hb⟩:=hrel;have H:=h_ hC.out.len;by_cases aG:¬(i<la.length)/\¬(i<lb.length)/\c=0
    .obtain⟨h1,h2,rfl⟩:=aG;have hE:Hid (Dg O/\vl O=vl la+(1)*vl lb):=by
      exact GD
     exact Ht
    .have aL:i<m+1:=by
      rcases Wv i (m+1) with h|h
      .exact h
      .exfalso;obtain⟨ad,_⟩:=hC.out.done U bp (.inl rfl) o_ o_ HV.out;exact aG ⟨o_,o_,ad⟩
     have aF:=U.adi i;have ae:=bp.adi i;have a2:=hC.out.lo;have bv:=hC.out.hi;have F:=h_ (nS _ la i _ (HA.out.below hb));have az:=h_ (nS _ lb i _ (ac.out.below hb));generalize a7:la[i]?.getD 0=x at aF F;generalize J:lb[i]?.getD 0=y at ae az;have ex:=h_ a7;have V:=h_ J;clear a7 J;rcases (by omega:i<la.length\/(¬i<la.length/\i<lb.length)\/(¬i<la.length/\¬i<lb.length/\c≠0)) with hq|hq|hq
     .exact A3
     .exact A3
     .exact A3
 .
   go_enter func347,ntmps347;go_wp2;go_loopw [7,8,9] (λov cv iv wr=>∃(i:Nat) (O:List Int) (c:Int),i<=m+1/\cv=.int .i64 c/\iv=.int .i64 i/\Hid (Cb la lb (-1) i O c)/\ar wr w.heap.size ov O/\af w w wr) (λ_ _ iv _=>m+1 - (intOf iv).toNat)
   case atStart=>exact⟨0,[],0,o_,rfl,rfl,h_ (Cb.zero _ _ _),ar.nil _ _,Vn _ _⟩
   case round=>
    obtain⟨i,O,c,hi,rfl,rfl,hC,Z,hb⟩:=hrel;have H:=h_ hC.out.len;by_cases aG:¬(i<la.length)/\¬(i<lb.length)/\c=0
    .obtain⟨h1,h2,rfl⟩:=aG;have hE:Hid (Dg O/\vl O=vl la+(-1)*vl lb):=by
      exact GD
     exact Ht
    .have aL:i<m+1:=by
      rcases Wv i (m+1) with h|h
      .exact h
      .exfalso;obtain⟨ad,_⟩:=hC.out.done U bp (.inr rfl) o_ o_ HV.out;exact aG ⟨o_,o_,ad⟩
     have aF:=U.adi i;have ae:=bp.adi i;have a2:=hC.out.lo;have bv:=hC.out.hi;have F:=h_ (nS _ la i _ (HA.out.below hb));have az:=h_ (nS _ lb i _ (ac.out.below hb));generalize a7:la[i]?.getD 0=x at aF F;generalize J:lb[i]?.getD 0=y at ae az;have ex:=h_ a7;have V:=h_ J;clear a7 J;rcases (by omega:i<la.length\/(¬i<la.length/\i<lb.length)\/(¬i<la.length/\¬i<lb.length/\c≠0)) with hq|hq|hq
     .exact Ba
     .exact Ba
     .exact Ba
theorem zt:∀{S} {j} (_:j<S.length) (v),vl (S.set j v)=vl S+10000 ^ j*(v - S[j]?.getD 0)
 |[],_,h,_=>by simp at h
 |x::S,0,_,v=>by simp [vl];omega
 |x::S,j+1,h,v=>by
  simp only[Wx,vl,VZ];rw[(zt (S:=S) (j:=j) kH v),Wn,VR,Wu (10000 ^ j) 10000,Wd];omega
def Dg.set{S}(h:Dg S)(j){v}(hv:0<=v/\v<=9999):Dg (S.set j v):=by
 intro y hy;rcases XZ hy with hy|rfl
 .exact h y hy
 .exact hv
def up{x y:Int}(hx:0<=x/\x<=9999)(hy:0<=y/\y<=9999):0<=x*y/\x*y<=99980001:=by
 refine⟨VP hx.1 hy.1,?_⟩;have:=Vs hx.2 hy.2 hy.1 (by omega:(0:Int)<=9999);omega
def Fr{a b}(ha:Dg a)(hb:Dg b){m k}(hm:a.length<=m)(hk:b.length<=k):vl a*vl b<10000 ^ (m+k):=by
 have h2:=qm hb hk;rw[Int.pow_add];have q1:vl a*vl b<=vl a*10000 ^ k:=VW o_ ha.nn;have q2:vl a*10000 ^ k<10000 ^ m*10000 ^ k:=Int.mul_lt_mul_of_pos_right (qm ha hm) (by have:=pJ k;omega);omega
structure Mi (a b:List Int)(n i k:Nat)(x:Int)(S:List Int)(c:Int):Prop where
 len:S.length=n
 dg:Dg S
 lo:0<=c
 hi:c<=9999
 eq:vl S+c*10000 ^ k=vl (a.take i)*vl b+10000 ^ i*(x*vl (b.take (k - i)))
def Mi.start{a b}{n i}{x}{S}(hl:S.length=n)(hd:Dg S)(he:vl S=vl (a.take i)*vl b):Mi a b n i i x S 0:=
 ⟨hl,hd,o_,o_,by rw[he,XB];simp [vl]⟩
def Mi.step{a b}{n i k}{x c s y}{S}(h:Mi a b n i k x S c)(hk:k<n)(cm:i<=k)(hx:0<=x/\x<=9999)(hb:Dg b)(hs:S[k]?.getD 0=s)(hy:b[k - i]?.getD 0=y):Mi a b n i (k+1) x (S.set k ((s+c+x*y) % 10000)) ((s+c+x*y) / 10000):=by
 have a8:=h.dg.adi k;have ae:=hb.adi (k - i);rw[hs] at a8;rw[hy] at ae;have hm:=up hx ae;have H:=h.lo;have g:=h.hi;obtain⟨z,hz⟩:∃z,s+c+x*y=z:=⟨_,rfl⟩
 refine⟨by simp [h.len],h.dg.set k o_,o_,o_,?_⟩;have he:=h.eq;rw[zt (by rw[h.len];exact hk),hs,show k+1 - i=(k - i)+1 by omega,jq,hy,VR,hz];have F:(10000:Int) ^ k=10000 ^ i*10000 ^ (k - i):=by rw[<-Int.pow_add];congr 1;omega
 have q1:z / 10000*(10000 ^ k*10000)=10000 ^ k*(z / 10000*10000):=by rw[Xj]
 have q2:(10000:Int) ^ i*(x*(vl (b.take (k - i))+10000 ^ (k - i)*y))=10000 ^ i*(x*vl (b.take (k - i)))+10000 ^ k*(x*y):=by
  rw[F,Wn,Wn,Xj x,Wd]
 rw[q1,q2,YU,<-Wn,show z % 10000 - s+z / 10000*10000=c+x*y by omega,Wn,Wu _ c];omega
def Mi.done{a b}{n i}{x c}{S}(h:Mi a b n i n x S c)(ha:Dg a)(hb:Dg b)(hx:a[i]?.getD 0=x)(hi:i<a.length)(hn:n=a.length+b.length+1):c=0/\vl S=vl (a.take (i+1))*vl b:=by
 have he:=h.eq;rw[jm b o_] at he;have e1:vl (a.take (i+1))*vl b=vl (a.take i)*vl b+10000 ^ i*(x*vl b):=by
  rw[jq,hx,YJ,Wd]
 rw[<-e1] at he;have h1:=Fr (ha.take (i+1)) hb (m:=a.length+1) (k:=b.length) ot (Vj _);rw[show a.length+1+b.length=n by omega] at h1;have h2:=h.dg.nn;have G:=pJ n;have hc:c=0:=by
  have H:=h.lo;rcases (by omega:0<c\/c<=0) with hc|hc
  .exfalso;have:=by
    have:=Wl (show (1:Int)<=c by omega) (show (0:Int)<=10000 ^ n by omega);rwa [XA] at this
   omega
  .omega
 subst hc;rw[Zy,WM] at he;exact⟨rfl,he⟩
def AR(h:P:=by
 go_wp2;go_ret;exact⟨by rw[he.out];rfl,rfl⟩):=h
def dD(x y:Int):Int:=if x<y then -1 else if y<x then 1 else 0
def gX(a b:List Int)(i:Nat):Prop:=∀j,i<=j->a[j]?.getD 0=b[j]?.getD 0
def gX.start{a b}{i}(ha:a.length<=i)(hb:b.length<=i):gX a b i:=λj hj=>by
 have h1:a[j]?=none:=Xa o_;have h2:b[j]?=none:=Xa o_;rw[h1,h2]
def gX.step{a b}{i}(h:gX a b (i+1))(he:a[i]?.getD 0=b[i]?.getD 0):gX a b i:=λj hj=>by
 rcases YP hj with rfl|hj
 .exact he
 .exact h j hj
def gX.symm{a b}{i}(h:gX a b i):gX b a i:=λj hj=>(h j hj).symm
def OE{L}(h:Dg L)(i):vl (L.take i)<10000 ^ i:=qm (h.take i) (by rw[VM];omega)
def gX.lt{a b}{i}(h:gX a b (i+1))(ha:Dg a)(hb:Dg b)(hl:a[i]?.getD 0<b[i]?.getD 0):vl a<vl b:=by
 have key:∀n,vl (a.take (i+1+n))<vl (b.take (i+1+n)):=by
  intro n
  induction n with
  |zero=>
   rw[Nat.add_zero,jq,jq];have h1:=OE ha i;have h2:=(hb.take i).nn;have h3:=by
    have:=VW (c:=10000 ^ i) (show a[i]?.getD 0+1<=b[i]?.getD 0 by omega) (by have:=pJ i;omega);rw[Wn,Int.mul_one] at this;exact this
   omega
  |succ n g=>
   rw[<-Xw,jq,jq,h (i+1+n) o_];omega
 have:=key (a.length+b.length);rwa [jm a o_,jm b o_] at this
def gX.eq{a b}(h:gX a b 0):vl a=vl b:=by
 have key:∀n,vl (a.take n)=vl (b.take n):=by
  intro n
  induction n with
  |zero=>simp
  |succ n g=>rw[jq,jq,h n o_,g]
 have:=key (a.length+b.length);rwa [jm a o_,jm b o_] at this
def Fm{a b}(ha:Dg a)(hb:Dg b)(aX:kj b)(h:a.length<b.length):vl a<vl b:=by
 have h1:=qm ha (m:=b.length - 1) o_;have h2:=Ff hb aX (by intro e;subst e;simp at h);omega
def qE{x y}(h:x<y):dD x y=-1:=by unfold dD;rw[Vo h]
def qB{x y}(h:y<x):dD x y=1:=by unfold dD;rw[Vm o_,Vo h]
def Cp{x y}(h:x=y):dD x y=0:=by unfold dD;rw[Vm o_,Vm o_]
def PX(a b)(la lb)(ax:la.length<=100000)(aX:lb.length<=100000)(U:Dg la)(bp:Dg lb)(w)(ha:cd w a la)(hb:cd w b lb):
 Kp 348 #[a,b] w λe w'=>e=.returned (dD (vl la) (vl lb))/\w'=w:=by
 have HA:=h_ ha;have HB:=h_ hb;obtain⟨aa,ca,rfl,_,_⟩:=ha;obtain⟨ab,cb,rfl,_,_⟩:=hb;have HM:=h_ (ng la.length lb.length w);obtain⟨m,hm⟩:∃m:Nat,(if (lb.length:Int)<la.length then (la.length:Int) else lb.length)=m:=⟨max la.length lb.length,by split<;>omega⟩
 have cy:la.length<=m:=by split at hm<;>omega
 have cm:lb.length<=m:=by split at hm<;>omega
 have aM:m<=100000:=by split at hm<;>omega
 rw[hm] at HM;go_enter func348,ntmps348;go_wp2_with fail
 refine HM.out.mono ?_;rintro e w1 ⟨rfl,G⟩;rw[G];go_wp2;go_loopw [5] (λiv wr=>∃i:Nat,i<=m/\iv=.int .i64 ((i:Int) - 1)/\Hid (gX la lb i)/\w=wr) (λiv _=>(intOf iv+1).toNat)
 case atStart=>exact⟨m,Vj _,rfl,h_ (gX.start cy cm),rfl⟩
 case round=>
  obtain⟨i,hi,rfl,hE,rfl⟩:=hrel;cases i with
  |zero=>
   have he:=h_ (Cp hE.out.eq);exact AR
  |succ i=>
   have g:((i+1:Nat):Int) - 1=i:=o_;rw[g];have F:=h_ (nS _ la i _ HA.out);have az:=h_ (nS _ lb i _ HB.out);rcases (by omega:la[i]?.getD 0<lb[i]?.getD 0\/lb[i]?.getD 0<la[i]?.getD 0\/la[i]?.getD 0=lb[i]?.getD 0) with hq|hq|hq
   .have he:=h_ (qE (hE.out.lt U bp hq));generalize la[i]?.getD 0=x,lb[i]?.getD 0=y at *;go_wp2_with fail
    refine F.out.mono ?_;rintro e w1 ⟨rfl,G⟩;rw[G];go_wp2_with fail
    refine az.out.mono ?_;rintro e w1 ⟨rfl,G⟩;rw[G];exact AR
   .have he:=h_ (qB (hE.out.symm.lt bp U hq));generalize la[i]?.getD 0=x,lb[i]?.getD 0=y at *;go_wp2_with fail
    refine F.out.mono ?_;rintro e w1 ⟨rfl,G⟩;rw[G];go_wp2_with fail
    refine az.out.mono ?_;rintro e w1 ⟨rfl,G⟩;rw[G];have I:¬x<y:=o_;exact AR
   .have he:=h_ (hE.out.step hq);rw[<-hq] at az;generalize la[i]?.getD 0=x at *;go_wp2_with fail
    refine F.out.mono ?_;rintro e w1 ⟨rfl,G⟩;rw[G];go_wp2_with fail
    refine az.out.mono ?_;rintro e w1 ⟨rfl,G⟩;rw[G];go_wp2;go_roundw
    case rel=>exact⟨i,o_,by go_num,he,trivial⟩
    case measure=>simp [intOf]
def Pc(a b:Int)(w):Kp 100 #[a,b] w λe w'=>e=.returned (dD a b)/\w'=w:=by
 unfold dD;exact KJ
end Go.Proofs.YtaamhakdhaolmaaGreatDoor
