/- Part 24. -/
import Derived.StillTail
import Derived.Test.YtaamhakdhaolmaaGreatDoorAag
import Derived.Test.YtaamhakdhaolmaaGreatDoorAai
namespace Go.Proofs.YtaamhakdhaolmaaGreatDoor
open Go.RowKit
set_option maxHeartbeats 8000000
set_option maxRecDepth 100000
variable {P:Prop}
set_option linter.all false
def bS.drew{w}{v}{L}(h:bS w v L):bS w.drew v L:=h.below ((Uk _ _).drew)
def wu(na nb:Bool)(a b:Value)(la lb:List Int)(aM:la.length<=100000)(I:Dg la)(bv:Dg lb)(ax:jV la)(ae:jV lb)(w:World)(ha:bS w a la)(hb:bS w b lb):
 Rv 253 #[.agg #[na,a],.agg #[nb,b]] w (dn (vl la) (vl lb)):=by
 have U:=h_ (λa b w=>Os a b w);obtain⟨kA,kB,J⟩:=cr w #[na,a] 182 #[nb,b] 182;have HA:=h_ (ha.below J);have HB:=h_ (hb.below J);obtain⟨aa,ca,rfl,_,_⟩:=ha;obtain⟨ab,cb,rfl,_,_⟩:=hb;go_enter Tryz.func253,Tryz.ntmps253;go_upto_region 1 with fail
 generalize (w.alloc _).alloc _=W at *;generalize ac:w.heap.size+1=rb,a3:w.heap.size=Z at *;have H:=h_ a3;have⟨a0,a1⟩:=kA.q2;have⟨b0,b1⟩:=kB.q2;by_cases cm:la.length=lb.length
 .have bp:(la.length:Int)=lb.length:=o_;go_wp2;go_loopw [5] (λiv wr=>∃i:Nat,i<=la.length/\iv=.int .i64 ((i:Int) - 1)/\Hid (gJ la lb i)/\Below W W wr) (λiv _=>(intOf iv+1).toNat)
  case atStart=>exact⟨la.length,Ug _,by simp [bp],h_ (gJ.start o_ o_),Uk _ _⟩
  case round=>
   obtain⟨i,hi,rfl,hE,F⟩:=hrel;have aL:=af F (by rw[<-H.out];exact J.size) J;cases i with
   |zero=>
    have he:=h_ (BR hE.out.eq);go_wp2;go_ret;exact⟨by rw[he.out];rfl,H.out▸aL⟩
   |succ i=>
    have g:((i+1:Nat):Int) - 1=i:=o_;rw[g];have ad:i<la.length:=o_;have K:i<lb.length:=o_;have ba:=(kA.next F).drew;have bo:=(kB.next F).drew;have⟨a0,a1⟩:=ba.q2;have⟨b0,b1⟩:=bo.q2;have bY:=F.drew;have a6:=(HA.out.below F).drew;have V:=(HB.out.below F).drew;have⟨_,_,e1,_,co⟩:=a6;injection e1 with e1 _ e2;subst e1 e2;have⟨_,_,e1,_,a7⟩:=V;injection e1 with e1 _ e2;subst e1 e2;obtain⟨ga,oa,rfl,q1,_⟩:=co i ad;obtain⟨gb,ob,rfl,q2,_⟩:=a7 i K;have i2:(i:Int)<lb.length:=o_;generalize hx:la[i]?.getD 0=x at q1;generalize hy:lb[i]?.getD 0=y at q2;by_cases bi:x=y
    .subst bi;go_upto_region 6 with fail
     go_still k_
     change Exit.then _ _ _ _ wr.drew;go_wp2;go_roundw
     case rel=>exact⟨i,by omega,rfl,(h_ (hE.out.step (hx.trans hy.symm)))⟩
     case measure=>simp [intOf];try omega
    .have he:Hid (dn (vl la) (vl lb)=dn x y):=by
      show _=_;rcases (by omega:x<y\/y<x) with h|h
      .rw[qo h,qo (hE.out.lt I bv (by rw[hx,hy];exact h))]
      .rw[ql h,ql (hE.out.symm.lt bv I (by rw[hx,hy];exact h))]
     clear hx hy hE;have r1:wr.drew.drew.cell? ⟨ga,oa+i,none⟩=some (.int .i64 x):=q1;have r2:wr.drew.drew.cell? ⟨gb,ob+i,none⟩=some (.int .i64 y):=q2;go_upto_region 6 with fail
     go_still k_
     change Exit.then _ _ _ _ wr.drew;clear a0 a1 b0 b1;obtain⟨a0,a1⟩:=ba.drew.q2;obtain⟨b0,b1⟩:=bo.drew.q2;go_upto_region 7 with fail
     refine wp_region_still_lit k_ k_ ?_;change wpStill _ _ wr.drew.drew _ _ _
     iterate 10 still_step
     still_call (U.out _ _ _)
     still_step
     refine XH ?_;change Exit.then _ _ _ _ wr.drew.drew;go_wp2;go_ret;exact⟨by rw[he.out];rfl,H.out▸aL.drew.drew⟩
 .have bp:(la.length:Int)≠lb.length:=o_;have he:dn (vl la) (vl lb)=dn la.length lb.length:=by
   rcases Vn la.length lb.length with h|h
   .rw[qo (EA I bv ae h),qo o_]
   .rw[ql (EA bv I ax o_),ql o_]
  replace he:=h_ he;go_wp2_with fail
  refine ai (U.out _ _ _) λw1 G=>?_;rw[G];clear G;go_wp2;go_ret;exact⟨by rw[he.out];rfl,H.out▸J⟩
def pO(h:P:=by rw[ep,ep];omega):=h
def Gi(h:P:=by simp [results,Tryz.results196,go_sem,q0,q1]):=h
def AC(h:P:=by
 refine ao ?_;obtain⟨w9,_,_,cv,rfl,az⟩:=id hne;obtain⟨sl,H,rfl,_⟩:=id az.1;refine aB 8 ?_;refine fm (v:=.agg #[decide (K<0),.slice sl (dg K.natAbs).length H]) rs (#[false,.slice none 0 0]) (λw'=>ag rs #[decide (K<0),.slice sl (dg K.natAbs).length H] 182 w'/\aW w' W.heap.size (.slice sl (dg K.natAbs).length H) (dg K.natAbs)) (.inr s_) (λ_ hd=>hd.1) (aI.and (λ_ _ h hb=>⟨h.1.below hb,λhn=>(h.2 hn).below hb⟩)) (λw1 w2 hd Z hb=>⟨hb,hd.2.rdO.over Z u_⟩) (λhne=>?_)
 try simp only[Value.cells]
 refine cV λWz a7 aX=>?_
 try dsimp only
 have aM:Below w.heap.size w Wz:=a7.belowGe (B:=w.heap.size) J a6 u_;obtain⟨q0,q1⟩:=aX.1.q2;have cA:aW Wz w.heap.size (.slice sl (dg K.natAbs).length H) (dg K.natAbs):=aX.2.le a6;clear a7 aX hne az;go_wp2;refine Uh (v:=.agg #[decide (K<0),.slice sl (dg K.natAbs).length H]) (by simp [results,Tryz.results316,go_sem,q0,q1]) rfl ?_;exact⟨_,rfl,⟨_,rfl,cA⟩,aM⟩):=h
def KO(h:P:=by
 obtain⟨q0,q1⟩:=aX.1.q2;have cA:aW Wz w.heap.size (.slice sl (dg K.natAbs).length H) (dg K.natAbs):=aX.2.le F;clear a7 aX hne az;go_wp2;refine Uh (v:=.agg #[decide (K<0),.slice sl (dg K.natAbs).length H]) Gi rfl ?_;exact⟨_,rfl,⟨_,rfl,cA⟩,aM⟩):=h
def I1(h:P:=by
 have:=mt (Dl (x:=(M.natAbs:Int)) (y:=N.natAbs)).2 (by rw[hc];exact ad);omega):=h
def Jf(h:P:=by
 have:=(Dl (x:=(M.natAbs:Int)) (y:=N.natAbs)).1 (by rw[hc];exact ad);omega):=h
def uV(h:P:=by
 exact⟨_,rfl,⟨_,rfl,cA⟩,aM⟩):=h
def bm(N:Int)(v:Value)(w:World):Prop:=∃lv,v=.agg #[decide (N<0),lv]/\bS w lv (dg N.natAbs)
def Wh.rd{G:Nat}{N:Int}{v:Value}{w:World}(h:Wh G N v w):bm N v w:=by
 obtain⟨lv,h1,h2⟩:=h;exact⟨lv,h1,h2.1⟩
def bm.below{N:Int}{v:Value}{w w1:World}(h:bm N v w)(hb:Below w.heap.size w w1):bm N v w1:=by
 obtain⟨lv,h1,h2⟩:=h;exact⟨lv,h1,h2.below hb⟩
def iV(V:Int)(G:Nat)(v:Value)(w:World):Prop:=∃O,aq w G v O/\Dg O/\vl O=V/\O.length<=200000
def iV.closed(V:Int)(G:Nat)(v:Value):aQ (iV V G v):=λ_ _ ⟨O,h1,h2⟩ hb=>⟨O,h1.below hb,h2⟩
def eo(n:Nat):Dg (dg n):=(jQ n).1
def pV(n:Nat):jV (dg n):=(jQ n).2.1
def ep(n:Nat):vl (dg n)=n:=(jQ n).2.2
def mZ{O:List Int}{V:Int}{n:Nat}(h:Dg O)(hv:vl O=V)(hn:V=n):tr O=dg n:=by
 rw[rE h,hv,hn];rfl
def Dl{x y:Int}:dn x y<0↔x<y:=by unfold dn;split;omega;split<;>omega
def aW.over{ex:List Nat}{w w':World}{G:Nat}{v:Value}{L:List Int}(h:aW w G v L)(Z:ah ex w w')(hx:∀k∈ex,k<G):aW w' G v L:=by
 by_cases hn:L=[]
 .exact Af
 .have h1:=h.2 hn;have h3:=aq.over h1 Z (λg hg hm=>by have:=h1.lt g hg;have:=hx g hm;omega);exact⟨h3.rdL,λ_=>h3⟩
def tP{M N K:Int}{s:Bool}(h1:Hid (decide (M<0)=s))(h2:Hid (decide (N<0)=s))(hK:M+N=K):(s=decide (K<0)\/K=0)/\((M.natAbs:Int)+1*N.natAbs=K.natAbs):=by
 have h1:=h1.out;have h2:=h2.out;cases s
 .simp at h1 h2;refine⟨.inl ?_,by omega⟩;symm;simp;omega
 .simp at h1 h2;refine⟨.inl ?_,by omega⟩;symm;simp;omega
def mY{M N K:Int}{s t:Bool}(h1:Hid (decide (M<0)=s))(h2:Hid (decide (N<0)=t))(F:s≠t)(hK:M+N=K)(hl:N.natAbs<=M.natAbs):(s=decide (K<0)\/K=0)/\((M.natAbs:Int)+-1*N.natAbs=K.natAbs):=by
 have h1:=h1.out;have h2:=h2.out;refine⟨?_,?_⟩
 .by_cases h0:K=0
  .exact .inr h0
  .left;cases s<;>cases t<;>simp at h1 h2 F ⊢<;>omega
 .cases s<;>cases t<;>simp at h1 h2 F ⊢<;>omega
def Wh.rdO{G:Nat}{K:Int}{b:Bool}{lv:Value}{w:World}(h:Wh G K (.agg #[b,lv]) w):aW w G lv (dg K.natAbs):=by
 obtain⟨l,e,h⟩:=h;simp only[Value.agg.injEq,Array.mk.injEq,List.cons.injEq] at e;rw[e.2.1];exact h
def ag.other{r:Nat}{I:Array Value}{T:TypeId}{w:World}(h:ag r I T w){p:Addr}(G:p.block≠r)(v:Value):ag r I T (w.setCell p v):=
 h.over ((ah.refl [p.block] w).setCell (.inr s_) v) u_
def wD(M N:Int)(a b:Value)(hM:(dg M.natAbs).length<=100000)(hN:(dg N.natAbs).length<=100000)(w:World)(ha:bm M a w)(hb:bm N b w):
 Kp 196 #[a,b] w (dG (M+N) w):=by
 obtain⟨la,rfl,a3⟩:=ha;obtain⟨lb,rfl,ac⟩:=hb;obtain⟨aa,ca,b2⟩:∃aa ca,Hid (la=.slice aa (dg M.natAbs).length ca):=by obtain⟨aa,ca,h,_⟩:=a3;exact⟨aa,ca,h⟩
 obtain⟨ab,cb,b3⟩:∃ab cb,Hid (lb=.slice ab (dg N.natAbs).length cb):=by obtain⟨aa,ca,h,_⟩:=ac;exact⟨aa,ca,h⟩
 obtain⟨kA,kB,kS,J⟩:=fh w #[decide (M<0),la] 182 #[decide (N<0),lb] 182 #[false,.slice none 0 0] 182;have a5:=h_ a3;have bx:=h_ ac;generalize bX:decide (M<0)=sa at *;generalize bp:decide (N<0)=sb at *;have b4:=h_ bX;have g:=h_ bp;clear bX bp;obtain⟨K,hK⟩:∃K,M+N=K:=⟨_,rfl⟩
 rw[hK];have a6:=J.size;go_enter Tryz.func196,Tryz.ntmps196;go_upto_region 1 with fail
 generalize ((w.alloc _).alloc _).alloc _=W at *;generalize cs:w.heap.size+1+1=rs at *;obtain⟨a0,a1⟩:=kA.q2;obtain⟨b0,b1⟩:=kB.q2;have bq:=kA.lt;have bZ:=kB.lt;have cz:=kS.lt;have bY:w.heap.size∉[rs]:=u_;have cy:w.heap.size+1∉[rs]:=u_;by_cases hs:sa=sb
 .subst hs;go_upto_region 2 with fail
  refine br [rs] (λ_=>false) (λ_=>True) (ag rs #[false,.slice none 0 0] 182) k_ kS ?_;refine aD ⟨W,ah.refl _ _,kS⟩ [ae,ae,ae,ae,ae,ae] 3 aI aA ?_;refine aB 6 ?_;refine bG (some 16) (λu=>λw'=>ag rs #[false,.slice none 0 0] 182 w'/\iV (M.natAbs+(1)*N.natAbs) W.heap.size u w') (λu=>aI.and (iV.closed _ _ _)) (λw' hO hD=>(wS (1) o_ _ _ (dg M.natAbs) (dg N.natAbs) o_ o_ (eo _) (eo _) pO _ (a5.out.below0 (hO.belowGe (B:=w.heap.size) J a6 u_)) (bx.out.below0 (hO.belowGe (B:=w.heap.size) J a6 u_))).mono λe w2 ⟨v,O,h1,h2,h3,h4,h5,h6⟩=>⟨v,h1,.of_below h6,hD.next h6,O,h2.le hO.size,h3,by rw[h4,ep,ep],by omega⟩) (λu hne=>?_);refine ao ?_;refine aB 7 ?_;refine bG (some 17) (λu2=>λw'=>ag rs #[false,.slice none 0 0] 182 w'/\Wh W.heap.size K u2 w') (λu2=>aI.and bQ) (λw' hO ⟨V,O,h1,h2,h3,h4⟩=>(lV sa _ O o_ _ h1.rdL).mono λe w2 h=>let ⟨v,r1,r2,r3⟩:=h.whole (N:=K) (tP b4 g hK).1 (mZ h2 h3 (tP b4 g hK).2);⟨v,r1,.of_below r3,V.next r3,r2.le hO.size⟩) (λu2 hne=>?_);refine ao ?_;obtain⟨w9,_,_,cv,rfl,az⟩:=id hne;obtain⟨sl,H,rfl,_⟩:=id az.1;refine aB 8 ?_;refine fm (v:=.agg #[decide (K<0),.slice sl (dg K.natAbs).length H]) rs (#[false,.slice none 0 0]) (λw'=>ag rs #[decide (K<0),.slice sl (dg K.natAbs).length H] 182 w'/\aW w' W.heap.size (.slice sl (dg K.natAbs).length H) (dg K.natAbs)) (.inr s_) (λ_ hd=>hd.1) (aI.and (λ_ _ h hb=>⟨h.1.below hb,λhn=>(h.2 hn).below hb⟩)) (λw1 w2 hd Z hb=>⟨hb,hd.2.rdO.over Z u_⟩) (λhne=>?_)
  try simp only[Value.cells]
  refine cV λWz a7 aX=>?_
  try dsimp only
  have aM:Below w.heap.size w Wz:=a7.belowGe (B:=w.heap.size) J a6 u_;obtain⟨q0,q1⟩:=aX.1.q2;have cA:aW Wz w.heap.size (.slice sl (dg K.natAbs).length H) (dg K.natAbs):=aX.2.le a6;clear a7 aX hne az;go_wp2;refine Uh (v:=.agg #[decide (K<0),.slice sl (dg K.natAbs).length H]) Gi rfl ?_;exact uV
 .have aG:sa≠sb:=hs;have a2:(sa==sb)=false:=by simp [hs]
  have HC:=h_ (wu sa sb la lb (dg M.natAbs) (dg N.natAbs) o_ (eo _) (eo _) (pV _) (pV _) W (a5.out.below J) (bx.out.below J));rw[ep,ep] at HC;generalize hc:dn (M.natAbs:Int) (N.natAbs:Int)=c at HC;by_cases ad:c<0
  .have hl:M.natAbs<=N.natAbs:=by
    exact Jf
   have aL:N+M=K:=o_;have ax:sb≠sa:=λh=>aG h.symm;clear hc;go_wp2_with fail
   refine HC.out.mono ?_;rintro e G ⟨rfl,I⟩;have bs:=kA.next I
   have bb:=kB.next I
   have a8:=kS.next I
   clear a0 a1 b0 b1;obtain⟨a0,a1⟩:=bs.q2;obtain⟨b0,b1⟩:=bb.q2;have b5:=bs.frozen 0;have b6:=bs.frozen 1;have b8:=bb.frozen 0;have b7:=bb.frozen 1;have U:Below w.heap.size w G:=af I a6 J;clear HC;have a9:=b2.out;have a4:=b3.out;clear b2 b3;subst a9 a4;have ba:=(((bs.set 0 sb).set 1 (.slice ab (dg N.natAbs).length cb)).other (p:=⟨w.heap.size+1,0,none⟩) s_ sa).other (p:=⟨w.heap.size+1,1,none⟩) s_ (.slice aa (dg M.natAbs).length ca);have bo:=(((bb.other (p:=⟨w.heap.size,0,none⟩) s_ sb).other (p:=⟨w.heap.size,1,none⟩) s_ (.slice ab (dg N.natAbs).length cb)).set 0 sa).set 1 (.slice aa (dg M.natAbs).length ca);have aZ:=(((a8.other (p:=⟨w.heap.size,0,none⟩) u_ sb).other (p:=⟨w.heap.size,1,none⟩) u_ (.slice ab (dg N.natAbs).length cb)).other (p:=⟨w.heap.size+1,0,none⟩) u_ sa).other (p:=⟨w.heap.size+1,1,none⟩) u_ (.slice aa (dg M.natAbs).length ca);have aF:Below w.heap.size w ((((G.setCell ⟨w.heap.size,0,none⟩ sb).setCell ⟨w.heap.size,1,none⟩ (.slice ab (dg N.natAbs).length cb)).setCell ⟨w.heap.size+1,0,none⟩ sa).setCell ⟨w.heap.size+1,1,none⟩ (.slice aa (dg M.natAbs).length ca)):=(((U.setCell (Ug _) _).setCell (Ug _) _).setCell s_ _).setCell s_ _;go_upto_region 4 with fail
   go_upto_region 5 with fail
   generalize (((World.setCell _ _ _).setCell _ _).setCell _ _).setCell _ _=W1 at *;clear a0 a1 b0 b1 b5 b6 b8 b7;obtain⟨a0,a1⟩:=ba.q2;obtain⟨b0,b1⟩:=bo.q2;have bv:=ba.lt;have bz:=bo.lt;have bi:=aZ.lt;have F:=aF.size;have cu:=a5;clear a5;have a5:=bx;clear bx;have bx:=cu;clear cu;refine br [rs] (λ_=>false) (λ_=>True) (ag rs #[false,.slice none 0 0] 182) k_ aZ ?_;refine aD ⟨W1,ah.refl _ _,aZ⟩ [ae,ae,ae,ae,ae,ae] 3 aI aA ?_;refine aB 6 ?_;refine bG (some 30) (λu=>λw'=>ag rs #[false,.slice none 0 0] 182 w'/\iV (N.natAbs+(-1)*M.natAbs) W1.heap.size u w') (λu=>aI.and (iV.closed _ _ _)) (λw' hO hD=>(wS (-1) o_ _ _ (dg N.natAbs) (dg M.natAbs) o_ o_ (eo _) (eo _) pO _ (a5.out.below0 (hO.belowGe (B:=w.heap.size) aF F u_)) (bx.out.below0 (hO.belowGe (B:=w.heap.size) aF F u_))).mono λe w2 ⟨v,O,h1,h2,h3,h4,h5,h6⟩=>⟨v,h1,.of_below h6,hD.next h6,O,h2.le hO.size,h3,by rw[h4,ep,ep],by omega⟩) (λu hne=>?_);refine ao ?_;refine aB 7 ?_;refine bG (some 31) (λu2=>λw'=>ag rs #[false,.slice none 0 0] 182 w'/\Wh W1.heap.size K u2 w') (λu2=>aI.and bQ) (λw' hO ⟨V,O,h1,h2,h3,h4⟩=>(lV sb _ O o_ _ h1.rdL).mono λe w2 h=>let ⟨v,r1,r2,r3⟩:=h.whole (N:=K) (mY g b4 ax aL hl).1 (mZ h2 h3 (mY g b4 ax aL hl).2);⟨v,r1,.of_below r3,V.next r3,r2.le hO.size⟩) (λu2 hne=>?_);refine ao ?_;obtain⟨w9,_,_,cv,rfl,az⟩:=id hne;obtain⟨sl,H,rfl,_⟩:=id az.1;refine aB 8 ?_;refine fm (v:=.agg #[decide (K<0),.slice sl (dg K.natAbs).length H]) rs (#[false,.slice none 0 0]) (λw'=>ag rs #[decide (K<0),.slice sl (dg K.natAbs).length H] 182 w'/\aW w' W1.heap.size (.slice sl (dg K.natAbs).length H) (dg K.natAbs)) (.inr s_) (λ_ hd=>hd.1) (aI.and (λ_ _ h hb=>⟨h.1.below hb,λhn=>(h.2 hn).below hb⟩)) (λw1 w2 hd Z hb=>⟨hb,hd.2.rdO.over Z u_⟩) (λhne=>?_)
   try simp only[Value.cells]
   refine cV λWz a7 aX=>?_
   try dsimp only
   have aM:Below w.heap.size w Wz:=a7.belowGe (B:=w.heap.size) aF F u_;exact KO
  .have hl:N.natAbs<=M.natAbs:=by
    exact I1
   clear hc;go_wp2_with fail
   refine HC.out.mono ?_;rintro e W1 ⟨rfl,I⟩;have ba:=kA.next I
   have bo:=kB.next I
   have aZ:=kS.next I
   have U:Below w.heap.size w W1:=af I a6 J;have F:=U.size;clear a0 a1 b0 b1;obtain⟨a0,a1⟩:=ba.q2;obtain⟨b0,b1⟩:=bo.q2;have bv:=ba.lt;have bz:=bo.lt;have bi:=aZ.lt;clear HC;go_upto_region 5 with fail
   refine br [rs] (λ_=>false) (λ_=>True) (ag rs #[false,.slice none 0 0] 182) k_ aZ ?_;refine aD ⟨W1,ah.refl _ _,aZ⟩ [ae,ae,ae,ae,ae,ae] 3 aI aA ?_;refine aB 6 ?_;refine bG (some 30) (λu=>λw'=>ag rs #[false,.slice none 0 0] 182 w'/\iV (M.natAbs+(-1)*N.natAbs) W1.heap.size u w') (λu=>aI.and (iV.closed _ _ _)) (λw' hO hD=>(wS (-1) o_ _ _ (dg M.natAbs) (dg N.natAbs) o_ o_ (eo _) (eo _) pO _ (a5.out.below0 (hO.belowGe (B:=w.heap.size) U F u_)) (bx.out.below0 (hO.belowGe (B:=w.heap.size) U F u_))).mono λe w2 ⟨v,O,h1,h2,h3,h4,h5,h6⟩=>⟨v,h1,.of_below h6,hD.next h6,O,h2.le hO.size,h3,by rw[h4,ep,ep],by omega⟩) (λu hne=>?_);refine ao ?_;refine aB 7 ?_;refine bG (some 31) (λu2=>λw'=>ag rs #[false,.slice none 0 0] 182 w'/\Wh W1.heap.size K u2 w') (λu2=>aI.and bQ) (λw' hO ⟨V,O,h1,h2,h3,h4⟩=>(lV sa _ O o_ _ h1.rdL).mono λe w2 h=>let ⟨v,r1,r2,r3⟩:=h.whole (N:=K) (mY b4 g aG hK hl).1 (mZ h2 h3 (mY b4 g aG hK hl).2);⟨v,r1,.of_below r3,V.next r3,r2.le hO.size⟩) (λu2 hne=>?_);refine ao ?_;obtain⟨w9,_,_,cv,rfl,az⟩:=id hne;obtain⟨sl,H,rfl,_⟩:=id az.1;refine aB 8 ?_;refine fm (v:=.agg #[decide (K<0),.slice sl (dg K.natAbs).length H]) rs (#[false,.slice none 0 0]) (λw'=>ag rs #[decide (K<0),.slice sl (dg K.natAbs).length H] 182 w'/\aW w' W1.heap.size (.slice sl (dg K.natAbs).length H) (dg K.natAbs)) (.inr s_) (λ_ hd=>hd.1) (aI.and (λ_ _ h hb=>⟨h.1.below hb,λhn=>(h.2 hn).below hb⟩)) (λw1 w2 hd Z hb=>⟨hb,hd.2.rdO.over Z u_⟩) (λhne=>?_)
   try simp only[Value.cells]
   refine cV λWz a7 aX=>?_
   try dsimp only
   have aM:Below w.heap.size w Wz:=a7.belowGe (B:=w.heap.size) U F u_;exact KO
def Eh(M N:Int)(a b:Value)(hM:(dg M.natAbs).length<=100000)(hN:(dg N.natAbs).length<=100000)(w:World)(ha:bm M a w)(hb:bm N b w):
 Kp 316 #[a,b] w (dG (M+N) w):=by
 obtain⟨la,rfl,a3⟩:=ha;obtain⟨lb,rfl,ac⟩:=hb;obtain⟨kA,kB,kS,J⟩:=fh w #[decide (M<0),la] 182 #[decide (N<0),lb] 182 #[false,.slice none 0 0] 182;have a5:=h_ a3;have bx:=h_ ac;generalize bX:decide (M<0)=sa at *;generalize bp:decide (N<0)=sb at *;have b4:=h_ bX;have g:=h_ bp;clear bX bp;obtain⟨K,hK⟩:∃K,M+N=K:=⟨_,rfl⟩
 rw[hK];have a6:=J.size;go_enter Tryz.func316,Tryz.ntmps316;go_upto_region 1 with fail
 generalize ((w.alloc _).alloc _).alloc _=W at *;generalize cs:w.heap.size+1+1=rs at *;obtain⟨a0,a1⟩:=kA.q2;obtain⟨b0,b1⟩:=kB.q2;have bq:=kA.lt;have bZ:=kB.lt;have cz:=kS.lt;have bY:w.heap.size∉[rs]:=u_;have cy:w.heap.size+1∉[rs]:=u_;by_cases hs:sa=sb
 .subst hs;go_upto_region 2 with fail
  refine br [rs] (λ_=>false) (λ_=>True) (ag rs #[false,.slice none 0 0] 182) k_ kS ?_;refine aD ⟨W,ah.refl _ _,kS⟩ [ae,ae,ae,ae,ae,ae] 3 aI aA ?_;refine aB 6 ?_;refine bG (some 16) (λu=>λw'=>ag rs #[false,.slice none 0 0] 182 w'/\iV (M.natAbs+(1)*N.natAbs) W.heap.size u w') (λu=>aI.and (iV.closed _ _ _)) (λw' hO hD=>(wL (1) o_ _ _ (dg M.natAbs) (dg N.natAbs) o_ o_ (eo _) (eo _) pO _ (a5.out.below0 (hO.belowGe (B:=w.heap.size) J a6 u_)) (bx.out.below0 (hO.belowGe (B:=w.heap.size) J a6 u_))).mono λe w2 ⟨v,O,h1,h2,h3,h4,h5,h6⟩=>⟨v,h1,.of_below h6,hD.next h6,O,h2.le hO.size,h3,by rw[h4,ep,ep],by omega⟩) (λu hne=>?_);refine ao ?_;refine aB 7 ?_;refine bG (some 17) (λu2=>λw'=>ag rs #[false,.slice none 0 0] 182 w'/\Wh W.heap.size K u2 w') (λu2=>aI.and bQ) (λw' hO ⟨V,O,h1,h2,h3,h4⟩=>(mc sa _ O o_ _ h1.rdL).mono λe w2 h=>let ⟨v,r1,r2,r3⟩:=h.whole (N:=K) (tP b4 g hK).1 (mZ h2 h3 (tP b4 g hK).2);⟨v,r1,.of_below r3,V.next r3,r2.le hO.size⟩) (λu2 hne=>?_);exact AC
 .have aG:sa≠sb:=hs;have ax:sb≠sa:=λh=>aG h.symm;have a2:(sa==sb)=false:=by simp [hs]
  have HC:=h_ (O7 la lb (dg M.natAbs) (dg N.natAbs) o_ o_ (eo _) (eo _) W (a5.out.below J) (bx.out.below J));rw[ep,ep] at HC;generalize hc:dn (M.natAbs:Int) (N.natAbs:Int)=c at HC;by_cases ad:c<0
  .have hl:M.natAbs<=N.natAbs:=by
    exact Jf
   have aL:N+M=K:=o_;have aZ:¬(0<=c):=o_;clear hc;go_wp2_with fail
   refine HC.out.mono ?_;rintro e W1 ⟨rfl,G⟩;rw[G];clear G HC;go_upto_region 5 with fail
   have cu:=a5;clear a5;have a5:=bx;clear bx;have bx:=cu;clear cu;refine br [rs] (λ_=>false) (λ_=>True) (ag rs #[false,.slice none 0 0] 182) k_ kS ?_;refine aD ⟨W,ah.refl _ _,kS⟩ [ae,ae,ae,ae,ae,ae] 3 aI aA ?_;refine aB 6 ?_;refine bG (some 38) (λu=>λw'=>ag rs #[false,.slice none 0 0] 182 w'/\iV (N.natAbs+(-1)*M.natAbs) W.heap.size u w') (λu=>aI.and (iV.closed _ _ _)) (λw' hO hD=>(wL (-1) o_ _ _ (dg N.natAbs) (dg M.natAbs) o_ o_ (eo _) (eo _) pO _ (a5.out.below0 (hO.belowGe (B:=w.heap.size) J a6 u_)) (bx.out.below0 (hO.belowGe (B:=w.heap.size) J a6 u_))).mono λe w2 ⟨v,O,h1,h2,h3,h4,h5,h6⟩=>⟨v,h1,.of_below h6,hD.next h6,O,h2.le hO.size,h3,by rw[h4,ep,ep],by omega⟩) (λu hne=>?_);refine ao ?_;refine aB 7 ?_;refine bG (some 39) (λu2=>λw'=>ag rs #[false,.slice none 0 0] 182 w'/\Wh W.heap.size K u2 w') (λu2=>aI.and bQ) (λw' hO ⟨V,O,h1,h2,h3,h4⟩=>(mc sb _ O o_ _ h1.rdL).mono λe w2 h=>let ⟨v,r1,r2,r3⟩:=h.whole (N:=K) (mY g b4 ax aL hl).1 (mZ h2 h3 (mY g b4 ax aL hl).2);⟨v,r1,.of_below r3,V.next r3,r2.le hO.size⟩) (λu2 hne=>?_);exact AC
  .have hl:N.natAbs<=M.natAbs:=by
    exact I1
   have aZ:0<=c:=o_;clear hc;go_wp2_with fail
   refine HC.out.mono ?_;rintro e W1 ⟨rfl,G⟩;rw[G];clear G HC;go_upto_region 4 with fail
   refine br [rs] (λ_=>false) (λ_=>True) (ag rs #[false,.slice none 0 0] 182) k_ kS ?_;refine aD ⟨W,ah.refl _ _,kS⟩ [ae,ae,ae,ae,ae,ae] 3 aI aA ?_;refine aB 6 ?_;refine bG (some 30) (λu=>λw'=>ag rs #[false,.slice none 0 0] 182 w'/\iV (M.natAbs+(-1)*N.natAbs) W.heap.size u w') (λu=>aI.and (iV.closed _ _ _)) (λw' hO hD=>(wL (-1) o_ _ _ (dg M.natAbs) (dg N.natAbs) o_ o_ (eo _) (eo _) pO _ (a5.out.below0 (hO.belowGe (B:=w.heap.size) J a6 u_)) (bx.out.below0 (hO.belowGe (B:=w.heap.size) J a6 u_))).mono λe w2 ⟨v,O,h1,h2,h3,h4,h5,h6⟩=>⟨v,h1,.of_below h6,hD.next h6,O,h2.le hO.size,h3,by rw[h4,ep,ep],by omega⟩) (λu hne=>?_);refine ao ?_;refine aB 7 ?_;refine bG (some 31) (λu2=>λw'=>ag rs #[false,.slice none 0 0] 182 w'/\Wh W.heap.size K u2 w') (λu2=>aI.and bQ) (λw' hO ⟨V,O,h1,h2,h3,h4⟩=>(mc sa _ O o_ _ h1.rdL).mono λe w2 h=>let ⟨v,r1,r2,r3⟩:=h.whole (N:=K) (mY b4 g aG hK hl).1 (mZ h2 h3 (mY b4 g aG hK hl).2);⟨v,r1,.of_below r3,V.next r3,r2.le hO.size⟩) (λu2 hne=>?_);exact AC
def Js(h:P:=by
 have:=b4.out;by_cases h0:K=0
 .exact .inr h0
 .left;cases sa<;>simp at this ⊢<;>omega):=h
def xj(N)(a)(hN:(dg N.natAbs).length<=100000)(w)(ha:bm N a w):
 Kp 320 #[a] w (dG (-N) w):=by
 obtain⟨la,rfl,a3⟩:=ha;have⟨kA,kS,J⟩:=cr w #[decide (N<0),la] 182 #[false,.slice none 0 0] 182;generalize bX:decide (N<0)=sa at *;have b4:=h_ bX;obtain⟨K,hK⟩:∃K,-N=K:=⟨_,rfl⟩
 rw[hK];have a6:=J.size;have F:K.natAbs=N.natAbs:=o_;have g:(!sa)=decide (K<0)\/K=0:=by
  exact Js
 have HT:=h_ (λW (hb:Below w w W)=>((mc (!sa) la (dg N.natAbs) o_ W ((h_ a3).out.below hb)).mono λe w' h=>h.whole (N:=K) g (by rw[qY,F])));clear g F hK;go_enter Tryz.func320,Tryz.ntmps320;go_upto_region 1 with fail
 generalize (w.alloc _).alloc _=W,cs:w.heap.size+1=rs at *;have⟨a0,a1⟩:=kA.q2;go_wp2_with fail
 refine (HT.out W J).mono ?_;rintro e w1 ⟨v,rfl,a8,I⟩;obtain⟨lv,rfl,Z⟩:=a8;obtain⟨sl,H,rfl,_⟩:=id Z.1;have aZ:=kS.next I
 have⟨c0,c1⟩:=aZ.q2;have z0:=aZ.frozen 0;have z1:=aZ.frozen 1;have aL:=af I a6 J;have k9:=(aZ.set 0 (decide (K<0))).set 1 (.slice sl (dg K.natAbs).length H);have ad:Below w w ((w1.setCell rs (decide (K<0))).setCell ⟨rs,1,none⟩ (.slice sl (dg K.natAbs).length H)):=(aL.setCell u_ _).setCell u_ _;have az:=Z.set2 (S:=rs) kS.lt (decide (K<0)) (.slice sl (dg K.natAbs).length H);replace az:aW _ w _ _:=az.le a6;go_wp2;generalize (World.setCell (World.setCell _ _ _) _ _)=w9 at ad k9 az ⊢;have⟨q0,q1⟩:=k9.q2;exact Uh (v:=.agg #[decide (K<0),.slice sl (dg K.natAbs).length H]) (by simp [results,Tryz.results320,go_sem,q0,q1]) rfl ⟨_,rfl,⟨_,rfl,az⟩,ad⟩
def bm.below0{n}{N}{v}{w w1}(h:bm N v w)(hb:Below n w w1)(hn:n=w.heap.size:=by rfl):bm N v w1:=h.below (hn▸hb)
def DR(M N)(a b)(hM:(dg M.natAbs).length<=100000)(hN:(dg N.natAbs).length<=100000)(w)(ha:bm M a w)(hb:bm N b w):
 Kp 349 #[a,b] w (dG (M+-N) w):=by
 have g:=h_ ha;have aa:=h_ hb;obtain⟨la,rfl,_⟩:=ha;obtain⟨lb,rfl,_⟩:=hb;have⟨kA,kB,kS,J⟩:=fh w #[decide (M<0),la] 182 #[decide (N<0),lb] 182 #[false,.slice none 0 0] 182;generalize decide (M<0)=sa,decide (N<0)=sb at *;obtain⟨K,hK⟩:∃K,M+-N=K:=⟨_,rfl⟩
 rw[hK];have cB:(dg (-N).natAbs).length<=100000:=by rw[Int.natAbs_neg];exact hN
 have HK:=h_ hK;have a6:=J.size;go_enter Tryz.func349,Tryz.ntmps349;go_upto_region 1 with fail
 generalize ((w.alloc _).alloc _).alloc _=W,cs:w.heap.size+1+1=rs at *;have⟨a0,a1⟩:=kA.q2;have⟨b0,b1⟩:=kB.q2;have bq:=kA.lt;have bZ:=kB.lt;have cz:=kS.lt;have bY:w.heap.size∉[rs]:=u_;have cy:w.heap.size+1∉[rs]:=u_;refine br [rs] (λ_=>false) (λ_=>True) (ag rs #[false,.slice none 0 0] 182) k_ kS (aD ⟨W,ah.refl _ _,kS⟩ [true,true] 3 aI aA ?_);refine aB 2 (bG (some 7) (λu=>λw'=>ag rs #[false,.slice none 0 0] 182 w'/\Wh W.heap.size (-N) u w') (λu=>aI.and bQ) (λw' hO hD=>(xj N _ hN _ (aa.out.below0 (hO.belowGe (B:=w.heap.size) J a6 u_))).mono λe w2 ⟨v,h1,h2,h3⟩=>⟨v,h1,.of_below h3,hD.next h3,h2.le hO.size⟩) (λu hne=>?_));refine ao (aB 3 ?_);refine bG (some 8) (λu2=>λw'=>ag rs #[false,.slice none 0 0] 182 w'/\Wh W K u2 w') (λu2=>aI.and bQ) (λw' hO hD=>(Eh M (-N) _ _ hM cB _ (g.out.below0 (hO.belowGe (B:=w.heap.size) J a6 u_)) hD.2.rd).mono λe w2 ⟨v,h1,h2,h3⟩=>⟨v,h1,.of_below h3,hD.1.next h3,HK.out▸h2.le hO.size⟩) (λu2 hne=>?_);refine ao ?_;obtain⟨w9,_,_,cv,rfl,az⟩:=id hne;obtain⟨sl,H,rfl,_⟩:=id az.1;refine aB 4 (fm (v:=.agg #[decide (K<0),.slice sl (dg K.natAbs).length H]) rs (#[false,.slice none 0 0]) (λw'=>ag rs #[decide (K<0),.slice sl (dg K.natAbs).length H] 182 w'/\aW w' W.heap.size (.slice sl (dg K.natAbs).length H) (dg K.natAbs)) (.inr s_) (λ_ hd=>hd.1) (aI.and (λ_ _ h hb=>⟨h.1.below hb,λhn=>(h.2 hn).below hb⟩)) (λw1 w2 hd Z hb=>⟨hb,hd.2.rdO.over Z u_⟩) (λhne=>?_));refine cV λWz a7 aX=>?_;have aM:=a7.belowGe (B:=w.heap.size) J a6 u_;have⟨q0,q1⟩:=aX.1.q2;have cA:=aX.2.le a6;go_wp2;exact Uh (v:=.agg #[decide (K<0),.slice sl (dg K.natAbs).length H]) (by simp [results,Tryz.results349,go_sem,q0,q1]) rfl uV
def Jz(h:P:=by
 clear hI;go_wp2;go_roundw
 case rel=>exact⟨i+1,S,by omega,by go_num,b9,Z,hb⟩
 case measure=>exact aO):=h
def uA(h:P:=by
 exact⟨_,rfl,⟨_,rfl,bb⟩,ad⟩):=h
def Er{M N:Int}{s t}(h1:Hid (decide (M<0)=s))(h2:Hid (decide (N<0)=t)):(s != t)=decide (M*N<0)\/M*N=0:=by
 have h1:=h1.out;have h2:=h2.out;by_cases hM:M=0
 .right;rw[hM,Ys]
 by_cases hN:N=0
 .right;rw[hN,W_]
 left;cases s<;>cases t<;>simp at h1 h2 ⊢
 .exact UJ h1 h2
 .exact Wd o_ h2
 .exact Int.mul_neg_of_neg_of_pos h1 o_
 .exact U_ (Int.mul_pos_of_neg_of_neg h1 h2)
def jb(M N)(a b)(hM:(dg M.natAbs).length<=40000)(hN:(dg N.natAbs).length<=40000)(w)(ha:bm M a w)(hb:bm N b w):
 Kp 194 #[a,b] w (dG (M*N) w):=by
 obtain⟨la,rfl,a3⟩:=ha;obtain⟨lb,rfl,ac⟩:=hb;have⟨kA,kB,kS,J⟩:=fh w #[decide (M<0),la] 182 #[decide (N<0),lb] 182 #[false,.slice none 0 0] 182;have a5:=h_ a3;have bx:=h_ ac;generalize bX:decide (M<0)=sa,bp:decide (N<0)=sb at *;have aM:=h_ (Er (h_ bX) (h_ bp));obtain⟨K,hK⟩:∃K,M*N=K:=⟨_,rfl⟩
 have HV:Hid (vl (dg M.natAbs)*vl (dg N.natAbs)=K.natAbs):=by
  show _=_;rw[ep,ep,<-hK,U8,Yc]
 rw[hK] at aM ⊢;have cG:=eo M.natAbs;have F:=eo N.natAbs;generalize dg M.natAbs=A,dg N.natAbs=B at *;obtain⟨aa,ca,rfl,_,_⟩:=a3;obtain⟨ab,cb,rfl,_,_⟩:=ac;go_enter Tryz.func194,Tryz.ntmps194;go_upto_region 1 with fail
 generalize ((w.alloc _).alloc _).alloc _=W,cs:w.heap.size+1+1=rs at *;have HA:=h_ (a5.out.below J);have HB:=h_ (bx.out.below J);have⟨wm,b6,b3,cm⟩:=qR W (A.length+B.length+1) o_;simp at b6;have⟨_,a1⟩:=kA.q2;have⟨_,b1⟩:=kB.q2;go_upto_region 2 with fail
 have⟨_,cP⟩:=(kA.next cm).q2;generalize hG:W.heap.size=G at *;have HG:=h_ hG;have cz:rs<G:=by rw[<-HG.out];exact kS.lt
 have bq:w.heap.size<G:=by rw[<-HG.out];exact kA.lt
 have bZ:w.heap.size+1<G:=by rw[<-HG.out];exact kB.lt
 go_upto_region 3 with fail
 go_loopw [23] (λiv wr=>∃(i:Nat) (S:List Int),i<=A.length/\iv=.int .i64 i/\Hid (S.length=A.length+B.length+1/\Dg S/\vl S=vl (A.take i)*vl B)/\aq wr G (.slice G (A.length+B.length+1) (A.length+B.length+1)) S/\Below G W wr) (λiv _=>A.length - (intOf iv).toNat)
 case atStart=>exact⟨0,List.replicate (A.length+B.length+1) 0,by omega,rfl,⟨by simp,λx hx=>by rw[List.eq_of_mem_replicate hx];omega,by rw[xM];simp [vl]⟩,b3,cm⟩
 case round=>
  obtain⟨i,S,hi,rfl,hS,Z,hb⟩:=hrel;have ba:=kA.next (HG.out▸hb)
  have bo:=kB.next (HG.out▸hb)
  have aZ:=kS.next (HG.out▸hb)
  by_cases aG:i<A.length
  .have aF:=cG.adi i;have⟨_,_,e1,_,co⟩:=HA.out;injection e1 with e1 _ e2;subst e1 e2;obtain⟨ga,oa,rfl,q1,bz⟩:=co i aG;have d1:=(hb.cell (p:=⟨ga,oa+i,none⟩) (HG.out▸bz)).trans q1;generalize ex:A[i]?.getD 0=x at d1 aF;have HX:=h_ ex;go_upto_region 7 with fail
   go_loopw [8,9] (λcv kv wr=>∃(k:Nat) (c:Int) (S:List Int),i<=k/\k<=A.length+B.length+1/\cv=.int .i64 c/\kv=.int .i64 k/\Hid (Mi A B (A.length+B.length+1) i k x S c)/\aq wr G (.slice G (A.length+B.length+1) (A.length+B.length+1)) S/\Below G W wr) (λ_ kv _=>A.length+B.length+1 - (intOf kv).toNat)
   case atStart=>exact⟨i,0,S,by omega,by omega,rfl,rfl,h_ (Mi.start hS.out.1 hS.out.2.1 hS.out.2.2),Z,hb⟩
   case round=>
    obtain⟨k,c,S,cu,hk,rfl,rfl,hI,Z,hb⟩:=hrel;by_cases cM:k<A.length+B.length+1
    .have hl:=h_ hI.out.len;have s1:=Z.cell (i:=k) (by rw[hl.out];exact cM);have f1:=Z.frozen k;have bp:=hI.out.dg.adi k;have a4:=hI.out.lo;have b2:=hI.out.hi;have bo:=kB.next (HG.out▸hb)
     have⟨_,cA⟩:=bo.q2;generalize es:S[k]?.getD 0=s at s1 bp;obtain⟨d,a2⟩:∃d,k=i+d:=⟨k - i,by omega⟩
     have cy:(k:Int) - (i:Int)=(d:Int):=o_;have b4:k - i=d:=o_;clear a2;by_cases hd:d<B.length
     .obtain⟨gb,ob,rfl,q2,aX⟩:=(by obtain⟨_,_,e1,_,a7⟩:=HB.out;injection e1 with e1 _ e2;subst e1 e2;exact a7 d hd:∃g o,ab=some ⟨g,o,none⟩/\W.cell? ⟨g,o+d,none⟩=some (.int .i64 (B[d]?.getD 0))/\g<W.heap.size)
      have d2:=(hb.cell (p:=⟨gb,ob+d,none⟩) (HG.out▸aX)).trans q2;have ae:=F.adi d;generalize V:B[d]?.getD 0=y at d2 ae;have hm:=tR aF ae;have bi:0<=s+c+x*y:=o_;have b9:=h_ (hI.out.step (y:=y) cM cu aF F es (by rw[b4];exact V));go_wp2;go_roundw
      case rel=>exact⟨k+1,(s+c+x*y) / 10000,S.set k ((s+c+x*y) % 10000),by omega,by omega,by go_num,by go_num,b9,Z.setG hl.out.symm k _,hb.setCell (Ug _) _⟩
      case measure=>exact aO
     .have V:B[k - i]?.getD 0=0:=by rw[b4];simp [hd]
      have bi:0<=s+c:=o_;have b9:=h_ (hI.out.step cM cu aF F es V);rw[W_,VG] at b9;go_wp2;go_roundw
      case rel=>exact⟨k+1,(s+c) / 10000,S.set k ((s+c) % 10000),by omega,by omega,by go_num,by go_num,b9,Z.setG hl.out.symm k _,hb.setCell (Ug _) _⟩
      case measure=>exact aO
    .obtain rfl:k=A.length+B.length+1:=by omega
     have b9:=h_ (And.intro hI.out.len (And.intro hI.out.dg (hI.out.done cG F HX.out aG rfl).2));exact Jz
  .obtain rfl:i=A.length:=by omega
   have hl:=hS.out.1;have HT:=h_ ((lV (sa != sb) _ S o_ wr Z.rdL).mono λe w' h=>h.whole (N:=K) aM.out (mZ hS.out.2.1 (hS.out.2.2.trans (by rw[i_ A (Ug _)])) HV.out));have a0:=ba.q1;have b0:=bo.q1;have U:Below w w wr:=af (HG.out▸hb) J.size J;have a9:=U.size;go_wp2_with fail
   refine HT.out.mono ?_;rintro e w1 ⟨v,rfl,a8,I⟩;obtain⟨lv,rfl,az⟩:=a8;obtain⟨sl,H,rfl,_⟩:=id az.1;have ax:=aZ.next I
   have⟨c0,c1⟩:=ax.q2;have z0:=ax.frozen 0;have z1:=ax.frozen 1;have aL:=af I a9 U;have k9:=(ax.set 0 (decide (K<0))).set 1 (.slice sl (dg K.natAbs).length H);have ad:Below w w ((w1.setCell rs (decide (K<0))).setCell ⟨rs,1,none⟩ (.slice sl (dg K.natAbs).length H)):=(aL.setCell u_ _).setCell u_ _;have bb:=az.set2 (S:=rs) aZ.lt (decide (K<0)) (.slice sl (dg K.natAbs).length H);replace bb:aW _ w _ _:=bb.le a9;go_wp2;generalize (World.setCell (World.setCell _ _ _) _ _)=w9 at ad k9 bb ⊢;have⟨q0,q1⟩:=k9.q2;exact Uh (v:=.agg #[decide (K<0),.slice sl (dg K.natAbs).length H]) (by simp [results,Tryz.results194,go_sem,q0,q1]) rfl uA
def ve(h:P:=by
 go_wp2;go_ret;exact⟨rfl,J⟩):=h
def GE(h:P:=by
 rw[E];simp only[hm,hn,Xp,Wx] at J bi ⊢;have HB:=h_ J;clear F g c1 c2 c3 c4 hm hn E J;go_enter Tryz.func255,Tryz.ntmps255;go_wp2;go_ret;exact⟨rfl,HB.out⟩):=h
def Jr(h:P:=by
 have E:=h_ e1;clear e1;go_enter Tryz.func254,Tryz.ntmps254;go_wp2;go_ret;exact⟨by rw[E.out];rfl,rfl⟩):=h
def bm.belowZ{n}{N}{v}{w w1}(h:bm N v w)(hb:Below n w w1)(hn:n=w.heap.size:=by rfl):bm N v w1:=h.below (hn▸hb)
def qr(N)(a)(hN:(dg N.natAbs).length<=100000)(w)(ha:bm N a w):
 Kp 197 #[a] w (dG (-N) w):=by
 obtain⟨la,rfl,a3⟩:=ha;have⟨kA,kS,J⟩:=cr w #[decide (N<0),la] 182 #[false,.slice none 0 0] 182;generalize bX:decide (N<0)=sa at *;have b4:=h_ bX;obtain⟨K,hK⟩:∃K,-N=K:=⟨_,rfl⟩
 rw[hK];have a6:=J.size;have F:K.natAbs=N.natAbs:=o_;have g:(!sa)=decide (K<0)\/K=0:=by
  exact Js
 have HT:=h_ (λW (hb:Below w w W)=>((lV (!sa) la (dg N.natAbs) o_ W ((h_ a3).out.below hb)).mono λe w' h=>h.whole (N:=K) g (by rw[qY,F])));clear g F hK;go_enter Tryz.func197,Tryz.ntmps197;go_upto_region 1 with fail
 generalize (w.alloc _).alloc _=W,cs:w.heap.size+1=rs at *;have⟨a0,a1⟩:=kA.q2;go_wp2_with fail
 refine (HT.out W J).mono ?_;rintro e w1 ⟨v,rfl,a8,I⟩;obtain⟨lv,rfl,Z⟩:=a8;obtain⟨sl,H,rfl,_⟩:=id Z.1;have aZ:=kS.next I
 have⟨c0,c1⟩:=aZ.q2;have z0:=aZ.frozen 0;have z1:=aZ.frozen 1;have aL:=af I a6 J;have k9:=(aZ.set 0 (decide (K<0))).set 1 (.slice sl (dg K.natAbs).length H);have ad:Below w w ((w1.setCell rs (decide (K<0))).setCell ⟨rs,1,none⟩ (.slice sl (dg K.natAbs).length H)):=(aL.setCell u_ _).setCell u_ _;have az:=Z.set2 (S:=rs) kS.lt (decide (K<0)) (.slice sl (dg K.natAbs).length H);replace az:aW _ w _ _:=az.le a6;clear HT Z;go_wp2;generalize (World.setCell (World.setCell _ _ _) _ _)=w9 at ad k9 az ⊢;have⟨q0,q1⟩:=k9.q2;exact Uh (v:=.agg #[decide (K<0),.slice sl (dg K.natAbs).length H]) (by simp [results,Tryz.results197,go_sem,q0,q1]) rfl ⟨_,rfl,⟨_,rfl,az⟩,ad⟩
def BC(M n:Int)(a)(hM:(dg M.natAbs).length<=40000)(hn:-1000000000000000000<=n/\n<=1000000000000000000)(w)(ha:bm M a w):
 Kp 199 #[a,n] w (dG (M*n) w):=by
 have g:=h_ ha;obtain⟨la,rfl,_⟩:=ha;have⟨kA,kS,J⟩:=cr w #[decide (M<0),la] 182 #[false,.slice none 0 0] 182;generalize decide (M<0)=sa at *;obtain⟨K,hK⟩:∃K,M*n=K:=⟨_,rfl⟩
 rw[hK];have cB:(dg n.natAbs).length<=40000:=Ui (ff (k:=5) o_) o_;have HK:=h_ hK;have a6:=J.size;go_enter Tryz.func199,Tryz.ntmps199;go_upto_region 1 with fail
 generalize (w.alloc _).alloc _=W,cs:w.heap.size+1=rs at *;have⟨a0,a1⟩:=kA.q2;have bq:=kA.lt;have cz:=kS.lt;have bY:w.heap.size∉[rs]:=u_;refine br [rs] (λ_=>false) (λ_=>True) (ag rs #[false,.slice none 0 0] 182) k_ kS (aD ⟨W,ah.refl _ _,kS⟩ [true,true] 3 aI aA ?_);refine aB 2 (bG (some 7) (λu=>λw'=>ag rs #[false,.slice none 0 0] 182 w'/\Wh W.heap.size n u w') (λu=>aI.and bQ) (λw' hO hD=>(ft n hn w').mono λe w2 ⟨v,h1,h2,h3⟩=>⟨v,h1,.of_below h3,hD.next h3,h2.le hO.size⟩) (λu hne=>?_));refine ao (aB 3 ?_);refine bG (some 8) (λu2=>λw'=>ag rs #[false,.slice none 0 0] 182 w'/\Wh W K u2 w') (λu2=>aI.and bQ) (λw' hO hD=>(jb M n _ _ hM cB _ (g.out.belowZ (hO.belowGe (B:=w.heap.size) J a6 u_)) hD.2.rd).mono λe w2 ⟨v,h1,h2,h3⟩=>⟨v,h1,.of_below h3,hD.1.next h3,HK.out▸h2.le hO.size⟩) (λu2 hne=>?_);refine ao ?_;obtain⟨w9,_,_,cv,rfl,az⟩:=id hne;obtain⟨sl,H,rfl,_⟩:=id az.1;refine aB 4 (fm (v:=.agg #[decide (K<0),.slice sl (dg K.natAbs).length H]) rs (#[false,.slice none 0 0]) (λw'=>ag rs #[decide (K<0),.slice sl (dg K.natAbs).length H] 182 w'/\aW w' W.heap.size (.slice sl (dg K.natAbs).length H) (dg K.natAbs)) (.inr s_) (λ_ hd=>hd.1) (aI.and (λ_ _ h hb=>⟨h.1.below hb,λhn=>(h.2 hn).below hb⟩)) (λw1 w2 hd Z hb=>⟨hb,hd.2.rdO.over Z u_⟩) (λhne=>?_));refine cV λWz a7 aX=>?_;have aM:=a7.belowGe (B:=w.heap.size) J a6 u_;have⟨q0,q1⟩:=aX.1.q2;have cA:=aX.2.le a6;go_wp2;exact Uh (v:=.agg #[decide (K<0),.slice sl (dg K.natAbs).length H]) (by simp [results,Tryz.results199,go_sem,q0,q1]) rfl uV
def Of(a:Int)(ha:sn a)(w):
 Rw 254 #[a,(2:Int)] w (a / 2:Int):=by
 obtain⟨e1,b1,b2⟩:(a / 2=if a.tmod 2<0 then a.tdiv 2 - 1 else a.tdiv 2)/\(-1<=a.tmod 2/\a.tmod 2<=1)/\(-1000000000<=a.tdiv 2/\a.tdiv 2<=1000000000):=by
  rcases UF a 0 with h|h
  .obtain⟨n,hn,h0⟩:∃n:Int,a=-n/\0<=n:=⟨-a,by omega,by omega⟩
   subst hn;rw[Int.neg_tmod,Int.neg_tdiv,Vv h0,VP h0];refine⟨?_,by omega,by omega⟩;split<;>omega
  .rw[Vv h,VP h];refine⟨?_,by omega,by omega⟩;split<;>omega
 have e2:IntKind.i64.wrap (a.tdiv 2)=a.tdiv 2:=by rw[Wj];unfold wrap64;omega
 have e3:IntKind.i64.wrap (a.tmod 2)=a.tmod 2:=by rw[Wj];unfold wrap64;omega
 by_cases h:a.tmod 2<0
 .rw[Um h] at e1;exact Jr
 .rw[Uj h] at e1;exact Jr
def Sf{M N}:(M<0->¬N<0->dn M N=-1)/\(¬M<0->N<0->dn M N=1)/\(M<0->N<0->dn N.natAbs M.natAbs=dn M N)/\(¬M<0->¬N<0->dn M.natAbs N.natAbs=dn M N):=by
 unfold dn;refine⟨λh1 h2=>?_,λh1 h2=>?_,λh1 h2=>?_,λh1 h2=>?_⟩<;>(repeat' split)<;>omega
def LV(M N)(a b)(hM:(dg M.natAbs).length<=100000)(hN:(dg N.natAbs).length<=100000)(w)(ha:bm M a w)(hb:bm N b w):
 Rv 255 #[a,b] w (dn M N):=by
 obtain⟨la,rfl,a3⟩:=ha;obtain⟨lb,rfl,ac⟩:=hb;have⟨c1,c2,c3,c4⟩:=@Sf M N;have F:=h_ (λ(na nb:Bool) (W:World) (hb:Below w w W)=>wu na nb la lb (dg M.natAbs) (dg N.natAbs) hM (eo _) (eo _) (pV _) (pV _) W (a3.below hb) (ac.below hb));have g:=h_ (λ(na nb:Bool) (W:World) (hb:Below w w W)=>wu nb na lb la (dg N.natAbs) (dg M.natAbs) hN (eo _) (eo _) (pV _) (pV _) W (ac.below hb) (a3.below hb));rw[ep,ep] at F g;obtain⟨-,-,J⟩:=oh w #[decide (M<0),la] 182 #[decide (N<0),lb] 182;have bi:=J.size;by_cases hm:M<0<;>by_cases hn:N<0
 .have E:=c3 hm hn;rw[E] at g;generalize dn M N=K at *;simp only[hm,hn,Xp] at J bi ⊢;have HB:=h_ J;go_enter Tryz.func255,Tryz.ntmps255;go_wp2_with fail
  refine ai (g.out _ _ _ HB.out) λw2 U=>?_;go_wp2;go_ret;exact⟨rfl,af U bi HB.out⟩
 .have E:=c1 hm hn;exact GE
 .have E:=c2 hm hn;exact GE
 .have E:=c4 hm hn;rw[E] at F;generalize dn M N=K at *;simp only[hm,hn,Wx] at J bi ⊢;have HB:=h_ J;go_enter Tryz.func255,Tryz.ntmps255;go_wp2_with fail
  refine ai (F.out _ _ _ HB.out) λw2 U=>?_;go_wp2;go_ret;exact⟨rfl,af U bi HB.out⟩
def DE{S:List Int}{j}(h:j<S.length)(v)(k):(S.set j v)[k]?.getD 0=if j=k then v else S[k]?.getD 0:=by
 rw[List.getElem?_set];split
 .rename_i e;subst e;simp
 .rfl
structure Su (a b:List Int)(n i k:Nat)(x:Int)(S:List Int):Prop where
 len:S.length=n
 bd:∀j:Nat,0<=S[j]?.getD 0/\S[j]?.getD 0<=((i:Int)+1)*99980001
 tl:∀j:Nat,i+k<=j->S[j]?.getD 0<=(i:Int)*99980001
 eq:vl S=vl (a.take i)*vl b+10000 ^ i*(x*vl (b.take k))
def Su.step{a b}{n i k}{x y s}{S}(h:Su a b n i k x S)(hk:i+k<n)(hx:0<=x/\x<=9999)(hb:Dg b)(hs:S[i+k]?.getD 0=s)(hy:b[k]?.getD 0=y):Su a b n i (k+1) x (S.set (i+k) (s+x*y)):=by
 have ae:=hb.adi k;rw[hy] at ae;have hm:=tR hx ae;have h1:=h.tl (i+k) (Ug _);have h2:=(h.bd (i+k)).1;rw[hs] at h1 h2;have hl:i+k<S.length:=by rw[h.len];exact hk
 refine⟨by simp [h.len],λj=>?_,λj hj=>?_,?_⟩
 .rw[DE hl];split
  .rw[XG];omega
  .exact h.bd j
 .rw[DE hl,Uj o_];exact h.tl j o_
 .rw[yP hl,hs,h.eq,jd,hy,Int.pow_add,Vj,Vj,VZ x,show s+x*y - s=x*y by omega,Va,XS]
structure So (a b:List Int)(n i:Nat)(S:List Int):Prop where
 len:S.length=n
 bd:∀j:Nat,0<=S[j]?.getD 0/\S[j]?.getD 0<=(i:Int)*99980001
 eq:vl S=vl (a.take i)*vl b
def So.start{a b}(n):So a b n 0 (List.replicate n 0):=by
 refine⟨by simp,λj=>?_,by rw[xM];simp [vl]⟩;have:(List.replicate n (0:Int))[j]?.getD 0=0:=by
  rw[List.getElem?_replicate];split<;>rfl
 rw[this];omega
def So.su{a b}{n i}{S}(h:So a b n i S)(x):Su a b n i 0 x S:=
 ⟨h.len,λj=>by have:=h.bd j;omega,λj _=>(h.bd j).2,by rw[h.eq];simp [vl]⟩
def Su.so{a b}{n i}{x}{S}(h:Su a b n i b.length x S)(hx:a[i]?.getD 0=x):So a b n (i+1) S:=
 ⟨h.len,λj=>by have:=h.bd j;rw[Int.natCast_add];exact this,by rw[h.eq,i_ b (Ug _),jd,hx,XG,Va]⟩
structure Ca (S:List Int)(Bd:Int)(i:Nat)(O:List Int)(c:Int):Prop where
 len:O.length=i
 dg:Dg O
 lo:0<=c
 hi:c<=Bd
 eq:vl O+c*10000 ^ i=vl (S.take i)
def Ca.start{S}{Bd}(h:0<=Bd):Ca S Bd 0 [] 0:=⟨rfl,λx hx=>by simp at hx,by omega,h,by simp [vl]⟩
def Ca.step{S}{Bd s c}{i}{O}(h:Ca S Bd i O c)(hs:S[i]?.getD 0=s)(hb:0<=s/\s<=Bd):Ca S Bd (i+1) (O++[(s+c) % 10000]) ((s+c) / 10000):=by
 have H:=h.lo;have g:=h.hi;refine⟨by simp [h.len],h.dg.snoc o_,by omega,by omega,?_⟩;have he:=h.eq;rw[DM,h.len,jd,hs,UN,VZ,XS,<-Vj,show (s+c) % 10000+(s+c) / 10000*10000=c+s by omega,Vj,Vm _ c];omega
def Ca.done{S}{Bd c V}{n}{O}(h:Ca S Bd n O c)(hl:S.length=n)(hV:vl S=V)(aG:V<10000 ^ n):vl O=V:=by
 have he:=h.eq;rw[i_ S o_,hV] at he;have h2:=h.dg.nn;have H:=h.lo;have G:=po n;rcases (by omega:0<c\/c=0) with hc|hc
 .exfalso;have:=Vh (show (1:Int)<=c by omega) (show (0:Int)<=10000 ^ n by omega);rw[Wf] at this;omega
 .subst hc;rw[Ys,VG] at he;exact he
def S0{S O:List Int}{i}(h:O.length=i):(O++S.drop i)[i]?.getD 0=S[i]?.getD 0:=by
 rw[Vk o_,h,V7,VR];rfl
def Tb{S O:List Int}{i}(h:O.length=i)(hi:i<S.length)(d):(O++S.drop i).set i d=(O++[d])++S.drop (i+1):=by
 rw[WQ,Uj o_,h,V7,Vq hi,UV,U5];rfl
def Ty{S O:List Int}{i}(h:O.length=i)(hi:i<=S.length):(O++S.drop i).length=S.length:=by simp;omega
def D0(M N)(a b)(hM:(dg M.natAbs).length<=40000)(hN:(dg N.natAbs).length<=40000)(w)(ha:bm M a w)(hb:bm N b w):
 Kp 317 #[a,b] w (dG (M*N) w):=by
 obtain⟨la,rfl,a3⟩:=ha;obtain⟨lb,rfl,ac⟩:=hb;have⟨kA,kB,kS,J⟩:=fh w #[decide (M<0),la] 182 #[decide (N<0),lb] 182 #[false,.slice none 0 0] 182;have a5:=h_ a3;have bx:=h_ ac;generalize bX:decide (M<0)=sa,bp:decide (N<0)=sb at *;have aM:=h_ (Er (h_ bX) (h_ bp));obtain⟨K,hK⟩:∃K,M*N=K:=⟨_,rfl⟩
 have HV:Hid (vl (dg M.natAbs)*vl (dg N.natAbs)=K.natAbs):=by
  show _=_;rw[ep,ep,<-hK,U8,Yc]
 rw[hK] at aM ⊢;clear hK;have cG:=eo M.natAbs;have F:=eo N.natAbs;generalize dg M.natAbs=A,dg N.natAbs=B at *;have a6:=J.size;obtain⟨aa,ca,rfl,_,_⟩:=a3;obtain⟨ab,cb,rfl,_,_⟩:=ac;go_enter Tryz.func317,Tryz.ntmps317;go_upto_region 1 with fail
 generalize ((w.alloc _).alloc _).alloc _=W,cs:w.heap.size+1+1=rs at *;have HA:=h_ (a5.out.below J);have HB:=h_ (bx.out.below J);have⟨wm,b6,b3,cm⟩:=qR W (A.length+B.length) o_;simp at b6;have⟨_,a1⟩:=kA.q2;have⟨_,b1⟩:=kB.q2;go_upto_region 2 with fail
 clear b6;have⟨_,cP⟩:=(kA.next cm).q2;generalize hG:W.heap.size=G at *;have HG:=h_ hG;clear hG;have cz:rs<G:=by rw[<-HG.out];exact kS.lt
 have bq:w.heap.size<G:=by rw[<-HG.out];exact kA.lt
 have bZ:w.heap.size+1<G:=by rw[<-HG.out];exact kB.lt
 go_upto_region 3 with fail
 go_loopw [24] (λiv wr=>∃(i:Nat) (S:List Int),i<=A.length/\iv=.int .i64 i/\Hid (So A B (A.length+B.length) i S)/\aq wr G (.slice G (A.length+B.length) (A.length+B.length)) S/\Below G W wr) (λiv _=>A.length - (intOf iv).toNat)
 case atStart=>exact⟨0,List.replicate (A.length+B.length) 0,by omega,rfl,h_ (So.start _),b3,cm⟩
 case round=>
  clear b3 cm cP;obtain⟨i,S,hi,rfl,hS,Z,hb⟩:=hrel;by_cases aG:i<A.length
  .have aF:=cG.adi i;have⟨_,_,e1,_,co⟩:=HA.out;injection e1 with e1 _ e2;subst e1 e2;obtain⟨ga,oa,rfl,q1,bz⟩:=co i aG;have d1:=(hb.cell (p:=⟨ga,oa+i,none⟩) (HG.out▸bz)).trans q1;have bo:=kB.next (HG.out▸hb)
   have⟨_,cA⟩:=bo.q2;generalize ex:A[i]?.getD 0=x at d1 aF;have HX:=h_ ex;clear ex q1 co;go_upto_region 6 with fail
   go_loopw [32] (λkv wr=>∃(k:Nat) (S:List Int),k<=B.length/\kv=.int .i64 k/\Hid (Su A B (A.length+B.length) i k x S)/\aq wr G (.slice G (A.length+B.length) (A.length+B.length)) S/\Below G W wr) (λkv _=>B.length - (intOf kv).toNat)
   case atStart=>exact⟨0,S,by omega,rfl,h_ (hS.out.su x),Z,hb⟩
   case round=>
    clear hS Z bo hb d1 cA;obtain⟨k,S,hk,rfl,hI,Z,hb⟩:=hrel;by_cases cM:k<B.length
    .have hl:=h_ hI.out.len;have cu:i+k<(A.length+B.length):=o_;have s1:=Z.cell (i:=i+k) (by rw[hl.out];exact cu);have f1:=Z.frozen (i+k);have bp:=hI.out.bd (i+k);have cX:((i:Int)+1)*99980001<=5000000000000:=o_;generalize es:S[i+k]?.getD 0=s at s1 bp;obtain⟨gb,ob,rfl,q2,aX⟩:=(by obtain⟨_,_,e1,_,a7⟩:=HB.out;injection e1 with e1 _ e2;subst e1 e2;exact a7 k cM:∃g o,ab=some ⟨g,o,none⟩/\W.cell? ⟨g,o+k,none⟩=some (.int .i64 (B[k]?.getD 0))/\g<W.heap.size)
     have d2:=(hb.cell (p:=⟨gb,ob+k,none⟩) (HG.out▸aX)).trans q2;have ae:=F.adi k;generalize V:B[k]?.getD 0=y at d2 ae;have hm:=tR aF ae;have cT:0<=s/\s<=5000000000000:=o_;have bi:0<=s+x*y:=o_;have b9:=h_ (hI.out.step (y:=y) cu aF F es V);clear es V q2 hI bp cX;go_wp2;go_roundw
     case rel=>exact⟨k+1,S.set (i+k) (s+x*y),by omega,by go_num,b9,Z.setG hl.out.symm (i+k) _,hb.setCell (Ug _) _⟩
     case measure=>exact aO
    .obtain rfl:k=B.length:=by omega
     have b9:=h_ (hI.out.so HX.out);exact Jz
  .obtain rfl:i=A.length:=by omega
   have bv:=h_ hS.out.len;have b5:=h_ hS.out.bd;have cB:Hid (vl S=K.natAbs):=by
    show _=_;rw[hS.out.eq,i_ A (Ug _),HV.out]
   clear hS;have cF:(0:Int)<=(A.length:Int)*99980001:=o_;have b8:(A.length:Int)*99980001<=4000000000000:=o_;obtain⟨Bd,cc⟩:∃Bd,(A.length:Int)*99980001=Bd:=⟨_,rfl⟩
   rw[cc] at b5 cF b8;clear cc;go_upto_region 13 with fail
   go_loopw [10,52] (λcv iv wr=>∃(i:Nat) (c:Int) (O:List Int),i<=(A.length+B.length)/\cv=.int .i64 c/\iv=.int .i64 i/\Hid (Ca S Bd i O c)/\aq wr G (.slice G (A.length+B.length) (A.length+B.length)) (O++S.drop i)/\Below G W wr) (λ_ iv _=>(A.length+B.length) - (intOf iv).toNat)
   case atStart=>exact⟨0,0,[],by omega,rfl,rfl,h_ (Ca.start cF),by simpa using Z,hb⟩
   case round=>
    clear Z hb;obtain⟨i,c,O,cQ,rfl,rfl,hI,Z,hb⟩:=hrel;have b4:=h_ hI.out.len;by_cases a2:i<(A.length+B.length)
    .have cy:Hid ((O++S.drop i).length=(A.length+B.length)):=by
      show _=_;rw[Ty b4.out (by rw[bv.out];exact cQ),bv.out]
     have s1:=Z.cell (i:=i) (by rw[cy.out];exact a2);rw[S0 b4.out] at s1;have f1:=Z.frozen i;have bp:=b5.out i;have a4:=hI.out.lo;have b2:=hI.out.hi;generalize es:S[i]?.getD 0=s at s1 bp;have bi:0<=s+c:=o_;have b9:=h_ (hI.out.step es bp);have b7:=h_ (Tb b4.out (by rw[bv.out];exact a2) ((s+c) % 10000));clear es hI;go_wp2;go_roundw
     case rel=>exact⟨i+1,(s+c) / 10000,O++[(s+c) % 10000],by omega,by go_num,by go_num,b9,by rw[<-b7.out];exact Z.setG cy.out.symm i _,hb.setCell (Ug _) _⟩
     case measure=>exact aO
    .obtain rfl:i=(A.length+B.length):=by omega
     have bY:=hI.out.done bv.out cB.out (by rw[<-HV.out];exact EG cG F (Ug _) (Ug _));rw[Wr (by rw[bv.out];exact Ug _),Vr] at Z;have ba:=kA.next (HG.out▸hb)
     have bo:=kB.next (HG.out▸hb)
     have aZ:=kS.next (HG.out▸hb)
     have cZ:=h_ (mZ hI.out.dg bY rfl);have bs:=Z.rdL;have⟨_,_,e9,_⟩:=id bs;have HT:=h_ ((mc (sa != sb) _ O (by rw[b4.out];omega) wr bs).mono λe w' h=>h.whole (N:=K) aM.out cZ.out);clear bY hI e9 bs;have a0:=ba.q1;have b0:=bo.q1;have U:Below w w wr:=af (HG.out▸hb) a6 J;have a9:=U.size;go_wp2_with fail
     refine HT.out.mono ?_;rintro e w1 ⟨v,rfl,a8,I⟩;obtain⟨lv,rfl,az⟩:=a8;obtain⟨sl,H,rfl,_⟩:=id az.1;have ax:=aZ.next I
     have⟨c0,c1⟩:=ax.q2;have z0:=ax.frozen 0;have z1:=ax.frozen 1;have aL:=af I a9 U;have k9:=(ax.set 0 (decide (K<0))).set 1 (.slice sl (dg K.natAbs).length H);have ad:Below w w ((w1.setCell rs (decide (K<0))).setCell ⟨rs,1,none⟩ (.slice sl (dg K.natAbs).length H)):=(aL.setCell u_ _).setCell u_ _;have bb:=az.set2 (S:=rs) aZ.lt (decide (K<0)) (.slice sl (dg K.natAbs).length H);replace bb:aW _ w _ _:=bb.le a9;clear HT az;go_wp2;generalize (World.setCell (World.setCell _ _ _) _ _)=w9 at ad k9 bb ⊢;have⟨q0,q1⟩:=k9.q2;exact Uh (v:=.agg #[decide (K<0),.slice sl (dg K.natAbs).length H]) (by simp [results,Tryz.results317,go_sem,q0,q1]) rfl uA
def gQ(A B:Int):Nat->Int->Int->Int
 |0,lo,_=>lo
 |f+1,lo,hi=>if lo<hi then (if A<=B*((lo+hi) / 2) then gQ A B f lo ((lo+hi) / 2) else gQ A B f ((lo+hi) / 2+1) hi) else lo
def dR(A B:Int):Int:=gQ A B 20001 (-10000) 10000
def jT(A B:Int):Bool:=B*dR A B==A
theorem pn(A B):∀(f) (lo hi),lo<=hi->lo<=gQ A B f lo hi/\gQ A B f lo hi<=hi
 |0,lo,hi,h=>by unfold gQ;omega
 |f+1,lo,hi,h=>by
  unfold gQ;split
  .split
   .have:=pn A B f lo ((lo+hi) / 2) o_;omega
   .have:=pn A B f ((lo+hi) / 2+1) hi o_;omega
  .omega
def SW{x y}:(0<=dn x y)↔y<=x:=by unfold dn;split;omega;split<;>omega
def ST{x y}:(dn x y==0)=(x==y):=by
 unfold dn;split
 .rw[Wp];simp;omega
 .split
  .rw[Wp];simp;omega
  .rw[Wp];simp;omega
def S7{B m}(hB:B.natAbs<10000 ^ 60)(hm:a_ m):(dg (B*m).natAbs).length<=100000:=by
 refine Ui (ff (k:=62) ?_) o_;rw[U8];have h1:m.natAbs<=10000:=o_;have h2:B.natAbs*m.natAbs<=10000 ^ 60*10000:=V5 o_ h1;omega
def LZ(A B)(a b)(hA:A.natAbs<10000 ^ 60)(hB:B.natAbs<10000 ^ 60)(w)(ha:bm A a w)(hb:bm B b w):
 Rv 198 #[a,b,(10000:Int)] w (.tuple #[dR A B,.bool (jT A B)]):=by
 have F:(dg A.natAbs).length<=100000:=Ui (ff hA) o_;have Z:(dg B.natAbs).length<=40000:=Ui (ff hB) o_;have HT:=h_ (λ(n:Int) (W:World) (hn:a_ n) (aL:Below w w W)=>BC B n b Z o_ W ((h_ hb).out.below aL));have HC:=h_ (λ(n:Int) (u:Value) (W:World) (hn:a_ n) (aL:Below w w W) (hu:bm (B*n) u W)=>LV (B*n) A u a (S7 hB hn) F W hu ((h_ ha).out.below aL));obtain⟨la,rfl,_⟩:=ha;obtain⟨lb,rfl,_⟩:=hb;have⟨kA,kB,J⟩:=cr w #[decide (A<0),la] 182 #[decide (B<0),lb] 182;have HV:Hid (∀lo hi f,gQ A B f lo hi=dR A B->¬lo<hi->lo=dR A B):=h_ (λlo hi f h hn=>by
  cases f with
  |zero=>exact h
  |succ f=>unfold gQ at h;rw[Uj hn] at h;exact h)
 have hV:Hid (dR A B=gQ A B 20001 (-10000) 10000):=rfl;have HO:Hid (jT A B=(B*dR A B==A)):=rfl;have cy:-10000<=dR A B/\dR A B<=10000:=pn A B _ _ _ o_;generalize decide (A<0)=sa,decide (B<0)=sb,dR A B=V,jT A B=O at *;have a6:=J.size;go_enter Tryz.func198,Tryz.ntmps198;go_upto_region 1 with fail
 generalize (w.alloc _).alloc _=W at *;have l1:=kA.lt;have l2:=kB.lt;generalize ab:w.heap.size=rA at *;generalize aa:rA+1=rB at *;go_wp2;go_loopw [8,9] (λx y wr=>∃(lo hi:Int) (f:Nat),x=.int .i64 lo/\y=.int .i64 hi/\(-10000<=lo/\lo<=hi/\hi<=10000)/\hi - lo<(f:Int)/\Hid (gQ A B f lo hi=V)/\Below W W wr) (λx y _=>(intOf y - intOf x).toNat)
 case atStart=>exact⟨-10000,10000,20001,rfl,rfl,by omega,by omega,by show _=_;rw[hV.out],Uk _ _⟩
 case round=>
  obtain⟨lo,hi,f,rfl,rfl,hr,hf,HF,a8⟩:=hrel;have I:=kA.next a8
  have G:=kB.next a8
  have lA:=I.lt;have lB:=G.lt;have ba:=af a8 o_ J;by_cases aG:lo<hi
  .have hm:lo<=(lo+hi) / 2/\(lo+hi) / 2<hi:=o_;obtain⟨g,rfl⟩:∃g,f=g+1:=⟨f - 1,by omega⟩
   have HS:Hid ((A<=B*((lo+hi) / 2)->gQ A B g lo ((lo+hi) / 2)=V)/\(¬A<=B*((lo+hi) / 2)->gQ A B g ((lo+hi) / 2+1) hi=V)):=by
    have h:=HF.out;unfold gQ at h;rw[Um aG] at h;exact⟨λh1=>by rw[Um h1] at h;exact h,λh1=>by rw[Uj h1] at h;exact h⟩
   have HM:=h_ (Of (lo+hi) o_);generalize (lo+hi) / 2=mid at *;go_wp2_with fail
   refine (HM.out _).mono ?_;rintro e _ ⟨rfl,rfl⟩;have⟨a0,a1⟩:=I.q2;have⟨b0,b1⟩:=G.q2;go_upto_region 4 with fail
   obtain⟨cv,a9⟩:∃cv,dn (B*mid) A=cv:=⟨_,rfl⟩
   have HG:Hid (0<=cv↔A<=B*mid):=by rw[<-a9];exact SW
   have K:=h_ a9;refine br [] (λ_=>false) (λ_=>True) (λ_=>True) k_ (trivial) (aD ⟨wr.drew,(ah.refl _ _).drew,trivial⟩ [ae,ae,ac,ae] 3 an aA ?_);refine aB 2 (bG (some 23) (λu=>λw'=>bm (B*mid) u w') (λu=>λ_ _ h hb=>h.below hb) (λw' hO hD=>(HT.out mid w' o_ (af hO.below o_ ba)).mono λe w2 ⟨v,h1,h2,h3⟩=>⟨v,h1,.of_below h3,h2.rd⟩) (λu hne=>?_));refine ao (aB 4 ?_);refine lO (v:=.int .i64 cv) (some 25) (λ_=>True) r_ r_ r_ (λ_=>by go_simp) an (λw' hO hD=>(HC.out mid u w' o_ (af hO.below o_ ba) hD).mono λe w2 h=>⟨K.out▸h.1,.of_below h.2,trivial⟩) (λhne=>?_);refine ao ?_;refine aD hne [ac,ac,ac,ac,ac,ae] 0 an aA ?_;refine cV λWz a7 aX=>?_;have aM:=af a7.below a8.size a8;by_cases U:0<=cv
   .have cm:=HG.out.1 U;have HN:=h_ (HS.out.1 cm);go_wp2;go_roundw
    case rel=>exact⟨lo,mid,g,rfl,rfl,by omega,by omega,HN,aM⟩
    case measure=>exact aO
   .have cm:¬A<=B*mid:=λh=>U (HG.out.2 h);go_wp2;go_roundw
    case rel=>exact⟨mid+1,hi,g,by go_num,rfl,by omega,by omega,(h_ (HS.out.2 (Int.not_le.1 cm))),aM⟩
    case measure=>exact aO
  .have H:=HV.out lo hi f HF.out (XX.1 aG);subst H;have⟨a0,a1⟩:=I.q2;have⟨b0,b1⟩:=G.q2;obtain⟨cv,a9⟩:∃cv,dn (B*lo) A=cv:=⟨_,rfl⟩
   have HG:Hid ((cv==0)=O):=by rw[<-a9,HO.out];exact ST
   go_upto_region 7 with fail
   refine br [] (λ_=>false) (λ_=>True) (λ_=>True) k_ (trivial) (aD ⟨wr.drew,(ah.refl _ _).drew,trivial⟩ [ae,ae,ae,ac,ae] 5 an aA ?_);refine aB 3 (bG (some 33) (λu=>λw'=>bm (B*lo) u w') (λu=>λ_ _ h hb=>h.below hb) (λw' hO hD=>(HT.out lo w' o_ (af hO.below o_ ba)).mono λe w2 ⟨v,h1,h2,h3⟩=>⟨v,h1,.of_below h3,h2.rd⟩) (λu hne=>?_));refine ao (aB 5 ?_);refine lO (v:=.int .i64 cv) (some 35) (λ_=>True) r_ r_ r_ (λ_=>by go_simp) an (λw' hO hD=>(HC.out lo u w' o_ (af hO.below o_ ba) hD).mono λe w2 h=>⟨(h_ a9).out▸h.1,.of_below h.2,trivial⟩) (λhne=>?_);refine ao ?_;refine aD hne [ac,ac,ac,ac,ac,ac,ae,ae,ae] 0 an aA ?_;refine cV λWz a7 aX=>?_;have aM:=af a7.below o_ ba;have hg:=HG.out;generalize (cv==0)=Q at *;subst hg;go_wp2;go_ret2;exact⟨rfl,aM⟩
def PK(M n:Int)(a)(hM:(dg M.natAbs).length<=40000)(hn:-1000000000000000000<=n/\n<=1000000000000000000)(w)(ha:bm M a w):
 Kp 318 #[a,n] w (dG (M*n) w):=by
 have g:=h_ ha;have ac:(dg n.natAbs).length<=5:=ff o_;obtain⟨la,rfl,_⟩:=ha;have⟨kA,kS,J⟩:=cr w #[decide (M<0),la] 182 #[false,.slice none 0 0] 182;generalize decide (M<0)=sa at *;obtain⟨K,hK⟩:∃K,M*n=K:=⟨_,rfl⟩
 rw[hK];have HK:=h_ hK;have HN:=h_ (rf n hn);have a6:=J.size;go_enter Tryz.func318,Tryz.ntmps318;go_upto_region 1 with fail
 generalize (w.alloc _).alloc _=W,cs:w.heap.size+1=rs at *;have⟨a0,a1⟩:=kA.q2;have bq:=kA.lt;have cz:=kS.lt;have bY:w.heap.size∉[rs]:=u_;refine br [rs] (λ_=>false) (λ_=>True) (ag rs #[false,.slice none 0 0] 182) k_ kS (aD ⟨W,ah.refl _ _,kS⟩ [true,true] 3 aI aA ?_);refine aB 2 (bG (some 7) (λu=>λw'=>ag rs #[false,.slice none 0 0] 182 w'/\Wh W.heap.size n u w') (λu=>aI.and bQ) (λw' hO hD=>(HN.out _).mono λe w2 ⟨v,h1,h2,h3⟩=>⟨v,h1,.of_below h3,hD.next h3,h2.le hO.size⟩) (λu hne=>?_));refine ao (aB 3 ?_);refine bG (some 8) (λu2=>λw'=>ag rs #[false,.slice none 0 0] 182 w'/\Wh W K u2 w') (λu2=>aI.and bQ) (λw' hO hD=>(D0 M n _ _ hM o_ _ (g.out.below0 (hO.belowGe (B:=w.heap.size) J a6 u_)) hD.2.rd).mono λe w2 ⟨v,h1,h2,h3⟩=>⟨v,h1,.of_below h3,hD.1.next h3,HK.out▸h2.le hO.size⟩) (λu2 hne=>?_);refine ao ?_;obtain⟨w9,_,_,cv,rfl,az⟩:=id hne;obtain⟨sl,H,rfl,_⟩:=id az.1;refine aB 4 (fm (v:=.agg #[decide (K<0),.slice sl (dg K.natAbs).length H]) rs (#[false,.slice none 0 0]) (λw'=>ag rs #[decide (K<0),.slice sl (dg K.natAbs).length H] 182 w'/\aW w' W.heap.size (.slice sl (dg K.natAbs).length H) (dg K.natAbs)) (.inr s_) (λ_ hd=>hd.1) (aI.and (λ_ _ h hb=>⟨h.1.below hb,λhn=>(h.2 hn).below hb⟩)) (λw1 w2 hd Z hb=>⟨hb,hd.2.rdO.over Z u_⟩) (λhne=>?_));refine cV λWz a7 aX=>?_;have aM:=a7.belowGe (B:=w.heap.size) J a6 u_;have⟨q0,q1⟩:=aX.1.q2;have cA:=aX.2.le a6;go_wp2;exact Uh (v:=.agg #[decide (K<0),.slice sl (dg K.natAbs).length H]) (by simp [results,Tryz.results318,go_sem,q0,q1]) rfl uV
noncomputable def f_(A B X1 Y1 E1 n m T D:Int):Nat->Int->Option (Int×Int×Int)
 |0,_=>none
 |f+1,e=>if jT (T*(e*e)) D=true/\ar (dR (T*(e*e)) D) e=1/\ce (cvV A B (dR (T*(e*e)) D) e)=true then
   some (dR (T*(e*e)) D,(if decide (n*(X1*e*e - dR (T*(e*e)) D*E1*E1)*E1 - Y1*m*e*e<0)=decide (m<0) then ap (cvV A B (dR (T*(e*e)) D) e) else -ap (cvV A B (dR (T*(e*e)) D) e)),e)
  else f_ A B X1 Y1 E1 n m T D f (e+1)
def cj:Option (Int×Int×Int)->Value
 |some (x,y,e)=>.tuple #[.agg #[.int .i64 x,.int .i64 y,.int .i64 e],.bool true]
 |none=>.tuple #[.agg #[.int .i64 0,.int .i64 0,.int .i64 0],.bool false]
def nA{q}(h:-4000000000000<=q/\q<=4000000000000):0<=ap q/\ap q<=2000001:=by
 refine⟨kZ q,?_⟩;by_cases h0:0<=q
 .exact U_ (nQ (b:=2000001) h0 o_ o_)
 .have e:ap q=0:=by
   unfold ap;rw[show q.toNat=0 by omega];simp [rt]
  omega
noncomputable def sw(A B X1 Y1 E1 X2 Y2 E2:Int):Option (Int×Int×Int):=f_ A B X1 Y1 E1 (fM A X1 Y1 E1 X2 Y2 E2) (eJ A X1 Y1 E1 X2 Y2 E2) (dK (fM A X1 Y1 E1 X2 Y2 E2) (eJ A X1 Y1 E1 X2 Y2 E2) X1 E1 X2 E2) (fb (eJ A X1 Y1 E1 X2 Y2 E2) E1 E2) 20 1
theorem Dx{A B X1 Y1 E1 n m T D}(hA:bj A)(hB:a_ B):∀(f:Nat) (e:Int) (r:Int×Int×Int),1<=e->e+f<=21->f_ A B X1 Y1 E1 n m T D f e=some r->eC A B r.1 r.2.1 r.2.2
 |0,e,r,_,_,h=>by unfold f_ at h;cases h
 |f+1,e,r,h1,h2,h=>by
  unfold f_ at h;split at h
  .rename_i hc;have hx:-10000<=dR (T*(e*e)) D/\dR (T*(e*e)) D<=10000:=pn _ _ _ _ _ o_;have he:1<=e/\e<=20:=o_;have hr:=nA (ly hA hB hx he);have hq:=eq_of_beq hc.2.2;cases h;refine⟨hx,he,hc.2.1,?_,?_⟩
   .dsimp only;split<;>omega
   .dsimp only;split
    .exact hq
    .rw[U6];exact hq
  .exact Dx hA hB f (e+1) r o_ o_ h
def RW{A B X1 Y1 E1 X2 Y2 E2}(hA:bj A)(hB:a_ B){r:Int×Int×Int}(h:sw A B X1 Y1 E1 X2 Y2 E2=some r):eC A B r.1 r.2.1 r.2.2:=Dx hA hB 20 1 r o_ o_ h
noncomputable def dZ(A B:Int)(p q:Int×Int×Int):Option (Int×Int×Int):=
 if p.2.2=0 then some q else if q.2.2=0 then some p else if p.1=q.1/\p.2.1=-q.2.1/\p.2.2=q.2.2 then some (0,0,0) else sw A B p.1 p.2.1 p.2.2 q.1 q.2.1 q.2.2
def EL{A B}{p q r:Int×Int×Int}(hA:bj A)(hB:a_ B)(G:ju A B p.1 p.2.1 p.2.2)(hq:ju A B q.1 q.2.1 q.2.2)(h:dZ A B p q=some r):ju A B r.1 r.2.1 r.2.2:=by
 unfold dZ at h;split at h
 .cases h;exact hq
 .split at h
  .cases h;exact G
  .split at h
   .cases h;exact .inl ⟨rfl,rfl,rfl⟩
   .exact .inr (RW hA hB h)
def Au(h:P:=by
 rcases Z with ⟨h1,h2⟩|⟨h1,h2⟩<;>rw[h1,h2]<;>grind):=h
def TX{x1 y1 x2 s A B x3:Rat}(c1:y1*y1=x1*x1*x1+A*x1+B)(hg:x2*x2+x2*x1+x1*x1+A - s*s*(x2 - x1) - 2*s*y1=0)(h3:x3=s*s - x1 - x2):
 (s*(x1 - x3) - y1)*(s*(x1 - x3) - y1)=x3*x3*x3+A*x3+B:=by
 subst h3;grind
def TD{x1 y1 x2 y2 s A B:Rat}(hd:x2 - x1≠0)(c1:y1*y1=x1*x1*x1+A*x1+B)(c2:y2*y2=x2*x2*x2+A*x2+B)(hs:s*(x2 - x1)=y2 - y1):
 x2*x2+x2*x1+x1*x1+A - s*s*(x2 - x1) - 2*s*y1=0:=by
 have h:(x2 - x1)*(x2*x2+x2*x1+x1*x1+A - s*s*(x2 - x1) - 2*s*y1)=0:=by
  have e:y2=y1+s*(x2 - x1):=by grind
  subst e;grind
 rcases Rat.mul_eq_zero.1 h with h|h
 .exact absurd h hd
 .exact h
def mT{E:Int}(hE:E≠0):(E:Rat)*(E:Rat)⁻¹=1:=Rat.mul_inv_cancel _ (DT hE)
def cx(X E:Int):Rat:=(X:Rat)*(E:Rat)⁻¹*(E:Rat)⁻¹
def cy(Y E:Int):Rat:=(Y:Rat)*(E:Rat)⁻¹*(E:Rat)⁻¹*(E:Rat)⁻¹
def D9(A B X E):(cvV A B X E:Rat)=(X:Rat)*X*X+A*X*E*E*E*E+B*E*E*E*E*E*E:=by
 unfold cvV;push_cast;rfl
def yU{A B X Y E}(h:Y*Y=cvV A B X E)(hE:E≠0):cy Y E*cy Y E=cx X E*cx X E*cx X E+(A:Rat)*cx X E+B:=by
 have e0:=mT hE;have h2:(Y:Rat)*Y=(X:Rat)*X*X+A*X*E*E*E*E+B*E*E*E*E*E*E:=by
  rw[<-D9,<-h];push_cast;rfl
 unfold cx cy;generalize (E:Rat)⁻¹=i at *;generalize (E:Rat)=e at *;have h3:=congrArg (·*(i*i*i*i*i*i)) h2;grind
def RE(A B X){E}(hE:E≠0):(cvV A B X E:Rat)=(E:Rat)*E*E*E*E*E*(cx X E*cx X E*cx X E+(A:Rat)*cx X E+B):=by
 have e0:=mT hE;rw[D9];unfold cx;generalize (E:Rat)⁻¹=i,(E:Rat)=e at *;grind
def Rt{s a b i j x1 x2 y1 y2:Rat}(ha:a*i=1)(hb:b*j=1)(h:s*(a*b*(x2*a*a - x1*b*b))=y2*a*a*a - y1*b*b*b):s*(x2*j*j - x1*i*i)=y2*j*j*j - y1*i*i*i:=by
 have h3:=congrArg (·*(i*i*i*j*j*j)) h;grind
def RJ{s e i x y A:Rat}(he:e*i=1)(h:s*(2*y*e)=3*x*x+A*e*e*e*e):x*i*i*(x*i*i)+x*i*i*(x*i*i)+x*i*i*(x*i*i)+A - s*s*(x*i*i - x*i*i) - 2*s*(y*i*i*i)=0:=by
 have h3:=congrArg (·*(i*i*i*i)) h;grind
def Uc{A B X1 Y1 E1 X2 Y2 E2}(fp:eC A B X1 Y1 E1)(fq:eC A B X2 Y2 E2)(aL:¬(X1=X2/\Y1=-Y2/\E1=E2))(s:Rat)(hs:s*(slD X1 Y1 E1 X2 Y2 E2:Rat)=(slN A X1 Y1 E1 X2 Y2 E2:Rat)):
 cx X2 E2*cx X2 E2+cx X2 E2*cx X1 E1+cx X1 E1*cx X1 E1+A - s*s*(cx X2 E2 - cx X1 E1) - 2*s*cy Y1 E1=0:=by
 have hne:=zh fp fq aL;have z1:=mT (show E1≠0 by have:=fp.2.1;omega);have z2:=mT (show E2≠0 by have:=fq.2.1;omega);by_cases h:X1=X2/\Y1=Y2/\E1=E2
 .obtain⟨rfl,rfl,rfl⟩:=h;unfold slD slN at hs;simp at hs;push_cast at hs;exact RJ z1 hs
 .have ab:=hne;unfold slD at ab;rw[Uj h] at ab;have hd:X2*E1*E1 - X1*E2*E2≠0:=λe=>ab (by rw[e,W_]);have bo:=DT hd;push_cast at bo;refine TD (B:=(B:Rat)) (y2:=cy Y2 E2) ?_ (yU fp.2.2.2.2 (by have:=fp.2.1;omega)) (yU fq.2.2.2.2 (by have:=fq.2.1;omega)) ?_
  .intro e;apply bo;unfold cx at e;generalize (E1:Rat)⁻¹=i,(E1:Rat)=a,(E2:Rat)⁻¹=j,(E2:Rat)=b at *;have h3:=congrArg (·*(a*a*b*b)) e;grind
  .unfold slD slN at hs;rw[Uj h,Uj h] at hs;push_cast at hs;exact Rt z1 z2 hs
def adSd(n m X1 Y1 E1 x e:Int):Int:=n*(X1*e*e - x*E1*E1)*E1 - Y1*m*e*e
def TL{n m i e a b k1 k2 X1 X2 x:Rat}(hm:m*i=1)(he:e*k1=1)(ha:a*k2=1)(h:(n*n*(a*a*b*b)+-(m*m*(X1*b*b+X2*a*a)))*(e*e)=m*m*(a*a*b*b)*x):
 ∀F,b*F=1->x*k1*k1=n*i*(n*i) - X1*k2*k2 - X2*F*F:=by
 intro F hk;have h3:=congrArg (·*(i*i*k2*k2*F*F*k1*k1)) h;grind
def TY{n m i a k2 e k1 X1 Y1 x:Rat}(hm:m*i=1)(ha:a*k2=1)(he:e*k1=1):
 (n*(X1*e*e - x*a*a)*a - Y1*m*e*e)*e=m*a*a*a*(e*e*e*(n*i*(X1*k2*k2 - x*k1*k1) - Y1*k2*k2*k2)):=by
 grind
def TZ{A B X1 Y1 E1 X2 Y2 E2 n m x e}(fp:eC A B X1 Y1 E1)(fq:eC A B X2 Y2 E2)(aL:¬(X1=X2/\Y1=-Y2/\E1=E2))(hm:m≠0)(hs:n*slD X1 Y1 E1 X2 Y2 E2=slN A X1 Y1 E1 X2 Y2 E2*m)(he:e≠0)
 (h:dK n m X1 E1 X2 E2*(e*e)=fb m E1 E2*x):cvV A B x e*((m*E1*E1*E1)*(m*E1*E1*E1))=(adSd n m X1 Y1 E1 x e*e)*(adSd n m X1 Y1 E1 x e*e):=by
 have z1:=mT (show E1≠0 by have:=fp.2.1;omega);have z2:=mT (show E2≠0 by have:=fq.2.1;omega);have g:=mT hm;have F:=mT he;have hsR:(n:Rat)*(m:Rat)⁻¹*(slD X1 Y1 E1 X2 Y2 E2:Rat)=(slN A X1 Y1 E1 X2 Y2 E2:Rat):=by
  have h1:(n:Rat)*(slD X1 Y1 E1 X2 Y2 E2:Rat)=(slN A X1 Y1 E1 X2 Y2 E2:Rat)*m:=by
   rw[<-Rat.intCast_mul,hs,Rat.intCast_mul]
  have h2:=congrArg (·*(m:Rat)⁻¹) h1;grind
 have hg:=Uc fp fq aL _ hsR;have h3:cx x e=(n:Rat)*(m:Rat)⁻¹*((n:Rat)*(m:Rat)⁻¹) - cx X1 E1 - cx X2 E2:=by
  have hh:=by
   have:=congrArg (λk:Int=>(k:Rat)) h;unfold dK fb at this;push_cast at this;exact this
  exact TL g F z1 hh _ z2
 have h4:=TX (yU fp.2.2.2.2 (by have:=fp.2.1;omega)) hg h3;have h5:=RE A B x he;rw[<-h4] at h5;have h6:((adSd n m X1 Y1 E1 x e:Int):Rat)*e=m*E1*E1*E1*(e*e*e*((n:Rat)*(m:Rat)⁻¹*(cx X1 E1 - cx x e) - cy Y1 E1)):=by
  unfold adSd;push_cast;exact (TY (n:=(n:Rat)) (X1:=(X1:Rat)) (Y1:=(Y1:Rat)) (x:=(x:Rat)) g z1 F)
 apply Rat.intCast_inj.1;push_cast;rw[h6,h5];grind
def T5{A B X1 Y1 E1 X2 Y2 E2 n m x e}(fp:eC A B X1 Y1 E1)(fq:eC A B X2 Y2 E2)(aL:¬(X1=X2/\Y1=-Y2/\E1=E2))(hm:m≠0)(hs:n*slD X1 Y1 E1 X2 Y2 E2=slN A X1 Y1 E1 X2 Y2 E2*m)(he:e≠0)
 (h:dK n m X1 E1 X2 E2*(e*e)=fb m E1 E2*x):∃y,y*y=cvV A B x e/\y*(m*E1*E1*E1)=adSd n m X1 Y1 E1 x e*e:=by
 have hk:=TZ fp fq aL hm hs he h;have hE:E1≠0:=by have:=fp.2.1;omega
 have hM:=VB (VB (VB hm hE) hE) hE;generalize m*E1*E1*E1=M,adSd n m X1 Y1 E1 x e*e=S at *;have hd:M∣S:=by
  apply (Int.pow_dvd_pow_iff (n:=2) o_).1;refine⟨cvV A B x e,?_⟩;rw[UN,UN,Xc,Wf,UN,UN,Xc,Wf,<-hk,Vm]
 obtain⟨y,rfl⟩:=hd;refine⟨y,?_,Vm _ _⟩;have g:=VB hM hM;apply Int.eq_of_mul_eq_mul_right g;rw[hk];grind
def qW{n d}(hd:d≠0):ar (bc n d) (aN n d)=1:=by
 have hg:ar n d≠0:=by have:=(nL n d (.inr hd)).1;omega
 have h:=Em hg;unfold bc aN bE;split
 .rw[XA,XA];unfold ar at *;rw[Int.neg_gcd,Int.gcd_neg];exact h
 .exact h
def xY{a b c}(h:ar a b=1)(hd:b∣a*c):b∣c:=by
 have h1:=by
  unfold ar at h;have:Int.gcd a b=1:=by omega
  exact (X7.1 this)
 rw[<-WD,U8] at hd;rw[<-WD];exact h1.dvd_of_dvd_mul_left hd
def Ek{T D a b}(hD:D≠0)(hb:1<=b)(hc:ar a b=1)(h:T*b=D*a):bc T D=a/\aN T D=b:=by
 have⟨k0,k1,k2⟩:=qX (n:=T) hD;have G:=lj (n:=T) hD;have bo:=qW (n:=T) hD;generalize bE T D=k,bc T D=n,aN T D=d at *;subst k1 k2;have e:n*b=d*a:=by
  apply We k0;rw[<-Va,h,Va]
 have d1:=xY bo ⟨a,e⟩;have d2:=xY hc ⟨n,by rw[Vm b,e,Vm]⟩;have l1:=Xs o_ d1;have l2:=Xs o_ d2;have bv:d=b:=o_;subst bv;refine⟨?_,rfl⟩;rw[Vm d a] at e;exact Int.eq_of_mul_eq_mul_right o_ e
theorem xF{T D x}(hD:0<D)(hx:D*x=T):∀(f) (lo hi),lo<=x->x<=hi->(hi - lo).toNat<f->gQ T D f lo hi=x
 |0,lo,hi,_,_,h=>by omega
 |f+1,lo,hi,h1,h2,h3=>by
  unfold gQ;split
  .rename_i hl;have hm:T<=D*((lo+hi) / 2)↔x<=(lo+hi) / 2:=by
    rw[<-hx];constructor
    .intro h;exact Int.le_of_mul_le_mul_left h hD
    .intro h;exact UT h o_
   split
   .rename_i hc;have:=hm.1 hc;exact xF hD hx f lo _ h1 this o_
   .rename_i hc;have:¬x<=(lo+hi) / 2:=λh=>hc (hm.2 h);exact xF hD hx f _ hi o_ h2 o_
  .omega
def Rn{T D x}(hD:0<D)(hb:a_ x)(hx:D*x=T):dR T D=x/\jT T D=true:=by
 have h:dR T D=x:=xF hD hx _ _ _ hb.1 hb.2 o_;refine⟨h,?_⟩;unfold jT;rw[h,hx];simp
def CM{T D}(h:jT T D=true):(-10000<=dR T D/\dR T D<=10000)/\D*dR T D=T:=by
 refine⟨pn _ _ _ _ _ o_,?_⟩;unfold jT at h;exact eq_of_beq h
def ou(A B T D e:Int):Prop:=jT (T*(e*e)) D=true/\ar (dR (T*(e*e)) D) e=1/\ce (cvV A B (dR (T*(e*e)) D) e)=true
def AN(A B X1 Y1 E1 n m x e:Int):Int:=if decide (n*(X1*e*e - x*E1*E1)*E1 - Y1*m*e*e<0)=decide (m<0) then ap (cvV A B x e) else -ap (cvV A B x e)
theorem Ec{A B X1 Y1 E1 n m T D e0}(hc:ou A B T D e0):∀(f:Nat) (e),e<=e0->e0<e+f->(∀k,e<=k->k<e0->¬ou A B T D k)->f_ A B X1 Y1 E1 n m T D f e=some (dR (T*(e0*e0)) D,AN A B X1 Y1 E1 n m (dR (T*(e0*e0)) D) e0,e0)
 |0,e,h1,h2,_=>by omega
 |f+1,e,h1,h2,h3=>by
  unfold f_;by_cases he:e=e0
  .subst he;have bo:=hc;unfold ou at bo;rw[Um bo];rfl
  .have hn:=h3 e o_ o_;unfold ou at hn;rw[Uj hn];exact Ec hc f (e+1) o_ o_ (λk hk=>h3 k o_)
theorem Do{A B X1 Y1 E1 n m T D}:∀(f:Nat) (e:Int),(∀k,e<=k->k<e+f->¬ou A B T D k)->f_ A B X1 Y1 E1 n m T D f e=none
 |0,e,_=>by unfold f_;rfl
 |f+1,e,h=>by
  unfold f_;have hn:=h e o_ o_;unfold ou at hn;rw[Uj hn];exact Do f (e+1) (λk h1 h2=>h k o_ o_)
def TR(n d):(bc n d=n.tdiv (ar n d)/\aN n d=d.tdiv (ar n d))\/(bc n d=-(n.tdiv (ar n d))/\aN n d=-(d.tdiv (ar n d))):=by
 unfold bc aN bE;split
 .exact .inr ⟨XA _ _,XA _ _⟩
 .exact .inl ⟨rfl,rfl⟩
def yI{r y}(h:r*r=y*y):r=y\/r=-y:=by
 have:(r - y)*(r+y)=0:=by grind
 rcases VH.1 this with h|h
 .left;omega
 .right;omega
def Br{a b:Int}(ha:0<a):a*b<0↔b<0:=by
 constructor
 .intro h;rcases UF b 0 with h1|h1
  .exact h1
  .have:=UJ (U_ ha) h1;omega
 .intro h;exact Wd ha h
def Tn{A B X1 Y1 E1 n m x e y}(hE:1<=E1)(he:1<=e)(hm:m≠0)(h1:y*y=cvV A B x e)(h2:y*(m*E1*E1*E1)=adSd n m X1 Y1 E1 x e*e):AN A B X1 Y1 E1 n m x e=y:=by
 have a4:=kZ (cvV A B x e);have hr:ap (cvV A B x e)=y\/ap (cvV A B x e)=-y:=by
  refine yI ?_;rcases Xz 0 y with h|h
  .have:=(oS (n:=y*y) h o_ (by have:(y+1)*(y+1)=y*y+2*y+1:=(by grind);omega))
   rw[<-h1,<-this]
  .have:=(oS (n:=y*y) (r:=-y) o_ (by rw[U6];omega) (by have:(-y+1)*(-y+1)=y*y+2*-y+1:=(by grind);omega))
   rw[<-h1,<-this,U6]
 have hP:0<E1*E1*E1:=UG (UG o_ o_) o_;unfold AN;unfold adSd at h2;generalize n*(X1*e*e - x*E1*E1)*E1 - Y1*m*e*e=S,ap (cvV A B x e)=r at *;have h3:(E1*E1*E1)*(y*m)=e*S:=by rw[Vm e S,<-h2];grind
 have h4:S<0↔y*m<0:=by
  rw[<-Br (a:=e) (b:=S) o_,<-h3,Br hP]
 by_cases hs:S<0
 .have h5:=h4.1 hs;by_cases b8:m<0
  .have hy:0<=y:=by
    rcases UF y 0 with h|h
    .have:=Int.mul_pos_of_neg_of_neg h b8;omega
    .exact h
   simp;omega
  .have hy:y<=0:=by
    rcases UF 0 y with h|h
    .have:=UG h (show 0<m by omega);omega
    .exact h
   simp only[hs,b8,Xp,Wx];simp;omega
 .have h5:0<=y*m:=by
   rcases UF (y*m) 0 with h|h
   .exact absurd (h4.2 h) hs
   .exact h
  by_cases b8:m<0
  .have hy:y<=0:=by
    rcases UF 0 y with h|h
    .have:=Wd h b8;omega
    .exact h
   simp only[hs,b8,Xp,Wx];simp;omega
  .have hy:0<=y:=by
    rcases UF y 0 with h|h
    .have:=Int.mul_neg_of_neg_of_pos h (show 0<m by omega);omega
    .exact h
   simp;omega
def Tc{X1 Y1 E1 n m x e y}(hE:1<=E1)(he:1<=e)(hm:m≠0)(hy:-3000000<=y/\y<=3000000)(h2:y*(m*E1*E1*E1)=adSd n m X1 Y1 E1 x e*e):sv n m X1 Y1 E1 x e=y:=by
 unfold sv;have hV:dw m E1 e≠0:=by
  unfold dw;exact VB (VB (VB hm (VB o_ o_)) o_) o_
 have⟨g0,g1,g2⟩:=qX (n:=dD n X1 E1 x e) hV;have hv:=lj (n:=dD n X1 E1 x e) hV;have k1:y*dw m E1 e*(E1*E1*E1)=e*e*e*(dD n X1 E1 x e*(E1*E1*E1) - Y1*dw m E1 e):=by
  have h3:=congrArg (·*(E1*E1*e*e)) h2;unfold dD dw;unfold adSd at h3;grind
 generalize bE (dD n X1 E1 x e) (dw m E1 e)=k,bc (dD n X1 E1 x e) (dw m E1 e)=u,aN (dD n X1 E1 x e) (dw m E1 e)=v at *;rw[g1,g2] at k1;have k2:y*eK v E1=e*e*e*eD u v Y1 E1:=by
  apply We g0;unfold eK eD;grind
 have hH:eK v E1≠0:=by
  unfold eK;exact VB (VB o_ (VB o_ o_)) o_
 have⟨g0,g1,g2⟩:=qX (n:=eD u v Y1 E1) hH;have hb:=lj (n:=eD u v Y1 E1) hH;have hc:=qW (n:=eD u v Y1 E1) hH;generalize bE (eD u v Y1 E1) (eK v E1)=k,bc (eD u v Y1 E1) (eK v E1)=a,aN (eD u v Y1 E1) (eK v E1)=b at *;rw[g1,g2] at k2;have F:y*b=e*e*e*a:=by
  apply We g0;grind
 have hd:=xY (a:=a) hc ⟨y,by rw[Vm a,<-F,Vm]⟩;have⟨c,bo⟩:=hd;have H:y=a*c:=by
  rw[bo] at F;apply We (show b≠0 by omega);rw[Vm,F];grind
 unfold wj;rw[bo,Xa _ o_,<-H];unfold wrap64;omega
def Sq{n m x e X1 E1 X2 E2}(c4:a_ X1)(dc:a_ X2)(hx:a_ x)(ba:1<=E1)(bq:1<=E2)(he:1<=e)(hm:1<=m)
 (h:dK n m X1 E1 X2 E2*(e*e)=fb m E1 E2*x):n.natAbs<=200*m:=by
 have p1:=UG (show 0<E1 by omega) (show 0<E1 by omega);have p2:=UG (show 0<E2 by omega) (show 0<E2 by omega);have p3:=UG (show 0<e by omega) (show 0<e by omega);have p4:=UG (show 0<m by omega) (show 0<m by omega);have pP:=UG (UG p1 p2) p3;have k:n*n*(E1*E1*(E2*E2)*(e*e))=m*m*(x*(E1*E1*(E2*E2))+X1*(E2*E2*(e*e))+X2*(E1*E1*(e*e))):=by unfold dK fb at h;grind
 have q1:=UG p1 p2;have q2:=UG p2 p3;have q3:=UG p1 p3;generalize hP:E1*E1*(E2*E2)*(e*e)=P at *;have b1:E1*E1*(E2*E2)<=P:=by rw[<-hP];have:=UT (show 1<=e*e by omega) (U_ q1);omega
 have b2:E2*E2*(e*e)<=P:=by
  have:=UT (show 1<=E1*E1 by omega) (U_ q2);have e1:E2*E2*(e*e)*(E1*E1)=P:=by rw[<-hP];grind
  omega
 have b3:E1*E1*(e*e)<=P:=by
  have:=UT (show 1<=E2*E2 by omega) (U_ q3);have e1:E1*E1*(e*e)*(E2*E2)=P:=by rw[<-hP];grind
  omega
 have c1:x*(E1*E1*(E2*E2))<=10000*P:=by
  have h1:=Vh hx.2 (U_ q1);omega
 have c2:X1*(E2*E2*(e*e))<=10000*P:=by
  have h1:=Vh c4.2 (U_ q2);omega
 have c3:X2*(E1*E1*(e*e))<=10000*P:=by
  have h1:=Vh dc.2 (U_ q3);omega
 have d1:n*n*P<=m*m*(30000*P):=by
  rw[k];exact UT o_ (U_ p4)
 have d2:n*n<=m*m*30000:=by
  apply Int.le_of_mul_le_mul_right (a:=P) _ pP;rw[Va (m*m)];exact d1
 have d3:(n.natAbs:Int)*n.natAbs=n*n:=by
  rcases Int.natAbs_eq n with h|h
  .rw[<-h]
  .have:(n.natAbs:Int)=-n:=by omega
   rw[this,U6]
 rcases UF (200*m) n.natAbs with hh|hh
 .exfalso;have:=Ur (U_ hh) (U_ hh) o_ o_;rw[d3] at this;have e:200*m*(200*m)=40000*(m*m):=by grind
  omega
 .exact hh
def Tf{a b:Int}(ha:0<=a)(hb:0<=b)(h:a*a=b*b):a=b:=by
 rcases yI h with h|h<;>omega
def uh{e}(h:0<=e):ap (e*e)=e:=by
 have h1:(e+1)*(e+1)=e*e+2*e+1:=by grind
 exact (oS h o_ o_).symm
def yQ(y):ce (y*y)=true:=by
 unfold ce;have:ap (y*y)*ap (y*y)=y*y:=by
  rcases Xz 0 y with h|h
  .rw[uh h]
  .have:=uh (e:=-y) o_;rw[U6] at this;rw[this,U6]
 rw[this];simp
def Eu{x e}(h:ar x e=1):ar x (e*e)=1:=by
 have h1:Nat.Coprime x.natAbs e.natAbs:=by
  unfold ar at h;have:Int.gcd x e=1:=by omega
  exact this
 have h2:=WF h1 h1;unfold ar Int.gcd;rw[U8];have:Nat.gcd x.natAbs (e.natAbs*e.natAbs)=1:=h2;omega
def Sx{x e}(h:ar x (e*e)=1):ar x e=1:=by
 have h1:Nat.Coprime x.natAbs (e.natAbs*e.natAbs):=by
  unfold ar at h;have:Int.gcd x (e*e)=1:=by omega
  unfold Int.gcd at this;rw[U8] at this;exact this
 have h2:=Nat.Coprime.coprime_mul_right_right h1;unfold ar Int.gcd;have:Nat.gcd x.natAbs e.natAbs=1:=h2;omega
def Ry{A B X1 Y1 E1 X2 Y2 E2}(hA:bj A)(hB:a_ B)(fp:eC A B X1 Y1 E1)(fq:eC A B X2 Y2 E2)(aL:¬(X1=X2/\Y1=-Y2/\E1=E2)):
 oC A X1 Y1 E1 X2 Y2 E2=sw A B X1 Y1 E1 X2 Y2 E2:=by
 have hne:=zh fp fq aL;have ba:=fp.2.1;have bq:=fq.2.1;have hg:ar (slN A X1 Y1 E1 X2 Y2 E2) (slD X1 Y1 E1 X2 Y2 E2)≠0:=by have:=(nL (slN A X1 Y1 E1 X2 Y2 E2) _ (.inr hne)).1;omega
 have bY:slN A X1 Y1 E1 X2 Y2 E2=ar (slN A X1 Y1 E1 X2 Y2 E2) (slD X1 Y1 E1 X2 Y2 E2)*fM A X1 Y1 E1 X2 Y2 E2:=(WJ (Vt _ _)).symm;have cc:slD X1 Y1 E1 X2 Y2 E2=ar (slN A X1 Y1 E1 X2 Y2 E2) (slD X1 Y1 E1 X2 Y2 E2)*eJ A X1 Y1 E1 X2 Y2 E2:=(WJ (Vf _ _)).symm;have hm:eJ A X1 Y1 E1 X2 Y2 E2≠0:=λh=>hne (by rw[cc,h,W_]);have hs:fM A X1 Y1 E1 X2 Y2 E2*slD X1 Y1 E1 X2 Y2 E2=slN A X1 Y1 E1 X2 Y2 E2*eJ A X1 Y1 E1 X2 Y2 E2:=by
  generalize ar (slN A X1 Y1 E1 X2 Y2 E2) (slD X1 Y1 E1 X2 Y2 E2)=g at *;rw[cc,bY];grind
 have Z:(bc (slN A X1 Y1 E1 X2 Y2 E2) (slD X1 Y1 E1 X2 Y2 E2)=fM A X1 Y1 E1 X2 Y2 E2/\aN (slN A X1 Y1 E1 X2 Y2 E2) (slD X1 Y1 E1 X2 Y2 E2)=eJ A X1 Y1 E1 X2 Y2 E2)\/(bc (slN A X1 Y1 E1 X2 Y2 E2) (slD X1 Y1 E1 X2 Y2 E2)=-fM A X1 Y1 E1 X2 Y2 E2/\aN (slN A X1 Y1 E1 X2 Y2 E2) (slD X1 Y1 E1 X2 Y2 E2)=-eJ A X1 Y1 E1 X2 Y2 E2):=TR _ _;have az:=lj (n:=slN A X1 Y1 E1 X2 Y2 E2) hne;have aM:=qW (n:=slN A X1 Y1 E1 X2 Y2 E2) hne;have ad:=λ(x e:Int) (he:e≠0)=>T5 (x:=x) fp fq aL hm hs he;unfold oC sw;rw[Uj hne];generalize bc (slN A X1 Y1 E1 X2 Y2 E2) (slD X1 Y1 E1 X2 Y2 E2)=N,aN (slN A X1 Y1 E1 X2 Y2 E2) (slD X1 Y1 E1 X2 Y2 E2)=D,fM A X1 Y1 E1 X2 Y2 E2=n,eJ A X1 Y1 E1 X2 Y2 E2=m at *;have ac:du N D X1 E1 X2 E2=dK n m X1 E1 X2 E2:=by
  unfold du dK;exact Au
 have aa:dK N D X1 E1 X2 E2=dK n m X1 E1 X2 E2:=by
  unfold dK;exact Au
 have K:fb D E1 E2=fb m E1 E2:=by
  unfold fb;rcases Z with ⟨_,h2⟩|⟨_,h2⟩<;>rw[h2]<;>grind
 have U:dt D E1 E2=fb m E1 E2:=by
  rw[<-K];unfold dt fb;grind
 have ax:∀x e y:Int,y*(m*E1*E1*E1)=adSd n m X1 Y1 E1 x e*e->y*(D*E1*E1*E1)=adSd N D X1 Y1 E1 x e*e:=by
  intro x e y h;unfold adSd at *;exact Au
 have b8:0<fb m E1 E2:=by
  rw[<-K];unfold fb;exact UG (UG o_ o_) (UG (UG (UG o_ o_) o_) o_)
 have I:∀x e:Int,(1<=e/\e<=20)->(-10000<=x/\x<=10000)->dK n m X1 E1 X2 E2*(e*e)=fb m E1 E2*x->D<=8000/\N.natAbs<=200*D:=by
  intro x e he hx h;rw[<-aa,<-K] at h;exact⟨(CR aM fp.1 fq.1 hx ba bq he h).1.2,Sq fp.1 fq.1 hx ba.1 bq.1 he.1 az h⟩
 generalize hT:dK n m X1 E1 X2 E2=T,J:fb m E1 E2=H at *;unfold ow;rw[ac,U];by_cases hx:∃e0 x0:Int,(1<=e0/\e0<=20)/\(-10000<=x0/\x0<=10000)/\ar x0 e0=1/\T*(e0*e0)=H*x0
 .have⟨e0,x0,he,a6,V,hh⟩:=hx;have⟨y,F,aG⟩:=ad x0 e0 o_ hh;have⟨u1,u2⟩:=Ek (T:=T) (D:=H) o_ (show 1<=e0*e0 by have:=UG (show 0<e0 by omega) (show 0<e0 by omega);omega) (Eu V) hh;have⟨s1,s2⟩:=Rn b8 a6 hh.symm;have⟨f1,f2⟩:=I x0 e0 he a6 hh;have ae:-3000000<=y/\y<=3000000:=by
   have hr:=nA (ly hA hB a6 he);have bs:ap (cvV A B x0 e0)*ap (cvV A B x0 e0)=y*y:=by
    have:=yQ y;rw[F] at this;rw[F];exact eq_of_beq this
   rcases yI bs with h|h<;>omega
  have hC:ou A B T H e0:=by
   refine⟨s2,?_,?_⟩
   .rw[s1];exact V
   .rw[s1,<-F];exact yQ y
  rw[Ec hC 20 1 he.1 o_ (λk ab aF hk=>by
   have⟨a1,a2,_⟩:=hk;have⟨_,b2⟩:=CM a1;have⟨_,v2⟩:=Ek (T:=T) (D:=H) o_ (show 1<=k*k by have:=UG (show 0<k by omega) (show 0<k by omega);omega) (Eu a2) b2.symm;have:=Tf (a:=k) (b:=e0) o_ o_ (by rw[<-v2,u2]);omega)]
  rw[s1,Tn ba.1 he.1 hm F aG,u1,u2,uh o_,Uj o_,Um ⟨rfl,he.2,gc a6.1 a6.2⟩,Tc ba.1 he.1 o_ ae (ax _ _ _ aG)]
 .rw[Do 20 1 (λk ab aF hk=>by
   have⟨a1,a2,_⟩:=hk;have⟨b1,b2⟩:=CM a1;exact hx ⟨k,_,by omega,b1,a2,b2.symm⟩)]
  split
  .rfl
  .split
   .rename_i hc;exfalso;have⟨c1,c2,c3⟩:=hc;have⟨g0,g1,g2⟩:=qX (n:=T) (show H≠0 by omega);have G:=lj (n:=T) (show H≠0 by omega);have a4:=kZ (aN T H);have b4:1<=ap (aN T H):=by
     rcases UF 0 (ap (aN T H)) with h|h
     .omega
     .have h0:ap (aN T H)=0:=o_;rw[h0] at c1;omega
    refine hx ⟨ap (aN T H),bc T H,⟨b4,c2⟩,bH c3,Sx (by rw[c1];exact (qW (n:=T) (show H≠0 by omega))),?_⟩;rw[c1];generalize aN T H=d,bc T H=x,bE T H=g at *;rw[g1,g2];grind
   .rfl
def jr(w:World)(v:Value)(K:List Int):Prop:=∃(a:bT) (F:Nat),v=.slice a K.length F/\∀i (_:i<K.length),∃g o lv,a=some ⟨g,o,none⟩/\w.cell? ⟨g,o+i*2,none⟩=some (.bool (decide (K[i]<0)))/\w.cell? ⟨g,o+i*2+1,none⟩=some lv/\bS w lv (dg K[i].natAbs)/\g<w.heap.size
def sm:List Int->Int
 |[]=>0
 |x::l=>x+sm l
theorem El:∀(l) (x),sm (l++[x])=sm l+x
 |[],x=>by simp [sm]
 |y::l,x=>by simp only[V3,sm,El l x];omega
def pr:List Int->Int
 |[]=>1
 |x::l=>x*pr l
theorem Ee:∀(l) (x),pr (l++[x])=pr l*x
 |[],x=>by simp [pr]
 |y::l,x=>by simp only[V3,pr,Ee l x,Va]
def Ud{K:List Int}(h:Hid (∀k,k<=K.length->(dg (sm (K.take k)).natAbs).length<=100000))(k)(hk:k<=K.length):(dg (sm (K.take k)).natAbs).length<=100000:=h.out k hk
def NE(K)(v)(bi:K.length<=1000)(hN:∀i (h:i<K.length),(dg K[i].natAbs).length<=100000)(hP:∀k,k<=K.length->(dg (sm (K.take k)).natAbs).length<=100000)(w)(hv:jr w v K):
 Kp 337 #[v] w (dG (sm K) w):=by
 have HN:=h_ hN;have HP:=h_ hP;have HV:=h_ hv;obtain⟨a,F,rfl,hc⟩:=hv;have HC:=h_ hc;go_enter Tryz.func337,Tryz.ntmps337;go_upto_region 2 with fail
 have⟨kS,kC,J⟩:=cr w #[false,.slice none 0 0] 182 #[false,.slice none 0 0] 182;have G:w.heap.size+2<=((w.alloc (.cells #[false,.slice none 0 0] 182)).alloc (.cells #[false,.slice none 0 0] 182)).heap.size:=s_;generalize (w.alloc _).alloc _=W at *;obtain⟨rc,a1⟩:∃rc,w.heap.size+1=rc:=⟨_,rfl⟩
 have ae:=h_ a1;rw[a1] at kC ⊢;go_upto_region 3 with fail
 go_loopw [9] (λiv wr=>∃(k:Nat) (V:Int) (sl:bT) (H:Nat),k<=K.length/\iv=.int .i64 k/\Hid (V=sm (K.take k))/\ag w #[false,.slice none 0 0] 182 wr/\ag rc #[decide (V<0),.slice sl (dg V.natAbs).length H] 182 wr/\Hid (aW wr (w.heap.size+2) (.slice sl (dg V.natAbs).length H) (dg V.natAbs))/\Below w w wr) (λiv _=>K.length - (intOf iv).toNat)
 case atStart=>exact⟨0,0,none,0,by omega,rfl,rfl,kS,by simpa[iB] using kC,by simp only[Yg,iB];exact⟨⟨none,0,rfl,Ug _,λi hi=>by simp at hi⟩,λh=>absurd rfl h⟩,J⟩
 case round=>
  obtain⟨k,V,sl,H,hk,rfl,hV,kS,kC,hR,hb⟩:=hrel;have bp:=kC.lt;by_cases aG:k<K.length
  .obtain⟨g,o,lv,rfl,q0,q1,hr,hg⟩:=HC.out k aG;have aM:=Ud HP k hk;have Z:=HN.out k aG;have b2:Hid (V+K[k]=sm (K.take (k+1))):=by
    show _=_;rw[UL aG,El,<-hV.out]
   rw[<-hV.out] at aM;generalize K[k]=y at q0 q1 hr Z b2;have d0:=(hb.cell (p:=⟨g,o+k*2,none⟩) hg).trans q0;have d1:=(hb.cell (p:=⟨g,o+k*2+1,none⟩) hg).trans q1;obtain⟨s2,c2,rfl,_⟩:=id hr;have ba:=h_ hr;generalize cv:decide (y<0)=sy at d0;have a4:=h_ cv;go_upto_region 5 with fail
   have kE:=ag.new wr #[sy,.slice s2 (dg y.natAbs).length c2] 182;have a3:=kC.alloc (.cells #[sy,.slice s2 (dg y.natAbs).length c2] 182);have aZ:=kS.alloc (.cells #[sy,.slice s2 (dg y.natAbs).length c2] 182);have a2:Below wr wr (wr.alloc (.cells #[sy,.slice s2 (dg y.natAbs).length c2] 182)):=(Uk _ _).alloc (Ug _) _;have I:Below w w (wr.alloc (.cells #[sy,.slice s2 (dg y.natAbs).length c2] 182)):=hb.alloc hb.size _;have a5:=h_ (hR.out.1.below a2);have bx:=h_ (ba.out.below I);have bo:wr.heap.size<(wr.alloc (.cells #[sy,.slice s2 (dg y.natAbs).length c2] 182)).heap.size:=s_;generalize wr.alloc _=W5 at *;have⟨e0,e1⟩:=kE.q2;have⟨x0,x1⟩:=a3.q2;go_wp2_with fail
   refine (wD V y _ _ aM Z W5 ⟨_,rfl,a5.out⟩ ⟨_,by rw[a4.out],bx.out⟩).mono ?_;rintro e w1 ⟨v,rfl,a8,U⟩;obtain⟨lv,rfl,az⟩:=a8;obtain⟨s9,c9,rfl,_⟩:=id az.1;have ab:=a3.next U
   have ax:=aZ.next U
   have⟨x0,x1⟩:=ab.q2;have z0:=ab.frozen 0;have z1:=ab.frozen 1;have aF:=af U I.size I;have k9:=(ab.set 0 (decide (V+y<0))).set 1 (.slice s9 (dg (V+y).natAbs).length c9);have bs:=ae.out;have aa:rc≠w.heap.size:=o_;have ac:w.heap.size<=rc:=o_;have aX:=(ax.other (p:=rc) aa (decide (V+y<0))).other (p:=⟨rc,1,none⟩) aa (.slice s9 (dg (V+y).natAbs).length c9);have ad:Below w w ((w1.setCell rc (decide (V+y<0))).setCell ⟨rc,1,none⟩ (.slice s9 (dg (V+y).natAbs).length c9)):=(aF.setCell ac _).setCell ac _;have a9:=h_ ((az.set2 (S:=rc) o_ (decide (V+y<0)) (.slice s9 (dg (V+y).natAbs).length c9)).le (base':=w.heap.size+2) o_);go_wp2;go_roundw
   case rel=>exact⟨k+1,V+y,s9,c9,by omega,by go_num,b2,aX,k9,a9,ad⟩
   case measure=>exact aO
  .obtain rfl:k=K.length:=by omega
   have aL:=hV.out;rw[Ve] at aL;have⟨c0,c1⟩:=kC.q2;have⟨s0,s1⟩:=kS.q2;have z0:=kS.frozen 0;have z1:=kS.frozen 1;have a6:=h_ aL;have k9:=(kS.set 0 (decide (V<0))).set 1 (.slice sl (dg V.natAbs).length H);have ad:Below w w ((wr.setCell w (decide (V<0))).setCell ⟨w,1,none⟩ (.slice sl (dg V.natAbs).length H)):=(hb.setCell (Ug _) _).setCell (Ug _) _;have bb:=(hR.out.set2 (S:=w.heap.size) o_ (decide (V<0)) (.slice sl (dg V.natAbs).length H)).le (base':=w.heap.size) o_;clear hR aL hV;go_wp2;generalize (World.setCell (World.setCell _ _ _) _ _)=w9 at ad k9 bb ⊢;have⟨q0,q1⟩:=k9.q2;refine Uh (v:=.agg #[decide (V<0),.slice sl (dg V.natAbs).length H]) (by simp [results,Tryz.results337,go_sem,q0,q1]) rfl ?_;rw[<-a6.out];exact uA
noncomputable def iQ(A B:Int)(p:Int×Int×Int):Nat->Int->Int×Int×Int->Option Int
 |0,_,_=>none
 |f+1,n,now=>match dZ A B now p with
  |none=>none
  |some r=>if r.2.2=0 then some n else iQ A B p f (n+1) r
noncomputable def b_(A B:Int)(p:Int×Int×Int):Option Int:=iQ A B p 12 1 (0,0,0)
def io:Option Int->Value
 |some n=>.tuple #[.int .i64 n,.bool true]
 |none=>.tuple #[.int .i64 0,.bool false]
theorem ug{A B}{p:Int×Int×Int}:∀(f) (n) (now:Int×Int×Int) (k),iQ A B p f n now=some k->n<=k/\k<n+f
 |0,n,now,k,h=>by unfold iQ at h;cases h
 |f+1,n,now,k,h=>by
  unfold iQ at h;split at h
  .cases h
  .split at h
   .cases h;omega
   .have:=ug f (n+1) _ k h;omega
noncomputable def lE(A B x:Int):List (Int×Int×Int):=
 if ce (cvV A B x 1)=true then (if ap (cvV A B x 1)=0 then [(x,0,1)] else if (aP A B).tmod (ap (cvV A B x 1)*ap (cvV A B x 1))=0 then [(x,-ap (cvV A B x 1),1),(x,ap (cvV A B x 1),1)] else []) else []
noncomputable def gR(A B:Int):Nat->Int->List (Int×Int×Int)
 |0,_=>[]
 |f+1,x=>lE A B x++gR A B f (x+1)
noncomputable def fi(A B:Int):List (Int×Int×Int):=gR A B 6001 (-3000)
noncomputable def dC(A B:Int):List (Int×Int×Int):=(0,0,0)::(fi A B).filter λp=>(b_ A B p).isSome
def Qg(A B x):(lE A B x).length<=2:=by
 unfold lE;split
 .split
  .simp
  .split<;>simp
 .simp
theorem pf(A B):∀(f) (x),(gR A B f x).length<=2*f
 |0,x=>by simp [gR]
 |f+1,x=>by
  have h1:=Qg A B x;have h2:=pf A B f (x+1);unfold gR;rw[UE];omega
def QR{A B x}{p:Int×Int×Int}(h:p∈lE A B x):p.1=x/\p.2.2=1/\p.2.1*p.2.1=cvV A B x 1/\(p.2.1=0\/(aP A B).tmod (p.2.1*p.2.1)=0):=by
 unfold lE at h;split at h
 .rename_i hs;have hq:=eq_of_beq hs;split at h
  .rename_i h0;simp at h;subst h;refine⟨rfl,rfl,?_,.inl rfl⟩;rw[h0] at hq;exact hq
  .split at h
   .rename_i hd;simp at h;rcases h with rfl|rfl
    .refine⟨rfl,rfl,?_,.inr ?_⟩
     .show -_*-_=_;rw[U6];exact hq
     .show (aP A B).tmod (-_*-_)=0;rw[U6];exact hd
    .exact⟨rfl,rfl,hq,.inr hd⟩
   .simp at h
 .simp at h
theorem DF{A B}{p:Int×Int×Int}:∀(f) (x),p∈gR A B f x->(x<=p.1/\p.1<x+f)/\p.2.2=1/\p.2.1*p.2.1=cvV A B p.1 1/\(p.2.1=0\/(aP A B).tmod (p.2.1*p.2.1)=0)
 |0,x,h=>by simp [gR] at h
 |f+1,x,h=>by
  unfold gR at h;rcases Vx.1 h with h|h
  .have⟨h1,h2,h3,h4⟩:=QR h;exact⟨by omega,h2,h1▸h3,h4⟩
  .have⟨h1,h2⟩:=DF f (x+1) h;exact⟨by omega,h2⟩
def yH{A B}(hA:bj A)(hB:a_ B){p:Int×Int×Int}(h:p∈fi A B):eC A B p.1 p.2.1 p.2.2:=by
 have⟨h1,h2,h3,_⟩:=DF _ _ h;have hx:-10000<=p.1/\p.1<=10000:=o_;have hv:=ly hA hB hx (e:=1) o_;refine⟨hx,by omega,?_,?_,by rw[h2];exact h3⟩
 .rw[h2];unfold ar;simp
 .constructor
  .rcases UF p.2.1 (-3000000) with hh|hh
   .have:=Ur (show 3000000<=-p.2.1 by omega) (show 3000000<=-p.2.1 by omega) o_ o_;rw[U6] at this;omega
   .exact hh
  .rcases UF 3000000 p.2.1 with hh|hh
   .have:=Ur (show 3000000<=p.2.1 by omega) (show 3000000<=p.2.1 by omega) o_ o_;omega
   .exact hh
def SP{A B}{p:Int×Int×Int}(h:p∈dC A B):p=(0,0,0)\/(p∈fi A B/\(b_ A B p).isSome=true):=by
 unfold dC at h;rcases UM.1 h with h|h
 .exact .inl h
 .have⟨h1,h2⟩:=Yd.1 h;exact .inr ⟨h1,h2⟩
def uO(h:P:=by have q0:=F.cell 0;have q1:=F.cell 1;simp only[U3,UZ,UY] at q0 q1;go_simp):=h
def vS(h:P:=by simp [results,Tryz.results138,go_sem,q0,q1,q2]):=h
def G6(h:P:=by
 refine aR [22] ?_;refine ak.cons ?_ ?_
 .refine bG (some 99) (λu4 w'=>(ag ab #[decide ((n*n*(E1*E1*E2*E2))<0),.slice a4 (dg (n*n*(E1*E1*E2*E2)).natAbs).length K] 182 w')/\(Wh wc.heap.size (dK n m X1 E1 X2 E2) u4 w')) (λu4=>aI.and bQ) (λw' hO ⟨F,b0⟩=>(wD (n*n*(E1*E1*E2*E2)) (-(m*m*(X1*E2*E2+X2*E1*E1))) _ _ f8 eU w' (e0.out w' hO) b0.rd).mono λe w2 ⟨v,h1,h2,h3⟩=>⟨v,h1,.of_below h3,⟨aI w' w2 F h3,h2.le hO.size⟩⟩) (λu4 hne=>?_);refine ao ?_;refine aB 23 ?_;obtain⟨w8,_,bi⟩:=id hne;obtain⟨lz,rfl,bX⟩:Wh wc.heap.size (dK n m X1 E1 X2 E2) u4 w8:=by first|exact bi.1|exact bi.2
  obtain⟨sl,H,rfl,_⟩:=id bX.1;clear bX bi;refine fm (v:=.agg #[decide (dK n m X1 E1 X2 E2<0),.slice sl (dg (dK n m X1 E1 X2 E2).natAbs).length H]) ab #[decide ((n*n*(E1*E1*E2*E2))<0),.slice a4 (dg (n*n*(E1*E1*E2*E2)).natAbs).length K] (λw'=>ag ab #[decide (dK n m X1 E1 X2 E2<0),.slice sl (dg (dK n m X1 E1 X2 E2).natAbs).length H] 182 w'/\bS w' (.slice sl (dg (dK n m X1 E1 X2 E2).natAbs).length H) (dg (dK n m X1 E1 X2 E2).natAbs)) (.inr s_) (λ_ ⟨F,bv⟩=>F) (aI.and (λ_ _ h hb=>h.below hb)) (λ_ _ ⟨F,bv⟩ Z hb=>⟨hb,(bv.rdO.1).overSlot F Z⟩) (λhne=>?_)
  try simp only[Value.cells]
  refine cV λWz a7 aX=>?_
  try dsimp only
  go_wp2
  go_meet
  case rel=>exact⟨⟨_,aX.1,aX.2⟩,a7⟩
 exact ak.nil):=h
def FI(h:P:=by
 try simp only[Value.cells]
 refine cV λWz a7 aX=>?_
 try dsimp only
 go_wp2
 go_meet
 case rel=>exact⟨_,rfl,hr,⟨_,aX.1,aX.2⟩,a7.below⟩):=h
def Ls(h:P:=by
 refine aR [20] ?_;refine ak.cons ?_ ?_
 .refine bG (some 97) (λu2 w'=>(ag ab #[decide ((n*n*(E1*E1*E2*E2))<0),.slice a4 (dg (n*n*(E1*E1*E2*E2)).natAbs).length K] 182 w')/\(Wh wc.heap.size (m*m*(X1*E2*E2+X2*E1*E1)) u2 w')) (λu2=>aI.and bQ) (λw' hO ⟨F,bo⟩=>(jb (m*m) (X1*E2*E2+X2*E1*E1) _ _ eH lS w' (d5.out.below (hO.belowGe (B:=az.heap.size) da.out d6 u_)) bo.rd).mono λe w2 ⟨v,h1,h2,h3⟩=>⟨v,h1,.of_below h3,⟨aI w' w2 F h3,h2.le hO.size⟩⟩) (λu2 hne=>?_);refine ao ?_;refine aR [21] ?_;refine ak.cons ?_ ?_
  .refine bG (some 98) (λu3 w'=>(ag ab #[decide ((n*n*(E1*E1*E2*E2))<0),.slice a4 (dg (n*n*(E1*E1*E2*E2)).natAbs).length K] 182 w')/\(Wh wc.heap.size (-(m*m*(X1*E2*E2+X2*E1*E1))) u3 w')) (λu3=>aI.and bQ) (λw' hO ⟨F,bz⟩=>(qr (m*m*(X1*E2*E2+X2*E1*E1)) _ ed w' bz.rd).mono λe w2 ⟨v,h1,h2,h3⟩=>⟨v,h1,.of_below h3,⟨aI w' w2 F h3,h2.le hO.size⟩⟩) (λu3 hne=>?_);refine ao ?_;exact G6
  exact ak.nil
 exact ak.nil):=h
def J6(h:P:=by
 exact G6):=h
def AB(h:P:=by
 refine ao ?_;refine aR [6] ?_;refine ak.cons ?_ ?_
 .refine bG (some 76) (λu4 w'=>(ag ab #[false,.slice none 0 0] 182 w')/\(Wh az.heap.size (n*n*(E1*E1*E2*E2)) u4 w')) (λu4=>aI.and bQ) (λw' hO ⟨F,b0⟩=>(jb (n*n) (E1*E1*E2*E2) _ _ ez ee w' b0.rd (eb.out.below0' hO.below)).mono λe w2 ⟨v,h1,h2,h3⟩=>⟨v,h1,.of_below h3,⟨aI w' w2 F h3,h2.le hO.size⟩⟩) (λu4 hne=>?_);refine ao ?_;refine aB 8 ?_;obtain⟨w8,_,bi⟩:=id hne;obtain⟨lz,rfl,bX⟩:Wh az.heap.size (n*n*(E1*E1*E2*E2)) u4 w8:=by first|exact bi.1|exact bi.2
  obtain⟨sl,H,rfl,_⟩:=id bX.1;clear bX bi;refine fm (v:=.agg #[decide ((n*n*(E1*E1*E2*E2))<0),.slice sl (dg (n*n*(E1*E1*E2*E2)).natAbs).length H]) ab #[false,.slice none 0 0] (λw'=>ag ab #[decide ((n*n*(E1*E1*E2*E2))<0),.slice sl (dg (n*n*(E1*E1*E2*E2)).natAbs).length H] 182 w'/\bS w' (.slice sl (dg (n*n*(E1*E1*E2*E2)).natAbs).length H) (dg (n*n*(E1*E1*E2*E2)).natAbs)) (.inl hr) (λ_ ⟨F,bv⟩=>F) (aI.and (λ_ _ h hb=>h.below hb)) (λ_ _ ⟨F,bv⟩ Z hb=>⟨hb,(bv.rdO.1).overNew F Z⟩) (λhne=>?_);exact FI
 exact ak.nil):=h
def Ky(h:P:=by
 rw[Uj s_] at hF;subst hF;go_upto_region 25 with fail
 have jR:=V.next aZ
 have z0:=jR.frozen 0;have z1:=jR.frozen 1;have z2:=jR.frozen 2;obtain⟨t0,t1,t2⟩:=jR.q3;have k9:=((jR.set 0 x).set 1 (-rt:Int)).set 2 e;have ad:Below rC w (((w3.setCell ⟨rR,0,none⟩ x).setCell ⟨rR,1,none⟩ (-rt:Int)).setCell ⟨rR,2,none⟩ e):=(((af aZ o_ bb).setCell u_ _).setCell u_ _).setCell u_ _
 (repeat (first|go_skip|go_guarded|go_step))
 generalize (World.setCell (World.setCell (World.setCell _ _ _) _ _) _ _)=w9 at k9 ad ⊢;clear t0 t1 t2 z0 z1 z2;obtain⟨q0,q1,q2⟩:=k9.q3;refine Uh (v:=.tuple #[.agg #[x,(-rt:Int),e],true]) vS rfl ?_;exact⟨rfl,bx▸ad⟩):=h
def Ke(h:P:=by
 rw[Um rfl] at hF;subst hF;go_upto_region 25 with fail
 have jR:=V.next aZ
 have z0:=jR.frozen 0;have z1:=jR.frozen 1;have z2:=jR.frozen 2;obtain⟨t0,t1,t2⟩:=jR.q3;have k9:=((jR.set 0 x).set 1 rt).set 2 e;have ad:Below rC w (((w3.setCell ⟨rR,0,none⟩ x).setCell ⟨rR,1,none⟩ rt).setCell ⟨rR,2,none⟩ e):=(((af aZ o_ bb).setCell u_ _).setCell u_ _).setCell u_ _
 (repeat (first|go_skip|go_guarded|go_step))
 generalize (World.setCell (World.setCell (World.setCell _ _ _) _ _) _ _)=w9 at k9 ad ⊢;clear t0 t1 t2 z0 z1 z2;obtain⟨q0,q1,q2⟩:=k9.q3;refine Uh (v:=.tuple #[.agg #[x,rt,e],true]) vS rfl ?_;exact⟨rfl,bx▸ad⟩):=h
def K5(h:P:=by
 obtain⟨a,F,hv,hm,hc⟩:=h;refine⟨a,F,hv,hm,λi hi=>?_⟩;obtain⟨g,o,ha,q1,q2⟩:=hc i hi;have hg:g≠r:=by
  rintro rfl;rw[hk.cell (o+i)] at q1
  match h0:o+i,q1 with
  |0,q1=>simp at q1
  |1,q1=>simp at q1
  |n+2,q1=>simp at q1
 exact⟨g,o,ha,(Z.cell (p:=⟨g,o+i,none⟩) q2 (by simpa using hg)).trans q1,Un q2 Z.size⟩):=h
def y_(h:P:=by
 clear aL
 (refine bP k_ k_ ?_;(repeat (go_big_quiet_step ((go_at_call 137;exact Calls.quiet_cls an _ (eB.out _)))));refine wpQuiet_nil ?_;intro w8 ca;obtain⟨fz,fy⟩:=bf ca;have ea:=ca.size;(try simp only[Uq] at ea))
 go_wp2
 go_meet
 case rel=>exact⟨rfl,ca⟩):=h
def Ji(h:P:=by
 exact FI):=h
def Rx(A B X1 Y1 E1 X2 Y2 E2:Int)(hA:bj A)(G:iN X1 Y1 E1)(hq:iN X2 Y2 E2)(w:World):
 Rv 193 #[.agg #[A,B],.agg #[X1,Y1,E1],.agg #[X2,Y2,E2]] w (.tuple #[slN A X1 Y1 E1 X2 Y2 E2,slD X1 Y1 E1 X2 Y2 E2]):=by
 by_cases h:X1=X2/\Y1=Y2/\E1=E2
 .rw[(Lq (A:=A) h).1,(Lq (A:=A) h).2];obtain⟨rfl,rfl,rfl⟩:=h;exact MR A B X1 Y1 E1 hA G w
 .rw[(Ln (A:=A) h).1,(Ln (A:=A) h).2];exact MD A B X1 Y1 E1 X2 Y2 E2 G hq h w
def jD(r:Nat)(N:Int)(w:World):Prop:=∃lv,ag r #[decide (N<0),lv] 182 w/\bS w lv (dg N.natAbs)
def jD.below{r:Nat}{N:Int}{w w1:World}(h:jD r N w)(hb:Below w.heap.size w w1):jD r N w1:=by
 obtain⟨lv,h1,h2⟩:=h;exact⟨lv,h1.next hb,h2.below hb⟩
def jD.lt{r:Nat}{N:Int}{w:World}(h:jD r N w):r<w.heap.size:=by
 obtain⟨lv,h1,_⟩:=h;exact h1.lt
def jD.next{r n:Nat}{N:Int}{w w1:World}(h:jD r N w)(hb:Below n w w1)(hn:n=w.heap.size:=by rfl):jD r N w1:=h.below (hn▸hb)
def bm.below0'{N:Int}{v:Value}{w w1:World}(h:bm N v w)(hb:Below w.heap.size w w1):bm N v w1:=h.below hb
def bS.overNew{w w':World}{r:Nat}{v:Value}{L:List Int}(h:bS w v L)(hk:ag r #[false,.slice none 0 0] 182 w)(Z:ah [r] w w'):bS w' v L:=by
 exact K5
def bS.overSlot{w w':World}{r:Nat}{b:Bool}{x:bT}{k c:Nat}{v:Value}{L:List Int}(h:bS w v L)(hk:ag r #[b,.slice x k c] 182 w)(Z:ah [r] w w'):bS w' v L:=by
 exact K5
def Ri(A B X1 Y1 E1 X2 Y2 E2:Int)(hA:bj A)(hB:a_ B)(fp:eC A B X1 Y1 E1)(fq:eC A B X2 Y2 E2)(aL:¬(X1=X2/\Y1=-Y2/\E1=E2))(w:World):
 Rv 138 #[.agg #[A,B],.agg #[X1,Y1,E1],.agg #[X2,Y2,E2]] w (cj (sw A B X1 Y1 E1 X2 Y2 E2)):=by
 obtain⟨hd,hn,hm,c8⟩:=Rj hA fp fq aL;have hs:=h_ c8;clear c8;have h1:E1≠0:=by have:=fp.2.1;omega
 have h2:E2≠0:=by have:=fq.2.1;omega
 have G:iN X1 Y1 E1:=fp.ptIn;have hq:iN X2 Y2 E2:=fq.ptIn;clear fp fq;show Calls _ _ _ _ (λe w'=>e=.returned (cj (f_ A B X1 Y1 E1 (fM A X1 Y1 E1 X2 Y2 E2) (eJ A X1 Y1 E1 X2 Y2 E2) (dK (fM A X1 Y1 E1 X2 Y2 E2) (eJ A X1 Y1 E1 X2 Y2 E2) X1 E1 X2 E2) (fb (eJ A X1 Y1 E1 X2 Y2 E2) E1 E2) 20 1))/\Below w.heap.size w w');have es:=h_ (Rx A B X1 Y1 E1 X2 Y2 E2 hA G hq);have eB:=h_ (sY X2 Y2 E2 hq.2.1);obtain⟨kC,kP,kQ,V,J⟩:=AH w #[A,B] 42 #[X1,Y1,E1] 46 #[X2,Y2,E2] 46 #[(),(),()] 46;have a6:=J.size;obtain⟨c4,cA,ba⟩:=G;obtain⟨dc,c3,bq⟩:=hq;generalize aa:cj (f_ A B X1 Y1 E1 (fM A X1 Y1 E1 X2 Y2 E2) (eJ A X1 Y1 E1 X2 Y2 E2) (dK (fM A X1 Y1 E1 X2 Y2 E2) (eJ A X1 Y1 E1 X2 Y2 E2) X1 E1 X2 E2) (fb (eJ A X1 Y1 E1 X2 Y2 E2) E1 E2) 20 1)=cz;have cb:=h_ aa;clear aa;have e4:Hid (fM A X1 Y1 E1 X2 Y2 E2=(slN A X1 Y1 E1 X2 Y2 E2).tdiv (ar (slN A X1 Y1 E1 X2 Y2 E2) (slD X1 Y1 E1 X2 Y2 E2))):=rfl;have cQ:Hid (eJ A X1 Y1 E1 X2 Y2 E2=(slD X1 Y1 E1 X2 Y2 E2).tdiv (ar (slN A X1 Y1 E1 X2 Y2 E2) (slD X1 Y1 E1 X2 Y2 E2))):=rfl;have bp:(-9000000000000000000<=slN A X1 Y1 E1 X2 Y2 E2/\slN A X1 Y1 E1 X2 Y2 E2<=9000000000000000000)/\(-9000000000000000000<=slD X1 Y1 E1 X2 Y2 E2/\slD X1 Y1 E1 X2 Y2 E2<=9000000000000000000):=by
  exact Kn
 generalize slN A X1 Y1 E1 X2 Y2 E2=n0 at *;generalize slD X1 Y1 E1 X2 Y2 E2=m0 at *;have HG:=h_ (nX n0 m0 bp.1 bp.2);generalize ar n0 m0=d at *;generalize fM A X1 Y1 E1 X2 Y2 E2=n at *;generalize eJ A X1 Y1 E1 X2 Y2 E2=m at *;go_enter Tryz.func138,Tryz.ntmps138;go_upto_region 1 with fail
 generalize (((w.alloc _).alloc _).alloc _).alloc _=W at *;have e5:w.heap.size<=w.heap.size+1+1+1:=o_;generalize w.heap.size+1+1+1=rR at *;generalize w.heap.size+1+1=rQ at *;generalize w.heap.size+1=rP at *;generalize bx:w.heap.size=rC at *;have lC:=kC.lt;have lP:=kP.lt;have lQ:=kQ.lt;have lR:=V.lt;obtain⟨p0,p1,p2⟩:=kP.q3;obtain⟨q0,q1,q2⟩:=kQ.q3;go_upto_region 5 with fail
 go_cut [31] from 175 (λs wc=>s=.bool false/\Below W.heap.size W wc)
 case first=>
  by_cases g1:X1=X2
  .by_cases g2:Y1=-Y2
   .have g3:¬E1=E2:=λh=>aL ⟨g1,g2,h⟩;exact y_
   .exact y_
  .exact y_
 case rest=>
  obtain⟨rfl,cv⟩:=hcut;have bb:=af cv o_ J;replace kC:=kC.next cv
  replace kP:=kP.next cv
  replace kQ:=kQ.next cv
  replace V:=V.next cv
  clear p0 p1 p2 q0 q1 q2 cv J aL eB;have hz:=bb.size;obtain⟨p0,p1,p2⟩:=kP.q3;obtain⟨q0,q1,q2⟩:=kQ.q3;obtain⟨c0,c1⟩:=kC.q2;go_wp2_with fail
  refine ai (es.out _) λw1 I=>?_;replace bb:=af I o_ bb;replace kC:=kC.next I
  replace kP:=kP.next I
  replace kQ:=kQ.next I
  replace V:=V.next I
  clear p0 p1 p2 q0 q1 q2 I;replace hz:=bb.size;obtain⟨p0,p1,p2⟩:=kP.q3;obtain⟨q0,q1,q2⟩:=kQ.q3;clear c0 c1 es;go_wp2_with fail
  refine (HG.out _).mono ?_;rintro e _ ⟨rfl,kk,rfl⟩;have U:=A8 w1 kk;generalize w1.drewN kk=w2 at U ⊢;replace bb:=af U o_ bb;replace kC:=kC.next U
  replace kP:=kP.next U
  replace kQ:=kQ.next U
  replace V:=V.next U
  clear p0 p1 p2 q0 q1 q2 U;replace hz:=bb.size;obtain⟨p0,p1,p2⟩:=kP.q3;obtain⟨q0,q1,q2⟩:=kQ.q3;clear HG;have e1:IntKind.i64.wrap (n0.tdiv d)=n:=by rw[e4.out,Wj];rw[e4.out] at hn;unfold wrap64;omega
  have e2:IntKind.i64.wrap (m0.tdiv d)=m:=by rw[cQ.out,Wj];rw[cQ.out] at hm;unfold wrap64;omega
  have bZ:(d==0)=false:=by simpa using hd
  clear e4 cQ;go_upto_region 9 with fail
  (refine bP k_ k_ ?_;(repeat (go_big_quiet_step (fail)));refine wpQuiet_nil ?_;intro w9 aZ;obtain⟨gY,gl⟩:=bf aZ;have gd:=aZ.size;(try simp only[Uq] at gd))
  replace bb:=af aZ o_ bb;replace kC:=kC.next aZ
  replace kP:=kP.next aZ
  replace kQ:=kQ.next aZ
  replace V:=V.next aZ
  clear p0 p1 p2 q0 q1 q2 aZ;replace hz:=bb.size;obtain⟨p0,p1,p2⟩:=kP.q3;obtain⟨q0,q1,q2⟩:=kQ.q3;clear e1 e2 bZ gY gl bp;have lm:(dg m.natAbs).length<=40000:=Ui (ff (k:=5) o_) o_;have ln:(dg n.natAbs).length<=40000:=Ui (ff (k:=5) o_) o_;have mm:=aJ (x:=m) (y:=m) 3200000000 3200000000 o_ o_;have nn:=aJ (x:=n) (y:=n) 48000000000 48000000000 o_ o_;have eH:(dg (m*m).natAbs).length<=40000:=Ui (ff (k:=5) o_) o_;have ez:(dg (n*n).natAbs).length<=40000:=Ui (ff (k:=6) o_) o_;have f1:=aJ (x:=E1) (y:=E1) 20 20 o_ o_;have fV:=aJ (x:=E1*E1) (y:=E2) 400 20 o_ o_;have gn:=aJ (x:=E1*E1*E2) (y:=E2) 8000 20 o_ o_;have ee:(dg (E1*E1*E2*E2).natAbs).length<=40000:=Ui (ff (k:=5) o_) o_;have e3:=h_ (ft m o_);have f3:=h_ (ft (E1*E1*E2*E2) o_);go_wp2_with fail
  refine (e3.out _).mono ?_;rintro e ha ⟨u1,rfl,bo,c7⟩;replace bb:=af c7 o_ bb;replace kC:=kC.next c7
  replace kP:=kP.next c7
  replace kQ:=kQ.next c7
  replace V:=V.next c7
  clear p0 p1 p2 q0 q1 q2 c7;replace hz:=bb.size;obtain⟨p0,p1,p2⟩:=kP.q3;obtain⟨q0,q1,q2⟩:=kQ.q3;go_wp2_with fail
  refine (e3.out _).mono ?_;rintro e fx ⟨u2,rfl,bz,a5⟩;replace bo:bm m u1 fx:=bo.rd.below a5;replace bb:=af a5 o_ bb;replace kC:=kC.next a5
  replace kP:=kP.next a5
  replace kQ:=kQ.next a5
  replace V:=V.next a5
  clear p0 p1 p2 q0 q1 q2 a5;replace hz:=bb.size;obtain⟨p0,p1,p2⟩:=kP.q3;obtain⟨q0,q1,q2⟩:=kQ.q3;go_wp2_with fail
  refine (jb m m u1 u2 lm lm _ bo bz.rd).mono ?_;rintro e en ⟨u3,rfl,b0,d9⟩;obtain⟨lv,rfl,Z⟩:=b0;obtain⟨sl,H,rfl,-⟩:=id Z.1;have c5:jD en.heap.size (m*m) (en.alloc (.cells #[decide (m*m<0),.slice sl (dg (m*m).natAbs).length H] 182)):=⟨_,ag.new _ _ _,Z.1.below ((Uk _ _).alloc (Ug _) _)⟩
  have cZ:Below fx.heap.size fx (en.alloc (.cells #[decide (m*m<0),.slice sl (dg (m*m).natAbs).length H] 182)):=d9.alloc d9.size _;clear bo bz Z d9;go_upto_region 11 with fail
  generalize en.alloc _=f2 at c5 cZ ⊢;generalize en.heap.size=dq at c5 ⊢;replace bb:=af cZ o_ bb;replace kC:=kC.next cZ
  replace kP:=kP.next cZ
  replace kQ:=kQ.next cZ
  replace V:=V.next cZ
  clear p0 p1 p2 q0 q1 q2 cZ;replace hz:=bb.size;obtain⟨p0,p1,p2⟩:=kP.q3;obtain⟨q0,q1,q2⟩:=kQ.q3;go_wp2_with fail
  refine (f3.out _).mono ?_;rintro e d8 ⟨u4,rfl,bv,em⟩;obtain⟨lv,rfl,Z⟩:=bv;obtain⟨sl,H,rfl,-⟩:=id Z.1;have dx:jD d8.heap.size (E1*E1*E2*E2) (d8.alloc (.cells #[decide (E1*E1*E2*E2<0),.slice sl (dg (E1*E1*E2*E2).natAbs).length H] 182)):=⟨_,ag.new _ _ _,Z.1.below ((Uk _ _).alloc (Ug _) _)⟩
  have cP:Below f2.heap.size f2 (d8.alloc (.cells #[decide (E1*E1*E2*E2<0),.slice sl (dg (E1*E1*E2*E2).natAbs).length H] 182)):=em.alloc em.size _;replace c5:=c5.next cP
  clear Z em;go_upto_region 12 with fail
  generalize d8.alloc _=az at c5 dx cP ⊢;generalize d8.heap.size=cs at dx ⊢;replace bb:=af cP o_ bb;replace kC:=kC.next cP
  replace kP:=kP.next cP
  replace kQ:=kQ.next cP
  replace V:=V.next cP
  clear p0 p1 p2 q0 q1 q2 cP;replace hz:=bb.size;obtain⟨p0,p1,p2⟩:=kP.q3;obtain⟨q0,q1,q2⟩:=kQ.q3;have lP:=kP.lt;have lQ:=kQ.lt;have lR:=V.lt;have lC:=kC.lt;have g8:=c5.lt;have hc:=dx.lt
  go_cut [13] from 175 (λs wc=>∃r:Nat,s=.pointer (some ⟨r,0,none⟩)/\az.heap.size<=r/\jD r (n*n*(E1*E1*E2*E2)) wc/\Below az.heap.size az wc)
  case first=>
   obtain⟨eT,d3,co⟩:=dx;obtain⟨y0,y1⟩:=d3.q2;have eb:Hid (bm (E1*E1*E2*E2) (.agg #[decide (E1*E1*E2*E2<0),eT]) az):=⟨_,rfl,co⟩
   refine br [] (λ_=>false) (λ_=>True) (λw'=>True) k_ (trivial) ?_;refine aD ⟨az.drew,(ah.refl _ _).drew,trivial⟩ [ae,ac,ae,ac,ac,ae] 6 an aA ?_;refine aR [1,7] ?_;refine ak.cons ?_ ?_
   .refine bG (some 71) (λu1 w'=>(Wh az.heap.size n u1 w')) (λu1=>Wh.closed _ _ _) (λw' hO _=>(ft n o_ w').mono λe w2 ⟨v,h1,h2,h3⟩=>⟨v,h1,.of_below h3,h2.le hO.size⟩) (λu1 hne=>?_);refine ao ?_;refine aR [3,7] ?_;refine ak.cons ?_ ?_
    .refine bG (some 73) (λu2 w'=>(Wh az.heap.size n u1 w')/\(Wh az.heap.size n u2 w')) (λu2=>bQ.and bQ) (λw' hO bo=>(ft n o_ w').mono λe w2 ⟨v,h1,h2,h3⟩=>⟨v,h1,.of_below h3,⟨bQ w' w2 bo h3,h2.le hO.size⟩⟩) (λu2 hne=>?_);refine ao ?_;refine aR [4,7] ?_;refine ak.cons ?_ ?_
     .refine bG (some 74) (λu3 w'=>(Wh az.heap.size (n*n) u3 w')) (λu3=>Wh.closed _ _ _) (λw' hO ⟨bo,bz⟩=>(jb n n _ _ ln ln w' bo.rd bz.rd).mono λe w2 ⟨v,h1,h2,h3⟩=>⟨v,h1,.of_below h3,h2.le hO.size⟩) (λu3 hne=>?_);refine ao ?_;refine aR [6,7] ?_;refine ak.cons ?_ ?_
      .refine bG (some 76) (λu4 w'=>(Wh az.heap.size (n*n*(E1*E1*E2*E2)) u4 w')) (λu4=>Wh.closed _ _ _) (λw' hO b0=>(jb (n*n) (E1*E1*E2*E2) _ _ ez ee w' b0.rd (eb.out.below0' hO.below)).mono λe w2 ⟨v,h1,h2,h3⟩=>⟨v,h1,.of_below h3,h2.le hO.size⟩) (λu4 hne=>?_);refine ao ?_;refine aR [7] ?_;refine ak.cons ?_ ?_
       .refine lY (some 13) (λu w'=>∃ab:Nat,u=.pointer (some ⟨ab,0,none⟩)/\az.heap.size<=ab/\(Wh az.heap.size (n*n*(E1*E1*E2*E2)) u4 w')/\(ag ab #[false,.slice none 0 0] 182 w')) r_ r_ r_ (λ_ w1 w2 ⟨r,h,q,d⟩ hb=>⟨r,h,q,(bQ.and aI:aQ _) w1 w2 d hb⟩) (λw' hO bv=>⟨.pointer (some ⟨w'.heap.size,0,none⟩),w'.alloc (.cells #[false,.slice none 0 0] 182),(by go_simp),(ah.refl _ _).alloc _,⟨w'.heap.size,rfl,hO.size,⟨bQ w' _ bv ((Uk _ _).alloc (Ug _) _),ag.new _ _ _⟩⟩⟩) (λu hne=>?_);refine ao ?_;obtain⟨w9,ax,ab,rfl,hr,bs⟩:=hne;refine lM (D2:=λw'=>(Wh az.heap.size (n*n*(E1*E1*E2*E2)) u4 w')/\(ag ab #[false,.slice none 0 0] 182 w')) (λw' ⟨r',db,_,d⟩=>by cases db;exact d) ?_;have hne:∃w1,ah [] az w1/\((Wh az.heap.size (n*n*(E1*E1*E2*E2)) u4 w1)/\(ag ab #[false,.slice none 0 0] 182 w1)):=⟨w9,ax,bs⟩
        clear ax bs;refine aB 8 ?_;obtain⟨w8,_,bi⟩:=id hne;obtain⟨lz,rfl,bX⟩:Wh az.heap.size (n*n*(E1*E1*E2*E2)) u4 w8:=by first|exact bi.1|exact bi.2
        obtain⟨sl,H,rfl,_⟩:=id bX.1;clear bX bi;refine fm (v:=.agg #[decide ((n*n*(E1*E1*E2*E2))<0),.slice sl (dg (n*n*(E1*E1*E2*E2)).natAbs).length H]) ab #[false,.slice none 0 0] (λw'=>ag ab #[decide ((n*n*(E1*E1*E2*E2))<0),.slice sl (dg (n*n*(E1*E1*E2*E2)).natAbs).length H] 182 w'/\bS w' (.slice sl (dg (n*n*(E1*E1*E2*E2)).natAbs).length H) (dg (n*n*(E1*E1*E2*E2)).natAbs)) (.inl hr) (λ_ ⟨bv,F⟩=>F) (aI.and (λ_ _ h hb=>h.below hb)) (λ_ _ ⟨bv,F⟩ Z hb=>⟨hb,(bv.rdO.1).overNew F Z⟩) (λhne=>?_);exact Ji
       exact ak.nil
      refine ak.cons ?_ ?_
      .refine lY (some 13) (λu w'=>∃ab:Nat,u=.pointer (some ⟨ab,0,none⟩)/\az.heap.size<=ab/\(Wh az.heap.size (n*n) u3 w')/\(ag ab #[false,.slice none 0 0] 182 w')) r_ r_ r_ (λ_ w1 w2 ⟨r,h,q,d⟩ hb=>⟨r,h,q,(bQ.and aI:aQ _) w1 w2 d hb⟩) (λw' hO b0=>⟨.pointer (some ⟨w'.heap.size,0,none⟩),w'.alloc (.cells #[false,.slice none 0 0] 182),(by go_simp),(ah.refl _ _).alloc _,⟨w'.heap.size,rfl,hO.size,⟨bQ w' _ b0 ((Uk _ _).alloc (Ug _) _),ag.new _ _ _⟩⟩⟩) (λu hne=>?_);refine ao ?_;obtain⟨w9,ax,ab,rfl,hr,bs⟩:=hne;refine lM (D2:=λw'=>(Wh az.heap.size (n*n) u3 w')/\(ag ab #[false,.slice none 0 0] 182 w')) (λw' ⟨r',db,_,d⟩=>by cases db;exact d) ?_;have hne:∃w1,ah [] az w1/\((Wh az.heap.size (n*n) u3 w1)/\(ag ab #[false,.slice none 0 0] 182 w1)):=⟨w9,ax,bs⟩
       clear ax bs;refine aR [6] ?_;refine ak.cons ?_ ?_
       .refine bG (some 76) (λu4 w'=>(ag ab #[false,.slice none 0 0] 182 w')/\(Wh az.heap.size (n*n*(E1*E1*E2*E2)) u4 w')) (λu4=>aI.and bQ) (λw' hO ⟨b0,F⟩=>(jb (n*n) (E1*E1*E2*E2) _ _ ez ee w' b0.rd (eb.out.below0' hO.below)).mono λe w2 ⟨v,h1,h2,h3⟩=>⟨v,h1,.of_below h3,⟨aI w' w2 F h3,h2.le hO.size⟩⟩) (λu4 hne=>?_);refine ao ?_;refine aB 8 ?_;obtain⟨w8,_,bi⟩:=id hne;obtain⟨lz,rfl,bX⟩:Wh az.heap.size (n*n*(E1*E1*E2*E2)) u4 w8:=by first|exact bi.1|exact bi.2
        obtain⟨sl,H,rfl,_⟩:=id bX.1;clear bX bi;refine fm (v:=.agg #[decide ((n*n*(E1*E1*E2*E2))<0),.slice sl (dg (n*n*(E1*E1*E2*E2)).natAbs).length H]) ab #[false,.slice none 0 0] (λw'=>ag ab #[decide ((n*n*(E1*E1*E2*E2))<0),.slice sl (dg (n*n*(E1*E1*E2*E2)).natAbs).length H] 182 w'/\bS w' (.slice sl (dg (n*n*(E1*E1*E2*E2)).natAbs).length H) (dg (n*n*(E1*E1*E2*E2)).natAbs)) (.inl hr) (λ_ ⟨F,bv⟩=>F) (aI.and (λ_ _ h hb=>h.below hb)) (λ_ _ ⟨F,bv⟩ Z hb=>⟨hb,(bv.rdO.1).overNew F Z⟩) (λhne=>?_);exact Ji
       exact ak.nil
      exact ak.nil
     refine ak.cons ?_ ?_
     .refine lY (some 13) (λu w'=>∃ab:Nat,u=.pointer (some ⟨ab,0,none⟩)/\az.heap.size<=ab/\(Wh az.heap.size n u1 w')/\(Wh az.heap.size n u2 w')/\(ag ab #[false,.slice none 0 0] 182 w')) r_ r_ r_ (λ_ w1 w2 ⟨r,h,q,d⟩ hb=>⟨r,h,q,(bQ.and (bQ.and aI):aQ _) w1 w2 d hb⟩) (λw' hO ⟨bo,bz⟩=>⟨.pointer (some ⟨w'.heap.size,0,none⟩),w'.alloc (.cells #[false,.slice none 0 0] 182),(by go_simp),(ah.refl _ _).alloc _,⟨w'.heap.size,rfl,hO.size,⟨bQ w' _ bo ((Uk _ _).alloc (Ug _) _),bQ w' _ bz ((Uk _ _).alloc (Ug _) _),ag.new _ _ _⟩⟩⟩) (λu hne=>?_);refine ao ?_;obtain⟨w9,ax,ab,rfl,hr,bs⟩:=hne;refine lM (D2:=λw'=>(Wh az.heap.size n u1 w')/\(Wh az.heap.size n u2 w')/\(ag ab #[false,.slice none 0 0] 182 w')) (λw' ⟨r',db,_,d⟩=>by cases db;exact d) ?_;have hne:∃w1,ah [] az w1/\((Wh az.heap.size n u1 w1)/\(Wh az.heap.size n u2 w1)/\(ag ab #[false,.slice none 0 0] 182 w1)):=⟨w9,ax,bs⟩
      clear ax bs;refine aR [4] ?_;refine ak.cons ?_ ?_
      .refine bG (some 74) (λu3 w'=>(ag ab #[false,.slice none 0 0] 182 w')/\(Wh az.heap.size (n*n) u3 w')) (λu3=>aI.and bQ) (λw' hO ⟨bo,bz,F⟩=>(jb n n _ _ ln ln w' bo.rd bz.rd).mono λe w2 ⟨v,h1,h2,h3⟩=>⟨v,h1,.of_below h3,⟨aI w' w2 F h3,h2.le hO.size⟩⟩) (λu3 hne=>?_);exact AB
      exact ak.nil
     exact ak.nil
    refine ak.cons ?_ ?_
    .refine lY (some 13) (λu w'=>∃ab:Nat,u=.pointer (some ⟨ab,0,none⟩)/\az.heap.size<=ab/\(Wh az.heap.size n u1 w')/\(ag ab #[false,.slice none 0 0] 182 w')) r_ r_ r_ (λ_ w1 w2 ⟨r,h,q,d⟩ hb=>⟨r,h,q,(bQ.and aI:aQ _) w1 w2 d hb⟩) (λw' hO bo=>⟨.pointer (some ⟨w'.heap.size,0,none⟩),w'.alloc (.cells #[false,.slice none 0 0] 182),(by go_simp),(ah.refl _ _).alloc _,⟨w'.heap.size,rfl,hO.size,⟨bQ w' _ bo ((Uk _ _).alloc (Ug _) _),ag.new _ _ _⟩⟩⟩) (λu hne=>?_);refine ao ?_;obtain⟨w9,ax,ab,rfl,hr,bs⟩:=hne;refine lM (D2:=λw'=>(Wh az.heap.size n u1 w')/\(ag ab #[false,.slice none 0 0] 182 w')) (λw' ⟨r',db,_,d⟩=>by cases db;exact d) ?_;have hne:∃w1,ah [] az w1/\((Wh az.heap.size n u1 w1)/\(ag ab #[false,.slice none 0 0] 182 w1)):=⟨w9,ax,bs⟩
     clear ax bs;refine aR [3] ?_;refine ak.cons ?_ ?_
     .refine bG (some 73) (λu2 w'=>(Wh az.heap.size n u1 w')/\(ag ab #[false,.slice none 0 0] 182 w')/\(Wh az.heap.size n u2 w')) (λu2=>bQ.and (aI.and bQ)) (λw' hO ⟨bo,F⟩=>(ft n o_ w').mono λe w2 ⟨v,h1,h2,h3⟩=>⟨v,h1,.of_below h3,⟨bQ w' w2 bo h3,aI w' w2 F h3,h2.le hO.size⟩⟩) (λu2 hne=>?_);refine ao ?_;refine aR [4] ?_;refine ak.cons ?_ ?_
      .refine bG (some 74) (λu3 w'=>(ag ab #[false,.slice none 0 0] 182 w')/\(Wh az.heap.size (n*n) u3 w')) (λu3=>aI.and bQ) (λw' hO ⟨bo,F,bz⟩=>(jb n n _ _ ln ln w' bo.rd bz.rd).mono λe w2 ⟨v,h1,h2,h3⟩=>⟨v,h1,.of_below h3,⟨aI w' w2 F h3,h2.le hO.size⟩⟩) (λu3 hne=>?_);exact AB
      exact ak.nil
     exact ak.nil
    exact ak.nil
   refine ak.cons ?_ ?_
   .refine lY (some 13) (λu w'=>∃ab:Nat,u=.pointer (some ⟨ab,0,none⟩)/\az.heap.size<=ab/\(ag ab #[false,.slice none 0 0] 182 w')) r_ r_ r_ (λ_ w1 w2 ⟨r,h,q,d⟩ hb=>⟨r,h,q,(ag.closed _ _ _:aQ _) w1 w2 d hb⟩) (λw' hO hD=>⟨.pointer (some ⟨w'.heap.size,0,none⟩),w'.alloc (.cells #[false,.slice none 0 0] 182),(by go_simp),(ah.refl _ _).alloc _,⟨w'.heap.size,rfl,hO.size,ag.new _ _ _⟩⟩) (λu hne=>?_);refine ao ?_;obtain⟨w9,ax,ab,rfl,hr,bs⟩:=hne;refine lM (D2:=λw'=>(ag ab #[false,.slice none 0 0] 182 w')) (λw' ⟨r',db,_,d⟩=>by cases db;exact d) ?_;have hne:∃w1,ah [] az w1/\((ag ab #[false,.slice none 0 0] 182 w1)):=⟨w9,ax,bs⟩
    clear ax bs;refine aR [1] ?_;refine ak.cons ?_ ?_
    .refine bG (some 71) (λu1 w'=>(ag ab #[false,.slice none 0 0] 182 w')/\(Wh az.heap.size n u1 w')) (λu1=>aI.and bQ) (λw' hO F=>(ft n o_ w').mono λe w2 ⟨v,h1,h2,h3⟩=>⟨v,h1,.of_below h3,⟨aI w' w2 F h3,h2.le hO.size⟩⟩) (λu1 hne=>?_);refine ao ?_;refine aR [3] ?_;refine ak.cons ?_ ?_
     .refine bG (some 73) (λu2 w'=>(ag ab #[false,.slice none 0 0] 182 w')/\(Wh az.heap.size n u1 w')/\(Wh az.heap.size n u2 w')) (λu2=>aI.and (bQ.and bQ)) (λw' hO ⟨F,bo⟩=>(ft n o_ w').mono λe w2 ⟨v,h1,h2,h3⟩=>⟨v,h1,.of_below h3,⟨aI w' w2 F h3,bQ w' w2 bo h3,h2.le hO.size⟩⟩) (λu2 hne=>?_);refine ao ?_;refine aR [4] ?_;refine ak.cons ?_ ?_
      .refine bG (some 74) (λu3 w'=>(ag ab #[false,.slice none 0 0] 182 w')/\(Wh az.heap.size (n*n) u3 w')) (λu3=>aI.and bQ) (λw' hO ⟨F,bo,bz⟩=>(jb n n _ _ ln ln w' bo.rd bz.rd).mono λe w2 ⟨v,h1,h2,h3⟩=>⟨v,h1,.of_below h3,⟨aI w' w2 F h3,h2.le hO.size⟩⟩) (λu3 hne=>?_);exact AB
      exact ak.nil
     exact ak.nil
    exact ak.nil
   exact ak.nil
  case rest=>
   obtain⟨ab,rfl,c6,el,cM⟩:=hcut;have da:=h_ cM;have d6:=cM.size;replace bb:=af cM o_ bb;replace kC:=kC.next cM
   replace kP:=kP.next cM
   replace kQ:=kQ.next cM
   replace V:=V.next cM
   clear p0 p1 p2 q0 q1 q2 cM;replace hz:=bb.size;obtain⟨p0,p1,p2⟩:=kP.q3;obtain⟨q0,q1,q2⟩:=kQ.q3;obtain⟨eP,cX,d0⟩:=el;obtain⟨a4,K,rfl,-⟩:=id d0;obtain⟨eV,dz,cG⟩:=id c5;obtain⟨z0,z1⟩:=cX.q2;obtain⟨y0,y1⟩:=(dz.next da.out).q2;have g4:=cX.lt;obtain⟨s1,s2,_,_⟩:=fv 10000 (x:=X1) (e:=E2) o_ bq;obtain⟨s3,s4,_,_⟩:=fv 10000 (x:=X2) (e:=E1) o_ ba;have lS:(dg (X1*E2*E2+X2*E1*E1).natAbs).length<=40000:=Ui (ff (k:=5) o_) o_;have d5:Hid (bm (m*m) (.agg #[decide (m*m<0),eV]) az):=⟨_,rfl,cG⟩
   have e0:Hid (∀w',ah [ab] wc w'->bm (n*n*(E1*E1*E2*E2)) (.agg #[decide (n*n*(E1*E1*E2*E2)<0),.slice a4 (dg (n*n*(E1*E1*E2*E2)).natAbs).length K]) w'):=h_ (λw' Z=>⟨_,rfl,d0.overSlot cX Z⟩);have v1:=aJ (x:=m*m) (y:=X1*E2*E2+X2*E1*E1) 10240000000000000000 8000000 o_ o_;have v2:=aJ (x:=n*n) (y:=E1*E1*E2*E2) 2304000000000000000000 160000 o_ o_;have ed:(dg (m*m*(X1*E2*E2+X2*E1*E1)).natAbs).length<=100000:=Ui (ff (k:=8) o_) o_;have eU:(dg (-(m*m*(X1*E2*E2+X2*E1*E1))).natAbs).length<=100000:=by rw[Int.natAbs_neg];exact ed
   have f8:(dg (n*n*(E1*E1*E2*E2)).natAbs).length<=100000:=Ui (ff (k:=8) o_) o_;have bY:rP∉[ab]:=u_;have cy:rQ∉[ab]:=u_;have ga:dq∉[ab]:=u_;have gq:ab∈[ab]:=s_;have g5:dq<wc.heap.size:=o_;have g6:rP<wc.heap.size:=o_;have g7:rQ<wc.heap.size:=o_;go_upto_region 13 with fail
   go_cut [] from 175 (λwd=>jD ab (dK n m X1 E1 X2 E2) wd/\ah [ab] wc wd)
   case first=>
    refine br [ab] (λ_=>false) (λ_=>True) (λw'=>(ag ab #[decide ((n*n*(E1*E1*E2*E2))<0),.slice a4 (dg (n*n*(E1*E1*E2*E2)).natAbs).length K] 182 w')) k_ cX ?_;refine aD ⟨wc.drew,(ah.refl _ _).drew,cX⟩ [ac,ae,ae,ae,ae,ae,ae,ae,ae,ae,ae,ae,ae,ae,ae,ae,ae,ae,ae] 6 aI aA ?_;refine aR [0,19] ?_;refine ak.cons ?_ ?_
    .refine lY (some 77) (λu w'=>u=.agg #[decide ((n*n*(E1*E1*E2*E2))<0),.slice a4 (dg (n*n*(E1*E1*E2*E2)).natAbs).length K]/\(ag ab #[decide ((n*n*(E1*E1*E2*E2))<0),.slice a4 (dg (n*n*(E1*E1*E2*E2)).natAbs).length K] 182 w')) r_ r_ r_ (λ_ w1 w2 ⟨h,d⟩ hb=>⟨h,(ag.closed _ _ _:aQ _) w1 w2 d hb⟩) (λw' hO F=>⟨.agg #[decide ((n*n*(E1*E1*E2*E2))<0),.slice a4 (dg (n*n*(E1*E1*E2*E2)).natAbs).length K],w',uO,ah.refl _ _,⟨rfl,F⟩⟩) (λu hne=>?_);refine ao ?_;obtain⟨w9,ax,rfl,bs⟩:=hne;refine lM (D2:=λw'=>(ag ab #[decide ((n*n*(E1*E1*E2*E2))<0),.slice a4 (dg (n*n*(E1*E1*E2*E2)).natAbs).length K] 182 w')) (λw' h=>h.2) ?_;have hne:∃w1,ah [ab] wc w1/\((ag ab #[decide ((n*n*(E1*E1*E2*E2))<0),.slice a4 (dg (n*n*(E1*E1*E2*E2)).natAbs).length K] 182 w1)):=⟨w9,ax,bs⟩
     clear ax bs;refine aR [19] ?_;refine ak.cons ?_ ?_
     .refine bG (some 96) (λu1 w'=>(ag ab #[decide ((n*n*(E1*E1*E2*E2))<0),.slice a4 (dg (n*n*(E1*E1*E2*E2)).natAbs).length K] 182 w')/\(Wh wc.heap.size (X1*E2*E2+X2*E1*E1) u1 w')) (λu1=>aI.and bQ) (λw' hO F=>(ft (X1*E2*E2+X2*E1*E1) o_ w').mono λe w2 ⟨v,h1,h2,h3⟩=>⟨v,h1,.of_below h3,⟨aI w' w2 F h3,h2.le hO.size⟩⟩) (λu1 hne=>?_);refine ao ?_;exact Ls
     exact ak.nil
    refine ak.cons ?_ ?_
    .refine bG (some 96) (λu1 w'=>(ag ab #[decide ((n*n*(E1*E1*E2*E2))<0),.slice a4 (dg (n*n*(E1*E1*E2*E2)).natAbs).length K] 182 w')/\(Wh wc.heap.size (X1*E2*E2+X2*E1*E1) u1 w')) (λu1=>aI.and bQ) (λw' hO F=>(ft (X1*E2*E2+X2*E1*E1) o_ w').mono λe w2 ⟨v,h1,h2,h3⟩=>⟨v,h1,.of_below h3,⟨aI w' w2 F h3,h2.le hO.size⟩⟩) (λu1 hne=>?_);refine ao ?_;refine aR [0,20] ?_;refine ak.cons ?_ ?_
     .refine lY (some 77) (λu w'=>u=.agg #[decide ((n*n*(E1*E1*E2*E2))<0),.slice a4 (dg (n*n*(E1*E1*E2*E2)).natAbs).length K]/\(ag ab #[decide ((n*n*(E1*E1*E2*E2))<0),.slice a4 (dg (n*n*(E1*E1*E2*E2)).natAbs).length K] 182 w')/\(Wh wc.heap.size (X1*E2*E2+X2*E1*E1) u1 w')) r_ r_ r_ (λ_ w1 w2 ⟨h,d⟩ hb=>⟨h,(aI.and bQ:aQ _) w1 w2 d hb⟩) (λw' hO ⟨F,bo⟩=>⟨.agg #[decide ((n*n*(E1*E1*E2*E2))<0),.slice a4 (dg (n*n*(E1*E1*E2*E2)).natAbs).length K],w',uO,ah.refl _ _,⟨rfl,⟨F,bo⟩⟩⟩) (λu hne=>?_);refine ao ?_;obtain⟨w9,ax,rfl,bs⟩:=hne;refine lM (D2:=λw'=>(ag ab #[decide ((n*n*(E1*E1*E2*E2))<0),.slice a4 (dg (n*n*(E1*E1*E2*E2)).natAbs).length K] 182 w')/\(Wh wc.heap.size (X1*E2*E2+X2*E1*E1) u1 w')) (λw' h=>h.2) ?_;have hne:∃w1,ah [ab] wc w1/\((ag ab #[decide ((n*n*(E1*E1*E2*E2))<0),.slice a4 (dg (n*n*(E1*E1*E2*E2)).natAbs).length K] 182 w1)/\(Wh wc.heap.size (X1*E2*E2+X2*E1*E1) u1 w1)):=⟨w9,ax,bs⟩
      clear ax bs;exact Ls
     refine ak.cons ?_ ?_
     .refine bG (some 97) (λu2 w'=>(ag ab #[decide ((n*n*(E1*E1*E2*E2))<0),.slice a4 (dg (n*n*(E1*E1*E2*E2)).natAbs).length K] 182 w')/\(Wh wc.heap.size (m*m*(X1*E2*E2+X2*E1*E1)) u2 w')) (λu2=>aI.and bQ) (λw' hO ⟨F,bo⟩=>(jb (m*m) (X1*E2*E2+X2*E1*E1) _ _ eH lS w' (d5.out.below (hO.belowGe (B:=az.heap.size) da.out d6 u_)) bo.rd).mono λe w2 ⟨v,h1,h2,h3⟩=>⟨v,h1,.of_below h3,⟨aI w' w2 F h3,h2.le hO.size⟩⟩) (λu2 hne=>?_);refine ao ?_;refine aR [0,21] ?_;refine ak.cons ?_ ?_
      .refine lY (some 77) (λu w'=>u=.agg #[decide ((n*n*(E1*E1*E2*E2))<0),.slice a4 (dg (n*n*(E1*E1*E2*E2)).natAbs).length K]/\(ag ab #[decide ((n*n*(E1*E1*E2*E2))<0),.slice a4 (dg (n*n*(E1*E1*E2*E2)).natAbs).length K] 182 w')/\(Wh wc.heap.size (m*m*(X1*E2*E2+X2*E1*E1)) u2 w')) r_ r_ r_ (λ_ w1 w2 ⟨h,d⟩ hb=>⟨h,(aI.and bQ:aQ _) w1 w2 d hb⟩) (λw' hO ⟨F,bz⟩=>⟨.agg #[decide ((n*n*(E1*E1*E2*E2))<0),.slice a4 (dg (n*n*(E1*E1*E2*E2)).natAbs).length K],w',uO,ah.refl _ _,⟨rfl,⟨F,bz⟩⟩⟩) (λu hne=>?_);refine ao ?_;obtain⟨w9,ax,rfl,bs⟩:=hne;refine lM (D2:=λw'=>(ag ab #[decide ((n*n*(E1*E1*E2*E2))<0),.slice a4 (dg (n*n*(E1*E1*E2*E2)).natAbs).length K] 182 w')/\(Wh wc.heap.size (m*m*(X1*E2*E2+X2*E1*E1)) u2 w')) (λw' h=>h.2) ?_;have hne:∃w1,ah [ab] wc w1/\((ag ab #[decide ((n*n*(E1*E1*E2*E2))<0),.slice a4 (dg (n*n*(E1*E1*E2*E2)).natAbs).length K] 182 w1)/\(Wh wc.heap.size (m*m*(X1*E2*E2+X2*E1*E1)) u2 w1)):=⟨w9,ax,bs⟩
       clear ax bs;refine aR [21] ?_;refine ak.cons ?_ ?_
       .refine bG (some 98) (λu3 w'=>(ag ab #[decide ((n*n*(E1*E1*E2*E2))<0),.slice a4 (dg (n*n*(E1*E1*E2*E2)).natAbs).length K] 182 w')/\(Wh wc.heap.size (-(m*m*(X1*E2*E2+X2*E1*E1))) u3 w')) (λu3=>aI.and bQ) (λw' hO ⟨F,bz⟩=>(qr (m*m*(X1*E2*E2+X2*E1*E1)) _ ed w' bz.rd).mono λe w2 ⟨v,h1,h2,h3⟩=>⟨v,h1,.of_below h3,⟨aI w' w2 F h3,h2.le hO.size⟩⟩) (λu3 hne=>?_);refine ao ?_;exact J6
       exact ak.nil
      refine ak.cons ?_ ?_
      .refine bG (some 98) (λu3 w'=>(ag ab #[decide ((n*n*(E1*E1*E2*E2))<0),.slice a4 (dg (n*n*(E1*E1*E2*E2)).natAbs).length K] 182 w')/\(Wh wc.heap.size (-(m*m*(X1*E2*E2+X2*E1*E1))) u3 w')) (λu3=>aI.and bQ) (λw' hO ⟨F,bz⟩=>(qr (m*m*(X1*E2*E2+X2*E1*E1)) _ ed w' bz.rd).mono λe w2 ⟨v,h1,h2,h3⟩=>⟨v,h1,.of_below h3,⟨aI w' w2 F h3,h2.le hO.size⟩⟩) (λu3 hne=>?_);refine ao ?_;refine aR [0] ?_;refine ak.cons ?_ ?_
       .refine lY (some 77) (λu w'=>u=.agg #[decide ((n*n*(E1*E1*E2*E2))<0),.slice a4 (dg (n*n*(E1*E1*E2*E2)).natAbs).length K]/\(ag ab #[decide ((n*n*(E1*E1*E2*E2))<0),.slice a4 (dg (n*n*(E1*E1*E2*E2)).natAbs).length K] 182 w')/\(Wh wc.heap.size (-(m*m*(X1*E2*E2+X2*E1*E1))) u3 w')) r_ r_ r_ (λ_ w1 w2 ⟨h,d⟩ hb=>⟨h,(aI.and bQ:aQ _) w1 w2 d hb⟩) (λw' hO ⟨F,b0⟩=>⟨.agg #[decide ((n*n*(E1*E1*E2*E2))<0),.slice a4 (dg (n*n*(E1*E1*E2*E2)).natAbs).length K],w',uO,ah.refl _ _,⟨rfl,⟨F,b0⟩⟩⟩) (λu hne=>?_);refine ao ?_;obtain⟨w9,ax,rfl,bs⟩:=hne;refine lM (D2:=λw'=>(ag ab #[decide ((n*n*(E1*E1*E2*E2))<0),.slice a4 (dg (n*n*(E1*E1*E2*E2)).natAbs).length K] 182 w')/\(Wh wc.heap.size (-(m*m*(X1*E2*E2+X2*E1*E1))) u3 w')) (λw' h=>h.2) ?_;have hne:∃w1,ah [ab] wc w1/\((ag ab #[decide ((n*n*(E1*E1*E2*E2))<0),.slice a4 (dg (n*n*(E1*E1*E2*E2)).natAbs).length K] 182 w1)/\(Wh wc.heap.size (-(m*m*(X1*E2*E2+X2*E1*E1))) u3 w1)):=⟨w9,ax,bs⟩
        clear ax bs;exact J6
       exact ak.nil
      exact ak.nil
     exact ak.nil
    exact ak.nil
   obtain⟨el,a7⟩:=hcut;have hT:-(368640000000000000000000000+81920000000000000000000000)<=dK n m X1 E1 X2 E2/\dK n m X1 E1 X2 E2<=368640000000000000000000000+81920000000000000000000000:=by unfold dK;omega
   have ec:(dK n m X1 E1 X2 E2).natAbs<10000 ^ 20:=o_;generalize dK n m X1 E1 X2 E2=T at *;have aG:Below az.heap.size az wc:=a7.belowGe (B:=az.heap.size) da.out d6 u_;replace bb:Below rC w wc:=a7.belowGe (B:=rC) bb o_ u_;replace kC:=kC.over a7 u_;replace kP:=kP.over a7 u_;replace V:=V.over a7 u_;replace c5:=c5.next aG
   replace dx:=dx.next aG
   clear p0 p1 p2 q0 q1 q2 y0 y1 z0 z1 kQ d5 e0 cX d0 dz cG a7 aG bY cy ga gq;have dp:=bb.size;obtain⟨eV,dz,cG⟩:=c5;obtain⟨eT,d3,co⟩:=dx;obtain⟨y0,y1⟩:=dz.q2;obtain⟨z0,z1⟩:=d3.q2;go_wp2_with fail
   refine (jb (m*m) (E1*E1*E2*E2) _ _ eH ee _ ⟨_,rfl,cG⟩ ⟨_,rfl,co⟩).mono ?_;rintro e d7 ⟨u5,rfl,gb,eg⟩;obtain⟨lv,rfl,Z⟩:=gb;obtain⟨sl,H,rfl,-⟩:=id Z.1;have e8:jD d7.heap.size (fb m E1 E2) (d7.alloc (.cells #[decide (m*m*(E1*E1*E2*E2)<0),.slice sl (dg (m*m*(E1*E1*E2*E2)).natAbs).length H] 182)):=⟨_,ag.new _ _ _,Z.1.below ((Uk _ _).alloc (Ug _) _)⟩
   have cT:Below wc.heap.size wc (d7.alloc (.cells #[decide (m*m*(E1*E1*E2*E2)<0),.slice sl (dg (m*m*(E1*E1*E2*E2)).natAbs).length H] 182)):=eg.alloc eg.size _;have v3:=aJ (x:=m*m) (y:=E1*E1*E2*E2) 10240000000000000000 160000 o_ o_;have f5:(fb m E1 E2).natAbs<10000 ^ 60:=by unfold fb;omega
   clear y0 y1 z0 z1 dz cG d3 co Z eg;go_upto_region 15 with fail
   generalize d7.alloc _=f7 at e8 cT ⊢;generalize d7.heap.size=d4 at e8 ⊢;replace bb:=af cT o_ bb;replace kC:=kC.next cT
   replace kP:=kP.next cT
   replace V:=V.next cT
   replace el:=el.next cT
   generalize fb m E1 E2=D at *;clear cT;have f4:∀e:Int,1<=e->e<=20->(T*(e*e)).natAbs<10000 ^ 60:=λe h1 h2=>by
    have h3:=aJ (x:=e) (y:=e) 20 20 o_ o_;have h4:=aJ (x:=T) (y:=e*e) (368640000000000000000000000+81920000000000000000000000) 400 o_ o_;omega
   have lT:(dg T.natAbs).length<=40000:=Ui (ff ec) o_;have gU:=h_ f4;have f9:=h_ f5;have g0:=h_ lT;clear f4 f5 lT;clear hT ec eH ez ee lm ln lS ed eU f8 v1 v2 v3 mm nn e3 f3 f1 fV gn;have c9:=bb.size;go_wp2;go_loopw [15] (λx wr=>∃(e:Int) (f:Nat),x=.int .i64 e/\(1<=e/\e<=21)/\e+f=21/\Hid (cj (f_ A B X1 Y1 E1 n m T D f e)=cz)/\Below f7.heap.size f7 wr) (λx _=>(21 - intOf x).toNat)
   case atStart=>exact⟨1,20,rfl,by omega,by omega,cb,Uk _ _⟩
   case round=>
    clear cb;obtain⟨e,f,rfl,he,hf,HF,a8⟩:=hrel;by_cases cm:e<=20
    .obtain⟨g,rfl⟩:∃g,f=g+1:=⟨f - 1,by omega⟩
     obtain⟨eP,cX,e7⟩:=el.next a8
     obtain⟨f6,eG,e6⟩:=e8.next a8
     have g4:=cX.lt;have g9:=eG.lt;obtain⟨y0,y1⟩:=cX.q2;obtain⟨z0,z1⟩:=eG.q2;have fr:=aJ (x:=e) (y:=e) 20 20 o_ o_;have f0:=h_ (λ(w':World) (hb:Below wr.heap.size wr w')=>BC T (e*e) (.agg #[decide (T<0),eP]) g0.out o_ w' (bm.below ⟨_,rfl,e7⟩ hb));have ey:=h_ (λ(w':World) (u:Value) (hb:Below wr.heap.size wr w') (hu:bm (T*(e*e)) u w')=>LZ (T*(e*e)) D u (.agg #[decide (D<0),f6]) (gU.out e he.1 cm) f9.out w' hu (bm.below ⟨_,rfl,e6⟩ hb));have dy:-10000<=dR (T*(e*e)) D/\dR (T*(e*e)) D<=10000:=pn _ _ _ _ _ o_;have hF:=HF.out;unfold f_ at hF;have ev:Hid (jT (T*(e*e)) D=true->(-8000<=m/\m<=8000)/\(-2000000000<=n/\n<=2000000000)):=h_ (λh=>hs.out e _ ⟨he.1,cm⟩ dy (by unfold jT at h;exact (eq_of_beq h).symm));generalize dR (T*(e*e)) D=x at ey dy hF ev;generalize jT (T*(e*e)) D=ok at ey hF ev;have cc:=h_ hF;clear hF HF;go_upto_region 18 with fail
     refine br [] (λ_=>false) (λ_=>True) (λ_=>True) k_ (trivial) ?_;refine aD ⟨wr.drew,(ah.refl _ _).drew,trivial⟩ [ae,ae,ae,ae,ac,ae] 7 an aA ?_;refine aB 4 ?_;refine bG (some 112) (λu=>λw'=>bm (T*(e*e)) u w') (λu=>λ_ _ h hb=>h.below hb) (λw' hO hD=>(f0.out w' hO.below).mono λe w2 ⟨v,h1,h2,h3⟩=>⟨v,h1,.of_below h3,h2.rd⟩) (λu hne=>?_);refine ao ?_;refine aB 6 ?_;refine lO (v:=.tuple #[x,ok]) (some 114) (λ_=>True) r_ r_ r_ (λ_=>by go_simp) an (λw' hO hD=>(ey.out w' u hO.below hD).mono λe w2 h=>⟨h.1,.of_below h.2,trivial⟩) (λhne=>?_);refine ao ?_;refine aD hne [ac,ac,ac,ac,ac,ac,ac,ae,ae,ae,ae,ae] 0 an aA ?_;refine cV λWz a7 aX=>?_
     try dsimp only
     have aM:=af a7.below a8.size a8;clear y0 y1 z0 z1 f0 ey a7 aX;cases ok
     .have HN:Hid (cj (f_ A B X1 Y1 E1 n m T D g (e+1))=cz):=(by have h:=cc.out;rw[Uj (λh9=>Bool.noConfusion h9.1)] at h;exact h)
      clear cc;go_wp2;go_roundw
      case rel=>exact⟨e+1,g,by go_num,by omega,by omega,HN,aM⟩
      case measure=>exact aO
     .obtain⟨hm,hn⟩:=ev.out rfl;clear ev;have e9:=h_ (nX x e o_ o_);generalize ar x e=gx at e9 cc;go_wp2_with fail
      refine (e9.out _).mono ?_;rintro e' _ ⟨rfl,kk,rfl⟩;have U:=A8 Wz kk;generalize Wz.drewN kk=wg at U ⊢;have dd:=af U aM.size aM;clear e9;by_cases cB:gx=1
      .have dl:=h_ (sK A B x e hA hB dy o_);have a9:=ly hA hB dy (show 1<=e/\e<=20 by omega);generalize cvV A B x e=q at dl cc a9;have cu:=h_ (wy q a9);have cF:=nA a9;generalize ce q=sb at cu cc;generalize ap q=rt at cu cc cF;have jC:=kC.next dd
       obtain⟨c0,c1⟩:=jC.q2;go_wp2_with fail
       refine (dl.out _).mono ?_;rintro e' w3 ⟨rfl,aF⟩;have aZ:=af aF dd.size dd;clear dl c0 c1;go_wp2_with fail
       refine (cu.out _).mono ?_;rintro e' _ ⟨rfl,rfl⟩;clear cu;cases sb
       .have HN:Hid (cj (f_ A B X1 Y1 E1 n m T D g (e+1))=cz):=(by have h:=cc.out;rw[Uj (λh9=>Bool.noConfusion h9.2.2)] at h;exact h)
        clear cc;go_wp2;go_roundw
        case rel=>exact⟨e+1,g,by go_num,by omega,by omega,HN,aZ⟩
        case measure=>exact aO
       .have hF:=cc.out;rw[Um (by simp [cB])] at hF;simp only[cj] at hF;have jP:=kP.next aZ
        obtain⟨p0,p1,p2⟩:=jP.q3;obtain⟨b1,b2,_,_⟩:=fv 10000 (x:=X1) (e:=e) o_ o_;obtain⟨b3,b4,_,_⟩:=fv 10000 (x:=x) (e:=E1) o_ o_;have b5:=aJ (x:=n) (y:=X1*e*e - x*E1*E1) 2000000000 8000000 o_ o_;have b6:=aJ (x:=n*(X1*e*e - x*E1*E1)) (y:=E1) 16000000000000000 20 o_ o_;have b7:=aJ (x:=Y1) (y:=m) 3000000 8000 o_ o_;obtain⟨b8,b9,_,_⟩:=fv 24000000000 (x:=Y1*m) (e:=e) o_ o_;clear cc;obtain⟨c1,d1⟩:∃b,decide (n*(X1*e*e - x*E1*E1)*E1 - Y1*m*e*e<0)=b:=⟨_,rfl⟩
        obtain⟨c2,d2⟩:∃b,decide (m<0)=b:=⟨_,rfl⟩
        rw[d1,d2] at hF;cases c1<;>cases c2
        .exact Ke
        .exact Ky
        .exact Ky
        .exact Ke
      .have HN:Hid (cj (f_ A B X1 Y1 E1 n m T D g (e+1))=cz):=(by have h:=cc.out;rw[Uj (λh9=>cB h9.2.1)] at h;exact h)
       clear cc;go_wp2;go_roundw
       case rel=>exact⟨e+1,g,by go_num,by omega,by omega,HN,dd⟩
       case measure=>exact aO
    .obtain rfl:f=0:=by omega
     have aa:=HF.out;unfold f_ cj at aa;subst aa;clear HF;go_upto_region 26 with fail
     have jR:=V.next a8
     have z0:=jR.frozen 0;have z1:=jR.frozen 1;have z2:=jR.frozen 2;obtain⟨t0,t1,t2⟩:=jR.q3;have k9:=((jR.set 0 ()).set 1 ()).set 2 ();have ad:Below rC w (((wr.setCell ⟨rR,0,none⟩ ()).setCell ⟨rR,1,none⟩ ()).setCell ⟨rR,2,none⟩ ()):=(((af a8 o_ bb).setCell u_ _).setCell u_ _).setCell u_ _
     (repeat (first|go_skip|go_guarded|go_step))
     generalize (World.setCell (World.setCell (World.setCell _ _ _) _ _) _ _)=w9 at k9 ad ⊢;clear t0 t1 t2 z0 z1 z2;obtain⟨q0,q1,q2⟩:=k9.q3;refine Uh (v:=.tuple #[.agg #[(),(),()],false]) vS rfl ?_;exact⟨rfl,bx▸ad⟩
def Ue{K:List Int}(h:Hid (∀k,k<=K.length->(dg (pr (K.take k)).natAbs).length<=40000))(k)(hk:k<=K.length):(dg (pr (K.take k)).natAbs).length<=40000:=h.out k hk
def L4(K)(v)(bi:K.length<=1000)(hN:∀i (h:i<K.length),(dg K[i].natAbs).length<=40000)(hP:∀k,k<=K.length->(dg (pr (K.take k)).natAbs).length<=40000)(w)(hv:jr w v K):
 Kp 338 #[v] w (dG (pr K) w):=by
 have HN:=h_ hN;have HP:=h_ hP;have HV:=h_ hv;obtain⟨a,F,rfl,hc⟩:=hv;have HC:=h_ hc;go_enter Tryz.func338,Tryz.ntmps338;have⟨kS,J⟩:=aw w #[false,.slice none 0 0] 182;have b3:(w.alloc (.cells #[false,.slice none 0 0] 182)).heap.size=w.heap.size+1:=s_;go_upto_region 1 with fail
 generalize w.alloc _=G at *;go_wp2_with fail
 refine (ft 1 o_ G).mono ?_;rintro e w1 ⟨v,rfl,a8,I⟩;obtain⟨lv,rfl,bz⟩:=a8;obtain⟨s1,c1,rfl,_⟩:=id bz.1;have a7:=I.size;have ae:Hid (w.heap.size+1<=w1.heap.size):=by show _<=_;omega
 have aZ:=(kS.next I).alloc (.cells #[false,.slice s1 (dg 1).length c1] 182);have⟨kC,a2⟩:=aw w1 #[false,.slice s1 (dg 1).length c1] 182;have U:Below w w (w1.alloc (.cells #[false,.slice s1 (dg 1).length c1] 182)):=(af I o_ J).alloc o_ _;have b5:Hid (aW (w1.alloc (.cells #[false,.slice s1 (dg 1).length c1] 182)) (w.heap.size+1) (.slice s1 (dg 1).length c1) (dg 1)):=⟨bz.1.below a2,λhn=>((bz.2 hn).below a2).le o_⟩
 go_upto_region 3 with fail
 generalize w1.alloc _=W,a1:w1.heap.size=rc at *;go_loopw [9] (λiv wr=>∃(k:Nat) (V:Int) (sl:bT) (H:Nat),k<=K.length/\iv=.int .i64 k/\Hid (V=pr (K.take k))/\ag w #[false,.slice none 0 0] 182 wr/\ag rc #[decide (V<0),.slice sl (dg V.natAbs).length H] 182 wr/\Hid (aW wr (w.heap.size+1) (.slice sl (dg V.natAbs).length H) (dg V.natAbs))/\Below w w wr) (λiv _=>K.length - (intOf iv).toNat)
 case atStart=>exact⟨0,1,s1,c1,by omega,rfl,rfl,aZ,kC,b5,U⟩
 case round=>
  obtain⟨k,V,sl,H,hk,rfl,hV,kS,kC,hR,hb⟩:=hrel;have bp:=kC.lt;by_cases aG:k<K.length
  .obtain⟨g,o,lv,rfl,q0,q1,hr,hg⟩:=HC.out k aG;have aM:=Ue HP k hk;have Z:=HN.out k aG;have b2:Hid (V*K[k]=pr (K.take (k+1))):=by
    show _=_;rw[UL aG,Ee,<-hV.out]
   rw[<-hV.out] at aM;generalize K[k]=y at q0 q1 hr Z b2;have d0:=(hb.cell (p:=⟨g,o+k*2,none⟩) hg).trans q0;have d1:=(hb.cell (p:=⟨g,o+k*2+1,none⟩) hg).trans q1;obtain⟨s2,c2,rfl,_⟩:=id hr;have ba:=h_ hr;generalize cv:decide (y<0)=sy at d0;have a4:=h_ cv;go_upto_region 5 with fail
   have kE:=ag.new wr #[sy,.slice s2 (dg y.natAbs).length c2] 182;have a3:=kC.alloc (.cells #[sy,.slice s2 (dg y.natAbs).length c2] 182);have aZ:=kS.alloc (.cells #[sy,.slice s2 (dg y.natAbs).length c2] 182);have a2:Below wr wr (wr.alloc (.cells #[sy,.slice s2 (dg y.natAbs).length c2] 182)):=(Uk _ _).alloc (Ug _) _;have I:Below w w (wr.alloc (.cells #[sy,.slice s2 (dg y.natAbs).length c2] 182)):=hb.alloc hb.size _;have a5:=h_ (hR.out.1.below a2);have bx:=h_ (ba.out.below I);have bo:wr.heap.size<(wr.alloc (.cells #[sy,.slice s2 (dg y.natAbs).length c2] 182)).heap.size:=s_;generalize wr.alloc _=W5 at *;have⟨e0,e1⟩:=kE.q2;have⟨x0,x1⟩:=a3.q2;go_wp2_with fail
   refine (jb V y _ _ aM Z W5 ⟨_,rfl,a5.out⟩ ⟨_,by rw[a4.out],bx.out⟩).mono ?_;rintro e w1 ⟨v,rfl,a8,U⟩;obtain⟨lv,rfl,az⟩:=a8;obtain⟨s9,c9,rfl,_⟩:=id az.1;have ab:=a3.next U
   have ax:=aZ.next U
   have⟨x0,x1⟩:=ab.q2;have z0:=ab.frozen 0;have z1:=ab.frozen 1;have aF:=af U I.size I;have k9:=(ab.set 0 (decide (V*y<0))).set 1 (.slice s9 (dg (V*y).natAbs).length c9);have bs:=ae.out;have aa:rc≠w.heap.size:=o_;have ac:w.heap.size<=rc:=o_;have aX:=(ax.other (p:=rc) aa (decide (V*y<0))).other (p:=⟨rc,1,none⟩) aa (.slice s9 (dg (V*y).natAbs).length c9);have ad:Below w w ((w1.setCell rc (decide (V*y<0))).setCell ⟨rc,1,none⟩ (.slice s9 (dg (V*y).natAbs).length c9)):=(aF.setCell ac _).setCell ac _;have a9:=h_ ((az.set2 (S:=rc) o_ (decide (V*y<0)) (.slice s9 (dg (V*y).natAbs).length c9)).le (base':=w.heap.size+1) o_);go_wp2;go_roundw
   case rel=>exact⟨k+1,V*y,s9,c9,by omega,by go_num,b2,aX,k9,a9,ad⟩
   case measure=>exact aO
  .obtain rfl:k=K.length:=by omega
   have aL:=hV.out;rw[Ve] at aL;have⟨c0,c1⟩:=kC.q2;have⟨s0,s1⟩:=kS.q2;have z0:=kS.frozen 0;have z1:=kS.frozen 1;have a6:=h_ aL;have k9:=(kS.set 0 (decide (V<0))).set 1 (.slice sl (dg V.natAbs).length H);have ad:Below w w ((wr.setCell w (decide (V<0))).setCell ⟨w,1,none⟩ (.slice sl (dg V.natAbs).length H)):=(hb.setCell (Ug _) _).setCell (Ug _) _;have bb:=(hR.out.set2 (S:=w.heap.size) o_ (decide (V<0)) (.slice sl (dg V.natAbs).length H)).le (base':=w.heap.size) o_;clear hR aL hV;go_wp2;generalize (World.setCell (World.setCell _ _ _) _ _)=w9 at ad k9 bb ⊢;have⟨q0,q1⟩:=k9.q2;refine Uh (v:=.agg #[decide (V<0),.slice sl (dg V.natAbs).length H]) (by simp [results,Tryz.results338,go_sem,q0,q1]) rfl ?_;rw[<-a6.out];exact uA
def zk(h:P:=by rw[U5];exact bb.out):=h
def Jy(h:P:=by
 go_roundw
 case rel=>exact⟨g,D,by omega,by rw[<-HN.out],bb,Z,U⟩
 case measure=>exact aO):=h
def I3(h:P:=by
 exact Jy):=h
def F8(h:P:=by
 exact⟨u3,rfl,Z.le (by rw[az.out];omega),az.out▸(J.trans (F.mono o_))⟩):=h
def nK(w:World)(L:List (Int×Int×Int))(e:Ending)(w':World):Prop:=∃v,e=.returned v/\bD w' w v L/\Below w w w'
def Tv{y:Int}(hy:y≠0):y*y≠0:=λh=>by rcases VH.1 h with h|h<;>exact hy h
def MG(A B:Int)(hA:bj A)(hB:a_ B)(w):
 Kp 256 #[.agg #[A,B]] w (nK w (fi A B)):=by
 have ab:=pf A B;have⟨g1,g2,g3⟩:=li hA hB;have bi:-7000000000<=aP A B/\aP A B<=7000000000:=by unfold aP;omega
 have⟨kC,J⟩:=aw w #[A,B] 42;have V:Hid (gR A B 6001 (-3000)=fi A B):=rfl;have aa:Hid ((fi A B).length<=12002):=ab 6001 (-3000);generalize fi A B=L at V aa ⊢;go_enter Tryz.func256,Tryz.ntmps256;go_upto_region 1 with fail
 generalize w.alloc _=W,bx:w.heap.size=rC at *;have az:Hid (w.heap.size=rC):=bx;have a6:=kC.lt;go_wp2;go_loopw [3,4] (λv x wr=>∃(f:Nat) (D:List (Int×Int×Int)),f<=6001/\x=.int .i64 (3001 - (f:Int))/\Hid (D++gR A B f (3001 - (f:Int))=L)/\bD wr (rC+1) v D/\Below (rC+1) W wr) (λ_ x _=>(3001 - intOf x).toNat)
 case atStart=>exact⟨6001,[],by omega,by go_num,h_ (by rw[VA];exact V.out),bD.nil _ _,Uk _ _⟩
 case round=>
  obtain⟨f,D,hf,rfl,HD,Z,F⟩:=hrel;have bX:=F.size;have jC:ag rC #[A,B] 42 wr:=(F.block rC (Nat.lt_succ_self _)).trans kC;by_cases cm:1<=f
  .obtain⟨g,rfl⟩:∃g,f=g+1:=⟨f - 1,by omega⟩
   have hx:-10000<=3001 - ((g+1:Nat):Int)/\3001 - ((g+1:Nat):Int)<=10000:=o_;have b6:(3001 - ((g+1:Nat):Int))+1=3001 - (g:Int):=o_;have a1:3001 - ((g+1:Nat):Int)<=3000:=o_;have hD:=by have h:=HD.out;unfold gR at h;rw[b6] at h;exact h
   have aL:D.length<1000000000000:=by
    have h1:=aa.out;rw[<-hD,UE] at h1;omega
   have bb:=h_ hD;have HN:=h_ b6;generalize 3001 - ((g+1:Nat):Int)=x at *;have dl:=h_ (sK A B x 1 hA hB hx o_);have a9:=ly hA hB hx (e:=1) o_;have cu:=h_ (wy (cvV A B x 1) a9);have cF:=nA a9;have G:Hid (lE A B x=if ce (cvV A B x 1)=true then (if ap (cvV A B x 1)=0 then [(x,0,1)] else if (aP A B).tmod (ap (cvV A B x 1)*ap (cvV A B x 1))=0 then [(x,-ap (cvV A B x 1),1),(x,ap (cvV A B x 1),1)] else []) else []):=rfl;generalize lE A B x=la at G bb;generalize cvV A B x 1=q at dl cu a9 cF G;generalize ce q=sb at cu G;generalize ap q=rt at cu cF G;have⟨bp,a7⟩:=jC.q2;have a2:=jC.lt;go_wp2_with fail
   refine ai (dl.out _) λw1 I=>?_;go_wp2_with fail
   refine (cu.out _).mono ?_;rintro e _ ⟨rfl,rfl⟩;have U:=F.trans (I.mono o_);replace Z:=Z.below I;replace jC:=jC.next I
   have a8:=U.size;cases sb
   .have aM:la=[]:=G.out;subst aM;go_wp2;exact I3
   .by_cases a4:rt=0
    .subst a4;have aM:la=[(x,0,1)]:=G.out;subst aM;go_wp2_with (at_builtin;refine wA (p:=(x,0,1)) rfl _ _ rfl (rC+1) _ _ rfl Z rfl aL o_ ?_;intro v' w4 bo K bY _)
     have ac:=U.trans K;go_wp2;go_roundw
     case rel=>exact⟨g,D++[(x,0,1)],by omega,by rw[<-HN.out],h_ zk,bo,ac⟩
     case measure=>exact aO
    .rw[Um rfl,Uj a4] at G;have b4:(rt==0)=false:=by simpa using a4
     have bs:=Tv a4;have mm:=aJ (x:=rt) (y:=rt) 2000001 2000001 o_ o_;have⟨bp,a7⟩:=jC.q2;have a2:=jC.lt;go_wp2_with fail
     refine ai ((h_ (nT A B hA hB)).out _) λw3 aF=>?_;have ax:=U.trans (aF.mono o_);replace Z:=Z.below aF;generalize aP A B=dd at bi G ⊢;by_cases hm:dd.tmod (rt*rt)=0
     .have aM:=by have h:=G.out;rw[Um hm] at h;exact h
      subst aM;go_wp2_with (at_builtin;refine MQ (p:=(x,-rt,1)) (q:=(x,rt,1)) rfl _ _ rfl (rC+1) _ _ rfl Z rfl aL (by have:=ax.size;omega) ?_;intro v' w4 bo K bY _)
      have ac:=ax.trans K;go_wp2;go_roundw
      case rel=>exact⟨g,D++[(x,-rt,1),(x,rt,1)],by omega,by rw[<-HN.out],h_ zk,bo,ac⟩
      case measure=>exact aO
     .have aM:=by have h:=G.out;rw[Uj hm] at h;exact h
      subst aM;have cc:(dd.tmod (rt*rt)==0)=false:=by simpa using hm
      go_wp2;go_roundw
      case rel=>exact⟨g,D,by omega,by rw[<-HN.out],bb,Z,ax⟩
      case measure=>exact aO
  .obtain rfl:f=0:=by omega
   have hD:=HD.out;unfold gR at hD;rw[Vr] at hD;subst hD;go_wp2;exact Uh (v:=u3) (by simp [results,Tryz.results256,go_sem]) rfl F8
abbrev P3:=Int×Int×Int
noncomputable def cl(A B:Int)(p:P3):Nat->P3->Option P3
 |0,now=>some now
 |k+1,now=>match dZ A B now p with
  |none=>none
  |some r=>cl A B p k r
theorem qE(A B)(p:P3):∀(k) (now:P3),cl A B p (k+1) now=(cl A B p k now).bind λr=>dZ A B r p
 |0,now=>by
  simp only[cl,Option.bind];cases dZ A B now p<;>rfl
 |k+1,now=>by
  rw[cl];cases h:dZ A B now p with
  |none=>simp only[cl,h];rfl
  |some r=>
   simp only;rw[qE A B p k r];simp only[cl,h]
def Lw(p:P3):P3:=(p.1,-p.2.1,p.2.2)
noncomputable def gy(A B:Int)(p:P3)(n:Int):Option P3:=if n<0 then cl A B (Lw p) n.natAbs (0,0,0) else cl A B p n.natAbs (0,0,0)
def bW(A B:Int)(p:P3):Prop:=ju A B p.1 p.2.1 p.2.2
def bW.zero(A B):bW A B (0,0,0):=.inl ⟨rfl,rfl,rfl⟩
def bW.neg{A B}{p:P3}(h:bW A B p):bW A B (Lw p):=by
 rcases h with ⟨h1,h2,h3⟩|⟨h1,h2,h3,h4,h5⟩
 .exact .inl ⟨h1,by show -p.2.1=0;omega,h3⟩
 .exact .inr ⟨h1,h2,h3,by show _<=-p.2.1/\-p.2.1<=_;omega,by show -p.2.1*-p.2.1=_;rw[U6];exact h5⟩
def bW.bd{A B}{p:P3}(h:bW A B p):(-10000<=p.1/\p.1<=10000)/\(-3000000<=p.2.1/\p.2.1<=3000000)/\(0<=p.2.2/\p.2.2<=20):=by
 rcases h with ⟨h1,h2,h3⟩|⟨h1,h2,_,h4,_⟩<;>omega
def EK{A B}{p q r:P3}(hA:bj A)(hB:a_ B)(G:bW A B p)(hq:bW A B q)(h:dZ A B p q=some r):bW A B r:=EL hA hB G hq h
theorem pj{A B}{p:P3}(hA:bj A)(hB:a_ B)(G:bW A B p):∀(k) (now r:P3),bW A B now->cl A B p k now=some r->bW A B r
 |0,now,r,hn,h=>by rw[cl] at h;cases h;exact hn
 |k+1,now,r,hn,h=>by
  rw[cl] at h;cases ha:dZ A B now p with
  |none=>rw[ha] at h;cases h
  |some q=>
   rw[ha] at h;exact pj hA hB G k q r (EK hA hB hn G ha) h
def SQ{A B n}{p r:P3}(hA:bj A)(hB:a_ B)(G:bW A B p)(h:gy A B p n=some r):bW A B r:=by
 unfold gy at h;split at h
 .exact pj hA hB G.neg _ _ _ (.zero A B) h
 .exact pj hA hB G _ _ _ (.zero A B) h
noncomputable def lH(A B:Int)(p:P3):Nat->Nat->Option Int
 |0,_=>none
 |f+1,n=>match cl A B p n (0,0,0) with
  |none=>none
  |some r=>if r.2.2=0 then some n else lH A B p f (n+1)
theorem DB{A B}{p:P3}:∀(f n) (now:P3),cl A B p n (0,0,0)=some now->lH A B p f (n+1)=iQ A B p f ((n+1:Nat):Int) now
 |0,n,now,h=>by unfold lH iQ;rfl
 |f+1,n,now,h=>by
  have hs:=qE A B p n (0,0,0);rw[h] at hs;have ad:cl A B p (n+1) (0,0,0)=dZ A B now p:=hs;unfold lH iQ;rw[ad];cases ha:dZ A B now p with
  |none=>rfl
  |some r=>
   simp only;split
   .rfl
   .have:=DB (A:=A) (B:=B) (p:=p) f (n+1) r (by rw[ad,ha]);rw[this];push_cast;rfl
def RN(A B)(p:P3):lH A B p 12 1=b_ A B p:=by
 have:=DB (A:=A) (B:=B) (p:=p) 12 0 (0,0,0) (by rw[cl]);exact this
noncomputable def AM(A:Int)(p q:P3):Option P3:=if p.2.2=0 then some q else if q.2.2=0 then some p else oC A p.1 p.2.1 p.2.2 q.1 q.2.1 q.2.2
def Se{A B}{p q:P3}(hA:bj A)(hB:a_ B)(G:bW A B p)(hq:bW A B q):AM A p q=dZ A B p q:=by
 unfold AM dZ;split
 .rfl
 .split
  .rfl
  .rename_i h1 h2;have fp:=G.resolve_left λh=>h1 h.2.2;have fq:=hq.resolve_left λh=>h2 h.2.2;split
   .rename_i h;have⟨e1,e2,e3⟩:=h;have hz:slD p.1 p.2.1 p.2.2 q.1 q.2.1 q.2.2=0:=by
     unfold slD;split
     .rename_i h;have:p.2.1=0:=by omega
      rw[this];simp
     .rw[e1,e3,Int.sub_self,W_]
    unfold oC;rw[Um hz]
   .rename_i h;exact Ry hA hB fp fq h
noncomputable def mD(K:Int):Bool:=decide ((dg K.natAbs).length<=400)
end Go.Proofs.YtaamhakdhaolmaaGreatDoor
