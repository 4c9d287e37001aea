/- Part 9. -/
import Derived.StillTail
import Derived.Test.YtaamhakdhaolmaaGreatDoorSag
import Derived.Test.YtaamhakdhaolmaaGreatDoorSai
namespace Go.Proofs.YtaamhakdhaolmaaGreatDoor
open Go.RowKit Go.Proofs.Tryz
open World(setCell)
set_option maxHeartbeats 8000000
set_option maxRecDepth 100000
variable {P:Prop}
set_option linter.all false
def cd.drew{w}{v}{L}(h:cd w v L):cd w.drew v L:=h.below ((Vn _ _).drew)
def wX(na nb:Bool)(a b:Value)(la lb:List Int)(ax:la.length<=100000)(U:Dg la)(bp:Dg lb)(aF:kj la)(az:kj lb)(w:World)(ha:cd w a la)(hb:cd w b lb):
 Rv 253 #[.agg #[na,a],.agg #[nb,b]] w (dD (vl la) (vl lb)):=by
 have Z:=h_ (λa b w=>Pc a b w);obtain⟨kA,kB,J⟩:=cO w #[na,a] 182 #[nb,b] 182;have HA:=h_ (ha.below J);have HB:=h_ (hb.below J);obtain⟨aa,ca,rfl,_,_⟩:=ha;obtain⟨ab,cb,rfl,_,_⟩:=hb;go_enter func253,ntmps253;go_upto_region 1 with fail
 generalize (w.alloc _).alloc _=W at *;generalize bq:w.heap.size+1=rb,a3:w.heap.size=I at *;have H:=h_ a3;have⟨a0,a1⟩:=kA.q2;have⟨b0,b1⟩:=kB.q2;by_cases cm:la.length=lb.length
 .have b3:(la.length:Int)=lb.length:=o_;go_wp2;go_loopw [5] (λiv wr=>∃i:Nat,i<=la.length/\iv=.int .i64 ((i:Int) - 1)/\Hid (gX la lb i)/\af W W wr) (λiv _=>(intOf iv+1).toNat)
  case atStart=>exact⟨la.length,Vj _,by simp [b3],h_ (gX.start o_ o_),Vn _ _⟩
  case round=>
   obtain⟨i,hi,rfl,hE,V⟩:=hrel;have ad:=ag V (by rw[<-H.out];exact J.size) J;cases i with
   |zero=>
    have he:=h_ (Cp hE.out.eq);go_wp2;go_ret;exact⟨by rw[he.out];rfl,H.out▸ad⟩
   |succ i=>
    have g:((i+1:Nat):Int) - 1=i:=o_;rw[g];have aZ:i<la.length:=o_;have K:i<lb.length:=o_;have F:=(kA.next V).drew;have ac:=(kB.next V).drew;have⟨a0,a1⟩:=F.q2;have⟨b0,b1⟩:=ac.q2;have bz:=V.drew;have aG:=(HA.out.below V).drew;have ae:=(HB.out.below V).drew;have⟨_,_,e1,_,b9⟩:=aG;injection e1 with e1 _ e2;subst e1 e2;have⟨_,_,e1,_,aM⟩:=ae;injection e1 with e1 _ e2;subst e1 e2;obtain⟨ga,oa,rfl,q1,_⟩:=b9 i aZ;obtain⟨gb,ob,rfl,q2,_⟩:=aM i K;have i2:(i:Int)<lb.length:=o_;generalize hx:la[i]?.getD 0=x at q1;generalize hy:lb[i]?.getD 0=y at q2;by_cases bi:x=y
    .subst bi;go_upto_region 6 with fail
     go_still k_
     change Exit.then _ _ _ _ wr.drew;go_wp2;go_roundw
     case rel=>exact⟨i,o_,rfl,(h_ (hE.out.step (hx.trans hy.symm)))⟩
     case measure=>simp [intOf];try omega
    .have he:Hid (dD (vl la) (vl lb)=dD x y):=by
      show _=_;rcases (by omega:x<y\/y<x) with h|h
      .rw[qE h,qE (hE.out.lt U bp (by rw[hx,hy];exact h))]
      .rw[qB h,qB (hE.out.symm.lt bp U (by rw[hx,hy];exact h))]
     clear hx hy hE;have r1:wr.drew.drew.cell? ⟨ga,oa+i,none⟩=some (.int .i64 x):=q1;have r2:wr.drew.drew.cell? ⟨gb,ob+i,none⟩=some (.int .i64 y):=q2;go_upto_region 6 with fail
     go_still k_
     change Exit.then _ _ _ _ wr.drew;clear a0 a1 b0 b1;obtain⟨a0,a1⟩:=F.drew.q2;obtain⟨b0,b1⟩:=ac.drew.q2;go_upto_region 7 with fail
     refine wp_region_still_lit k_ k_ ?_;change wpStill _ _ wr.drew.drew _ _ _
     iterate 10 still_step
     still_call (Z.out _ _ _)
     still_step
     refine YK ?_;change Exit.then _ _ _ _ wr.drew.drew;go_wp2;go_ret;exact⟨by rw[he.out];rfl,H.out▸ad.drew.drew⟩
 .have b3:(la.length:Int)≠lb.length:=o_;have he:dD (vl la) (vl lb)=dD la.length lb.length:=by
   rcases Wv la.length lb.length with h|h
   .rw[qE (Fm U bp az h),qE o_]
   .rw[qB (Fm bp U aF o_),qB o_]
  replace he:=h_ he;go_wp2_with fail
  refine aj (Z.out _ _ _) λw1 G=>?_;rw[G];clear G;go_wp2;go_ret;exact⟨by rw[he.out];rfl,H.out▸J⟩
def qk(h:P:=by rw[eI,eI];omega):=h
def G0(h:P:=by simp [results,results196,go_sem,q0,q1]):=h
def A7(h:P:=by
 refine ap ?_;obtain⟨w9,_,_,b6,rfl,az⟩:=id hne;obtain⟨sl,H,rfl,_⟩:=id az.1;refine aD 8 ?_;refine fC (v:=.agg #[decide (K<0),.slice sl (dg K.natAbs).length H]) rs (#[false,.slice none 0 0]) (λw'=>ah rs #[decide (K<0),.slice sl (dg K.natAbs).length H] 182 w'/\aW w' W.heap.size (.slice sl (dg K.natAbs).length H) (dg K.natAbs)) (.inr s_) (λ_ hd=>hd.1) (aK.and (λ_ _ h hb=>⟨h.1.below hb,λhn=>(h.2 hn).below hb⟩)) (λw1 w2 hd Z hb=>⟨hb,hd.2.rdO.over Z u_⟩) (λhne=>?_)
 try simp only[Value.cells]
 refine dn λWz a7 aX=>?_
 try dsimp only
 have aM:af w w Wz:=a7.belowGe (B:=w.heap.size) J a6 u_;obtain⟨q0,q1⟩:=aX.1.q2;have cv:aW Wz w.heap.size (.slice sl (dg K.natAbs).length H) (dg K.natAbs):=aX.2.le a6;clear a7 aX hne az;go_wp2;refine Vk (v:=.agg #[decide (K<0),.slice sl (dg K.natAbs).length H]) (by simp [results,results316,go_sem,q0,q1]) rfl ?_;exact⟨_,rfl,⟨_,rfl,cv⟩,aM⟩):=h
def LI(h:P:=by
 obtain⟨q0,q1⟩:=aX.1.q2;have cv:aW Wz w.heap.size (.slice sl (dg K.natAbs).length H) (dg K.natAbs):=aX.2.le V;clear a7 aX hne az;go_wp2;refine Vk (v:=.agg #[decide (K<0),.slice sl (dg K.natAbs).length H]) G0 rfl ?_;exact⟨_,rfl,⟨_,rfl,cv⟩,aM⟩):=h
def JF(h:P:=by
 have:=mt (DW (x:=(M.natAbs:Int)) (y:=N.natAbs)).2 (by rw[hc];exact ad);omega):=h
def JV(h:P:=by
 have:=(DW (x:=(M.natAbs:Int)) (y:=N.natAbs)).1 (by rw[hc];exact ad);omega):=h
def vC(h:P:=by
 exact⟨_,rfl,⟨_,rfl,cv⟩,aM⟩):=h
def br(N:Int)(v:Value)(w:World):Prop:=∃lv,v=.agg #[decide (N<0),lv]/\cd w lv (dg N.natAbs)
def Wh.rd{G:Nat}{N:Int}{v:Value}{w:World}(h:Wh G N v w):br N v w:=by
 obtain⟨lv,h1,h2⟩:=h;exact⟨lv,h1,h2.1⟩
def br.below{N:Int}{v:Value}{w w1:World}(h:br N v w)(hb:af w w w1):br N v w1:=by
 obtain⟨lv,h1,h2⟩:=h;exact⟨lv,h1,h2.below hb⟩
def jg(V:Int)(G:Nat)(v:Value)(w:World):Prop:=∃O,ar w G v O/\Dg O/\vl O=V/\O.length<=200000
def jg.closed(V:Int)(G:Nat)(v:Value):aQ (jg V G v):=λ_ _ ⟨O,h1,h2⟩ hb=>⟨O,h1.below hb,h2⟩
def eF(n:Nat):Dg (dg n):=(ke n).1
def qn(n:Nat):kj (dg n):=(ke n).2.1
def eI(n:Nat):vl (dg n)=n:=(ke n).2.2
def nl{O:List Int}{V:Int}{n:Nat}(h:Dg O)(hv:vl O=V)(hn:V=n):tr O=dg n:=by
 rw[sC h,hv,hn];rfl
def DW{x y:Int}:dD x y<0↔x<y:=by unfold dD;split;omega;split<;>omega
def aW.over{ex:List Nat}{w w':World}{G:Nat}{v:Value}{L:List Int}(h:aW w G v L)(Z:ai ex w w')(hx:∀k∈ex,k<G):aW w' G v L:=by
 by_cases hn:L=[]
 .exact AI
 .have h1:=h.2 hn;have h3:=ar.over h1 Z (λg hg hm=>by have:=h1.lt g hg;have:=hx g hm;omega);exact⟨h3.rdL,λ_=>h3⟩
def un{M N K:Int}{s:Bool}(h1:Hid (decide (M<0)=s))(h2:Hid (decide (N<0)=s))(hK:M+N=K):(s=decide (K<0)\/K=0)/\((M.natAbs:Int)+1*N.natAbs=K.natAbs):=by
 have h1:=h1.out;have h2:=h2.out;cases s
 .simp at h1 h2;refine⟨.inl ?_,o_⟩;symm;simp;omega
 .simp at h1 h2;refine⟨.inl ?_,o_⟩;symm;simp;omega
def nk{M N K:Int}{s t:Bool}(h1:Hid (decide (M<0)=s))(h2:Hid (decide (N<0)=t))(F:s≠t)(hK:M+N=K)(hl:N.natAbs<=M.natAbs):(s=decide (K<0)\/K=0)/\((M.natAbs:Int)+-1*N.natAbs=K.natAbs):=by
 have h1:=h1.out;have h2:=h2.out;refine⟨?_,?_⟩
 .by_cases h0:K=0
  .exact .inr h0
  .left;cases s<;>cases t<;>simp at h1 h2 F ⊢<;>omega
 .cases s<;>cases t<;>simp at h1 h2 F ⊢<;>omega
def Wh.rdO{G:Nat}{K:Int}{b:Bool}{lv:Value}{w:World}(h:Wh G K (.agg #[b,lv]) w):aW w G lv (dg K.natAbs):=by
 obtain⟨l,e,h⟩:=h;simp only[Value.agg.injEq,Array.mk.injEq,List.cons.injEq] at e;rw[e.2.1];exact h
def ah.other{r:Nat}{cs:Array Value}{T:TypeId}{w:World}(h:ah r cs T w){p:Addr}(G:p.block≠r)(v:Value):ah r cs T (w.setCell p v):=
 h.over ((ai.refl [p.block] w).setCell (.inr s_) v) u_
def xg(M N:Int)(a b:Value)(hM:(dg M.natAbs).length<=100000)(hN:(dg N.natAbs).length<=100000)(w:World)(ha:br M a w)(hb:br N b w):
 Kp 196 #[a,b] w (dP (M+N) w):=by
 obtain⟨la,rfl,a3⟩:=ha;obtain⟨lb,rfl,bq⟩:=hb;obtain⟨aa,ca,bz⟩:∃aa ca,Hid (la=.slice aa (dg M.natAbs).length ca):=by obtain⟨aa,ca,h,_⟩:=a3;exact⟨aa,ca,h⟩
 obtain⟨ab,cb,bZ⟩:∃ab cb,Hid (lb=.slice ab (dg N.natAbs).length cb):=by obtain⟨aa,ca,h,_⟩:=bq;exact⟨aa,ca,h⟩
 obtain⟨kA,kB,kS,J⟩:=fv w #[decide (M<0),la] 182 #[decide (N<0),lb] 182 #[false,.slice none 0 0] 182;have a5:=h_ a3;have bx:=h_ bq;generalize a9:decide (M<0)=sa at *;generalize a8:decide (N<0)=sb at *;have bX:=h_ a9;have g:=h_ a8;clear a9 a8;obtain⟨K,hK⟩:∃K,M+N=K:=⟨_,rfl⟩
 rw[hK];have a6:=J.size;go_enter func196,ntmps196;go_upto_region 1 with fail
 generalize ((w.alloc _).alloc _).alloc _=W at *;generalize b7:w.heap.size+1+1=rs at *;have⟨a0,a1⟩:=kA.q2;have⟨b0,b1⟩:=kB.q2;have bo:=kA.lt;have b5:=kB.lt;have cu:=kS.lt;have cc:w.heap.size∉[rs]:=u_;have cy:w.heap.size+1∉[rs]:=u_;by_cases hs:sa=sb
 .subst hs;go_upto_region 2 with fail
  refine bw [rs] (λ_=>false) (λ_=>True) (ah rs #[false,.slice none 0 0] 182) k_ kS ?_;refine aE ⟨W,ai.refl _ _,kS⟩ (cj 6 0) 3 aK aB ?_;refine aD 6 ?_;refine bN (some 16) (λu=>λw'=>ah rs #[false,.slice none 0 0] 182 w'/\jg (M.natAbs+(1)*N.natAbs) W.heap.size u w') (λu=>aK.and (jg.closed _ _ _)) (λw' hO hD=>(xu (1) o_ _ _ (dg M.natAbs) (dg N.natAbs) o_ o_ (eF _) (eF _) qk _ (a5.out.below0 (hO.belowGe (B:=w.heap.size) J a6 u_)) (bx.out.below0 (hO.belowGe (B:=w.heap.size) J a6 u_))).mono λe w2 ⟨v,O,h1,h2,h3,h4,h5,h6⟩=>⟨v,h1,.of_below h6,hD.next h6,O,h2.le hO.size,h3,by rw[h4,eI,eI],o_⟩) (λu hne=>?_);refine ap ?_;refine aD 7 ?_;refine bN (some 17) (λu2=>λw'=>ah rs #[false,.slice none 0 0] 182 w'/\Wh W.heap.size K u2 w') (λu2=>aK.and bV) (λw' hO ⟨ae,O,h1,h2,h3,h4⟩=>(mg sa _ O o_ _ h1.rdL).mono λe w2 h=>let ⟨v,r1,r2,r3⟩:=h.whole (N:=K) (un bX g hK).1 (nl h2 h3 (un bX g hK).2);⟨v,r1,.of_below r3,ae.next r3,r2.le hO.size⟩) (λu2 hne=>?_);refine ap ?_;obtain⟨w9,_,_,b6,rfl,az⟩:=id hne;obtain⟨sl,H,rfl,_⟩:=id az.1;refine aD 8 ?_;refine fC (v:=.agg #[decide (K<0),.slice sl (dg K.natAbs).length H]) rs (#[false,.slice none 0 0]) (λw'=>ah rs #[decide (K<0),.slice sl (dg K.natAbs).length H] 182 w'/\aW w' W.heap.size (.slice sl (dg K.natAbs).length H) (dg K.natAbs)) (.inr s_) (λ_ hd=>hd.1) (aK.and (λ_ _ h hb=>⟨h.1.below hb,λhn=>(h.2 hn).below hb⟩)) (λw1 w2 hd Z hb=>⟨hb,hd.2.rdO.over Z u_⟩) (λhne=>?_)
  try simp only[Value.cells]
  refine dn λWz a7 aX=>?_
  try dsimp only
  have aM:af w w Wz:=a7.belowGe (B:=w.heap.size) J a6 u_;obtain⟨q0,q1⟩:=aX.1.q2;have cv:aW Wz w.heap.size (.slice sl (dg K.natAbs).length H) (dg K.natAbs):=aX.2.le a6;clear a7 aX hne az;go_wp2;refine Vk (v:=.agg #[decide (K<0),.slice sl (dg K.natAbs).length H]) G0 rfl ?_;exact vC
 .have aL:sa≠sb:=hs;have a2:(sa==sb)=false:=by simp [hs]
  have HC:=h_ (wX sa sb la lb (dg M.natAbs) (dg N.natAbs) o_ (eF _) (eF _) (qn _) (qn _) W (a5.out.below J) (bx.out.below J));rw[eI,eI] at HC;generalize hc:dD (M.natAbs:Int) (N.natAbs:Int)=c at HC;by_cases ad:c<0
  .have hl:M.natAbs<=N.natAbs:=by
    exact JV
   have a4:N+M=K:=o_;have ax:sb≠sa:=λh=>aL h.symm;clear hc;go_wp2_with fail
   refine HC.out.mono ?_;rintro e W0 ⟨rfl,I⟩;have aG:=kA.next I
   have G:=kB.next I
   have ba:=kS.next I
   clear a0 a1 b0 b1;have⟨a0,a1⟩:=aG.q2;have⟨b0,b1⟩:=G.q2;have⟨b2,b3⟩:=aG.f2;have⟨b8,b4⟩:=G.f2;have U:af w w W0:=ag I a6 J;clear HC;have bi:=bz.out;have bb:=bZ.out;clear bz bZ;subst bi bb;have F:=(((aG.set 0 sb).set 1 (.slice ab (dg N.natAbs).length cb)).other (p:=⟨w.heap.size+1,0,none⟩) s_ sa).other (p:=⟨w.heap.size+1,1,none⟩) s_ (.slice aa (dg M.natAbs).length ca);have ac:=(((G.other (p:=⟨w.heap.size,0,none⟩) s_ sb).other (p:=⟨w.heap.size,1,none⟩) s_ (.slice ab (dg N.natAbs).length cb)).set 0 sa).set 1 (.slice aa (dg M.natAbs).length ca);have aZ:=(((ba.other (p:=⟨w.heap.size,0,none⟩) u_ sb).other (p:=⟨w.heap.size,1,none⟩) u_ (.slice ab (dg N.natAbs).length cb)).other (p:=⟨w.heap.size+1,0,none⟩) u_ sa).other (p:=⟨w.heap.size+1,1,none⟩) u_ (.slice aa (dg M.natAbs).length ca);have aF:af w w ((((W0.setCell ⟨w.heap.size,0,none⟩ sb).setCell ⟨w.heap.size,1,none⟩ (.slice ab (dg N.natAbs).length cb)).setCell ⟨w.heap.size+1,0,none⟩ sa).setCell ⟨w.heap.size+1,1,none⟩ (.slice aa (dg M.natAbs).length ca)):=(((U.setCell (Vj _) _).setCell (Vj _) _).setCell s_ _).setCell s_ _;go_upto_region 4 with fail
   go_upto_region 5 with fail
   generalize (((setCell _ _ _).setCell _ _).setCell _ _).setCell _ _=W1 at *;clear a0 a1 b0 b1 b2 b3 b8 b4;have⟨a0,a1⟩:=F.q2;have⟨b0,b1⟩:=ac.q2;have bs:=F.lt;have bv:=ac.lt;have bp:=aZ.lt;have V:=aF.size;have bY:=a5;clear a5;have a5:=bx;clear bx;have bx:=bY;clear bY;refine bw [rs] (λ_=>false) (λ_=>True) (ah rs #[false,.slice none 0 0] 182) k_ aZ ?_;refine aE ⟨W1,ai.refl _ _,aZ⟩ (cj 6 0) 3 aK aB ?_;refine aD 6 ?_;refine bN (some 30) (λu=>λw'=>ah rs #[false,.slice none 0 0] 182 w'/\jg (N.natAbs+(-1)*M.natAbs) W1.heap.size u w') (λu=>aK.and (jg.closed _ _ _)) (λw' hO hD=>(xu (-1) o_ _ _ (dg N.natAbs) (dg M.natAbs) o_ o_ (eF _) (eF _) qk _ (a5.out.below0 (hO.belowGe (B:=w.heap.size) aF V u_)) (bx.out.below0 (hO.belowGe (B:=w.heap.size) aF V u_))).mono λe w2 ⟨v,O,h1,h2,h3,h4,h5,h6⟩=>⟨v,h1,.of_below h6,hD.next h6,O,h2.le hO.size,h3,by rw[h4,eI,eI],o_⟩) (λu hne=>?_);refine ap ?_;refine aD 7 ?_;refine bN (some 31) (λu2=>λw'=>ah rs #[false,.slice none 0 0] 182 w'/\Wh W1.heap.size K u2 w') (λu2=>aK.and bV) (λw' hO ⟨ae,O,h1,h2,h3,h4⟩=>(mg sb _ O o_ _ h1.rdL).mono λe w2 h=>let ⟨v,r1,r2,r3⟩:=h.whole (N:=K) (nk g bX ax a4 hl).1 (nl h2 h3 (nk g bX ax a4 hl).2);⟨v,r1,.of_below r3,ae.next r3,r2.le hO.size⟩) (λu2 hne=>?_);refine ap ?_;obtain⟨w9,_,_,b6,rfl,az⟩:=id hne;obtain⟨sl,H,rfl,_⟩:=id az.1;refine aD 8 ?_;refine fC (v:=.agg #[decide (K<0),.slice sl (dg K.natAbs).length H]) rs (#[false,.slice none 0 0]) (λw'=>ah rs #[decide (K<0),.slice sl (dg K.natAbs).length H] 182 w'/\aW w' W1.heap.size (.slice sl (dg K.natAbs).length H) (dg K.natAbs)) (.inr s_) (λ_ hd=>hd.1) (aK.and (λ_ _ h hb=>⟨h.1.below hb,λhn=>(h.2 hn).below hb⟩)) (λw1 w2 hd Z hb=>⟨hb,hd.2.rdO.over Z u_⟩) (λhne=>?_)
   try simp only[Value.cells]
   refine dn λWz a7 aX=>?_
   try dsimp only
   have aM:af w w Wz:=a7.belowGe (B:=w.heap.size) aF V u_;exact LI
  .have hl:N.natAbs<=M.natAbs:=by
    exact JF
   clear hc;go_wp2_with fail
   refine HC.out.mono ?_;rintro e W1 ⟨rfl,I⟩;have F:=kA.next I
   have ac:=kB.next I
   have aZ:=kS.next I
   have U:af w w W1:=ag I a6 J;have V:=U.size;clear a0 a1 b0 b1;have⟨a0,a1⟩:=F.q2;have⟨b0,b1⟩:=ac.q2;have bs:=F.lt;have bv:=ac.lt;have bp:=aZ.lt;clear HC;go_upto_region 5 with fail
   refine bw [rs] (λ_=>false) (λ_=>True) (ah rs #[false,.slice none 0 0] 182) k_ aZ ?_;refine aE ⟨W1,ai.refl _ _,aZ⟩ (cj 6 0) 3 aK aB ?_;refine aD 6 ?_;refine bN (some 30) (λu=>λw'=>ah rs #[false,.slice none 0 0] 182 w'/\jg (M.natAbs+(-1)*N.natAbs) W1.heap.size u w') (λu=>aK.and (jg.closed _ _ _)) (λw' hO hD=>(xu (-1) o_ _ _ (dg M.natAbs) (dg N.natAbs) o_ o_ (eF _) (eF _) qk _ (a5.out.below0 (hO.belowGe (B:=w.heap.size) U V u_)) (bx.out.below0 (hO.belowGe (B:=w.heap.size) U V u_))).mono λe w2 ⟨v,O,h1,h2,h3,h4,h5,h6⟩=>⟨v,h1,.of_below h6,hD.next h6,O,h2.le hO.size,h3,by rw[h4,eI,eI],o_⟩) (λu hne=>?_);refine ap ?_;refine aD 7 ?_;refine bN (some 31) (λu2=>λw'=>ah rs #[false,.slice none 0 0] 182 w'/\Wh W1.heap.size K u2 w') (λu2=>aK.and bV) (λw' hO ⟨ae,O,h1,h2,h3,h4⟩=>(mg sa _ O o_ _ h1.rdL).mono λe w2 h=>let ⟨v,r1,r2,r3⟩:=h.whole (N:=K) (nk bX g aL hK hl).1 (nl h2 h3 (nk bX g aL hK hl).2);⟨v,r1,.of_below r3,ae.next r3,r2.le hO.size⟩) (λu2 hne=>?_);refine ap ?_;obtain⟨w9,_,_,b6,rfl,az⟩:=id hne;obtain⟨sl,H,rfl,_⟩:=id az.1;refine aD 8 ?_;refine fC (v:=.agg #[decide (K<0),.slice sl (dg K.natAbs).length H]) rs (#[false,.slice none 0 0]) (λw'=>ah rs #[decide (K<0),.slice sl (dg K.natAbs).length H] 182 w'/\aW w' W1.heap.size (.slice sl (dg K.natAbs).length H) (dg K.natAbs)) (.inr s_) (λ_ hd=>hd.1) (aK.and (λ_ _ h hb=>⟨h.1.below hb,λhn=>(h.2 hn).below hb⟩)) (λw1 w2 hd Z hb=>⟨hb,hd.2.rdO.over Z u_⟩) (λhne=>?_)
   try simp only[Value.cells]
   refine dn λWz a7 aX=>?_
   try dsimp only
   have aM:af w w Wz:=a7.belowGe (B:=w.heap.size) U V u_;exact LI
def EZ(M N:Int)(a b:Value)(hM:(dg M.natAbs).length<=100000)(hN:(dg N.natAbs).length<=100000)(w:World)(ha:br M a w)(hb:br N b w):
 Kp 316 #[a,b] w (dP (M+N) w):=by
 obtain⟨la,rfl,a3⟩:=ha;obtain⟨lb,rfl,bq⟩:=hb;obtain⟨kA,kB,kS,J⟩:=fv w #[decide (M<0),la] 182 #[decide (N<0),lb] 182 #[false,.slice none 0 0] 182;have a5:=h_ a3;have bx:=h_ bq;generalize a9:decide (M<0)=sa at *;generalize a8:decide (N<0)=sb at *;have bX:=h_ a9;have g:=h_ a8;clear a9 a8;obtain⟨K,hK⟩:∃K,M+N=K:=⟨_,rfl⟩
 rw[hK];have a6:=J.size;go_enter func316,ntmps316;go_upto_region 1 with fail
 generalize ((w.alloc _).alloc _).alloc _=W at *;generalize b7:w.heap.size+1+1=rs at *;have⟨a0,a1⟩:=kA.q2;have⟨b0,b1⟩:=kB.q2;have bo:=kA.lt;have b5:=kB.lt;have cu:=kS.lt;have cc:w.heap.size∉[rs]:=u_;have cy:w.heap.size+1∉[rs]:=u_;by_cases hs:sa=sb
 .subst hs;go_upto_region 2 with fail
  refine bw [rs] (λ_=>false) (λ_=>True) (ah rs #[false,.slice none 0 0] 182) k_ kS ?_;refine aE ⟨W,ai.refl _ _,kS⟩ (cj 6 0) 3 aK aB ?_;refine aD 6 ?_;refine bN (some 16) (λu=>λw'=>ah rs #[false,.slice none 0 0] 182 w'/\jg (M.natAbs+(1)*N.natAbs) W.heap.size u w') (λu=>aK.and (jg.closed _ _ _)) (λw' hO hD=>(xn (1) o_ _ _ (dg M.natAbs) (dg N.natAbs) o_ o_ (eF _) (eF _) qk _ (a5.out.below0 (hO.belowGe (B:=w.heap.size) J a6 u_)) (bx.out.below0 (hO.belowGe (B:=w.heap.size) J a6 u_))).mono λe w2 ⟨v,O,h1,h2,h3,h4,h5,h6⟩=>⟨v,h1,.of_below h6,hD.next h6,O,h2.le hO.size,h3,by rw[h4,eI,eI],o_⟩) (λu hne=>?_);refine ap ?_;refine aD 7 ?_;refine bN (some 17) (λu2=>λw'=>ah rs #[false,.slice none 0 0] 182 w'/\Wh W.heap.size K u2 w') (λu2=>aK.and bV) (λw' hO ⟨ae,O,h1,h2,h3,h4⟩=>(mq sa _ O o_ _ h1.rdL).mono λe w2 h=>let ⟨v,r1,r2,r3⟩:=h.whole (N:=K) (un bX g hK).1 (nl h2 h3 (un bX g hK).2);⟨v,r1,.of_below r3,ae.next r3,r2.le hO.size⟩) (λu2 hne=>?_);exact A7
 .have aL:sa≠sb:=hs;have ax:sb≠sa:=λh=>aL h.symm;have a2:(sa==sb)=false:=by simp [hs]
  have HC:=h_ (PX la lb (dg M.natAbs) (dg N.natAbs) o_ o_ (eF _) (eF _) W (a5.out.below J) (bx.out.below J));rw[eI,eI] at HC;generalize hc:dD (M.natAbs:Int) (N.natAbs:Int)=c at HC;by_cases ad:c<0
  .have hl:M.natAbs<=N.natAbs:=by
    exact JV
   have a4:N+M=K:=o_;have aZ:¬(0<=c):=o_;clear hc;go_wp2_with fail
   refine HC.out.mono ?_;rintro e W1 ⟨rfl,G⟩;rw[G];clear G HC;go_upto_region 5 with fail
   have bY:=a5;clear a5;have a5:=bx;clear bx;have bx:=bY;clear bY;refine bw [rs] (λ_=>false) (λ_=>True) (ah rs #[false,.slice none 0 0] 182) k_ kS ?_;refine aE ⟨W,ai.refl _ _,kS⟩ (cj 6 0) 3 aK aB ?_;refine aD 6 ?_;refine bN (some 38) (λu=>λw'=>ah rs #[false,.slice none 0 0] 182 w'/\jg (N.natAbs+(-1)*M.natAbs) W.heap.size u w') (λu=>aK.and (jg.closed _ _ _)) (λw' hO hD=>(xn (-1) o_ _ _ (dg N.natAbs) (dg M.natAbs) o_ o_ (eF _) (eF _) qk _ (a5.out.below0 (hO.belowGe (B:=w.heap.size) J a6 u_)) (bx.out.below0 (hO.belowGe (B:=w.heap.size) J a6 u_))).mono λe w2 ⟨v,O,h1,h2,h3,h4,h5,h6⟩=>⟨v,h1,.of_below h6,hD.next h6,O,h2.le hO.size,h3,by rw[h4,eI,eI],o_⟩) (λu hne=>?_);refine ap ?_;refine aD 7 ?_;refine bN (some 39) (λu2=>λw'=>ah rs #[false,.slice none 0 0] 182 w'/\Wh W.heap.size K u2 w') (λu2=>aK.and bV) (λw' hO ⟨ae,O,h1,h2,h3,h4⟩=>(mq sb _ O o_ _ h1.rdL).mono λe w2 h=>let ⟨v,r1,r2,r3⟩:=h.whole (N:=K) (nk g bX ax a4 hl).1 (nl h2 h3 (nk g bX ax a4 hl).2);⟨v,r1,.of_below r3,ae.next r3,r2.le hO.size⟩) (λu2 hne=>?_);exact A7
  .have hl:N.natAbs<=M.natAbs:=by
    exact JF
   have aZ:0<=c:=o_;clear hc;go_wp2_with fail
   refine HC.out.mono ?_;rintro e W1 ⟨rfl,G⟩;rw[G];clear G HC;go_upto_region 4 with fail
   refine bw [rs] (λ_=>false) (λ_=>True) (ah rs #[false,.slice none 0 0] 182) k_ kS ?_;refine aE ⟨W,ai.refl _ _,kS⟩ (cj 6 0) 3 aK aB ?_;refine aD 6 ?_;refine bN (some 30) (λu=>λw'=>ah rs #[false,.slice none 0 0] 182 w'/\jg (M.natAbs+(-1)*N.natAbs) W.heap.size u w') (λu=>aK.and (jg.closed _ _ _)) (λw' hO hD=>(xn (-1) o_ _ _ (dg M.natAbs) (dg N.natAbs) o_ o_ (eF _) (eF _) qk _ (a5.out.below0 (hO.belowGe (B:=w.heap.size) J a6 u_)) (bx.out.below0 (hO.belowGe (B:=w.heap.size) J a6 u_))).mono λe w2 ⟨v,O,h1,h2,h3,h4,h5,h6⟩=>⟨v,h1,.of_below h6,hD.next h6,O,h2.le hO.size,h3,by rw[h4,eI,eI],o_⟩) (λu hne=>?_);refine ap ?_;refine aD 7 ?_;refine bN (some 31) (λu2=>λw'=>ah rs #[false,.slice none 0 0] 182 w'/\Wh W.heap.size K u2 w') (λu2=>aK.and bV) (λw' hO ⟨ae,O,h1,h2,h3,h4⟩=>(mq sa _ O o_ _ h1.rdL).mono λe w2 h=>let ⟨v,r1,r2,r3⟩:=h.whole (N:=K) (nk bX g aL hK hl).1 (nl h2 h3 (nk bX g aL hK hl).2);⟨v,r1,.of_below r3,ae.next r3,r2.le hO.size⟩) (λu2 hne=>?_);exact A7
def Kb(h:P:=by
 have:=bX.out;by_cases h0:K=0
 .exact .inr h0
 .left;cases sa<;>simp at this ⊢<;>omega):=h
def xQ(N)(a)(hN:(dg N.natAbs).length<=100000)(w)(ha:br N a w):
 Kp 320 #[a] w (dP (-N) w):=by
 obtain⟨la,rfl,a3⟩:=ha;have⟨kA,kS,J⟩:=cO w #[decide (N<0),la] 182 #[false,.slice none 0 0] 182;generalize a9:decide (N<0)=sa at *;have bX:=h_ a9;obtain⟨K,hK⟩:∃K,-N=K:=⟨_,rfl⟩
 rw[hK];have a6:=J.size;have F:K.natAbs=N.natAbs:=o_;have g:(!sa)=decide (K<0)\/K=0:=by
  exact Kb
 have HT:=h_ (λW (hb:af w w W)=>((mq (!sa) la (dg N.natAbs) o_ W ((h_ a3).out.below hb)).mono λe w' h=>h.whole (N:=K) g (by rw[rE,F])));clear g F hK;go_enter func320,ntmps320;go_upto_region 1 with fail
 generalize (w.alloc _).alloc _=W,b7:w.heap.size+1=rs at *;have⟨a0,a1⟩:=kA.q2;go_wp2_with fail
 refine (HT.out W J).mono ?_;rintro e w1 ⟨v,rfl,ba,I⟩;obtain⟨lv,rfl,Z⟩:=ba;obtain⟨sl,H,rfl,_⟩:=id Z.1;have aZ:=kS.next I
 have⟨c0,c1⟩:=aZ.q2;have⟨z0,z1⟩:=aZ.f2;have aL:=ag I a6 J;have k9:=(aZ.set 0 (decide (K<0))).set 1 (.slice sl (dg K.natAbs).length H);have ad:af w w ((w1.setCell rs (decide (K<0))).setCell ⟨rs,1,none⟩ (.slice sl (dg K.natAbs).length H)):=(aL.setCell u_ _).setCell u_ _;have az:=Z.set2 (S:=rs) kS.lt (decide (K<0)) (.slice sl (dg K.natAbs).length H);replace az:aW _ w _ _:=az.le a6;go_wp2;generalize (setCell (setCell _ _ _) _ _)=w9 at ad k9 az ⊢;have⟨q0,q1⟩:=k9.q2;exact Vk (v:=.agg #[decide (K<0),.slice sl (dg K.natAbs).length H]) (by simp [results,results320,go_sem,q0,q1]) rfl ⟨_,rfl,⟨_,rfl,az⟩,ad⟩
def br.below0{n}{N}{v}{w w1}(h:br N v w)(hb:af n w w1)(hn:n=w.heap.size:=by rfl):br N v w1:=h.below (hn▸hb)
def Ex(M N)(a b)(hM:(dg M.natAbs).length<=100000)(hN:(dg N.natAbs).length<=100000)(w)(ha:br M a w)(hb:br N b w):
 Kp 349 #[a,b] w (dP (M+-N) w):=by
 have g:=h_ ha;have aa:=h_ hb;obtain⟨la,rfl,_⟩:=ha;obtain⟨lb,rfl,_⟩:=hb;have⟨kA,kB,kS,J⟩:=fv w #[decide (M<0),la] 182 #[decide (N<0),lb] 182 #[false,.slice none 0 0] 182;generalize decide (M<0)=sa,decide (N<0)=sb at *;obtain⟨K,hK⟩:∃K,M+-N=K:=⟨_,rfl⟩
 rw[hK];have cb:(dg (-N).natAbs).length<=100000:=by rw[Int.natAbs_neg];exact hN
 have HK:=h_ hK;have a6:=J.size;go_enter func349,ntmps349;go_upto_region 1 with fail
 generalize ((w.alloc _).alloc _).alloc _=W,b7:w.heap.size+1+1=rs at *;have⟨a0,a1⟩:=kA.q2;have⟨b0,b1⟩:=kB.q2;have bo:=kA.lt;have b5:=kB.lt;have cu:=kS.lt;have cc:w.heap.size∉[rs]:=u_;have cy:w.heap.size+1∉[rs]:=u_;refine bw [rs] (λ_=>false) (λ_=>True) (ah rs #[false,.slice none 0 0] 182) k_ kS (aE ⟨W,ai.refl _ _,kS⟩ [true,true] 3 aK aB ?_);refine aD 2 (bN (some 7) (λu=>λw'=>ah rs #[false,.slice none 0 0] 182 w'/\Wh W.heap.size (-N) u w') (λu=>aK.and bV) (λw' hO hD=>(xQ N _ hN _ (aa.out.below0 (hO.belowGe (B:=w.heap.size) J a6 u_))).mono λe w2 ⟨v,h1,h2,h3⟩=>⟨v,h1,.of_below h3,hD.next h3,h2.le hO.size⟩) (λu hne=>?_));refine ap (aD 3 ?_);refine bN (some 8) (λu2=>λw'=>ah rs #[false,.slice none 0 0] 182 w'/\Wh W K u2 w') (λu2=>aK.and bV) (λw' hO hD=>(EZ M (-N) _ _ hM cb _ (g.out.below0 (hO.belowGe (B:=w.heap.size) J a6 u_)) hD.2.rd).mono λe w2 ⟨v,h1,h2,h3⟩=>⟨v,h1,.of_below h3,hD.1.next h3,HK.out▸h2.le hO.size⟩) (λu2 hne=>?_);refine ap ?_;obtain⟨w9,_,_,b6,rfl,az⟩:=id hne;obtain⟨sl,H,rfl,_⟩:=id az.1;refine aD 4 (fC (v:=.agg #[decide (K<0),.slice sl (dg K.natAbs).length H]) rs (#[false,.slice none 0 0]) (λw'=>ah rs #[decide (K<0),.slice sl (dg K.natAbs).length H] 182 w'/\aW w' W.heap.size (.slice sl (dg K.natAbs).length H) (dg K.natAbs)) (.inr s_) (λ_ hd=>hd.1) (aK.and (λ_ _ h hb=>⟨h.1.below hb,λhn=>(h.2 hn).below hb⟩)) (λw1 w2 hd Z hb=>⟨hb,hd.2.rdO.over Z u_⟩) (λhne=>?_));refine dn λWz a7 aX=>?_;have aM:=a7.belowGe (B:=w.heap.size) J a6 u_;have⟨q0,q1⟩:=aX.1.q2;have cv:=aX.2.le a6;go_wp2;exact Vk (v:=.agg #[decide (K<0),.slice sl (dg K.natAbs).length H]) (by simp [results,results349,go_sem,q0,q1]) rfl vC
def Ki(h:P:=by
 clear hI;go_wp2;go_roundw
 case rel=>exact⟨i+1,S,o_,by go_num,bZ,Z,hb⟩
 case measure=>exact aJ):=h
def uX(h:P:=by
 exact⟨_,rfl,⟨_,rfl,bp⟩,ad⟩):=h
def Fb{M N:Int}{s t}(h1:Hid (decide (M<0)=s))(h2:Hid (decide (N<0)=t)):(s != t)=decide (M*N<0)\/M*N=0:=by
 have h1:=h1.out;have h2:=h2.out;by_cases hM:M=0
 .right;rw[hM,Zy]
 by_cases hN:N=0
 .right;rw[hN,Ya]
 left;cases s<;>cases t<;>simp at h1 h2 ⊢
 .exact VP h1 h2
 .exact Xy o_ h2
 .exact Int.mul_neg_of_neg_of_pos h1 o_
 .exact Wc (Int.mul_pos_of_neg_of_neg h1 h2)
def jo(M N)(a b)(hM:(dg M.natAbs).length<=40000)(hN:(dg N.natAbs).length<=40000)(w)(ha:br M a w)(hb:br N b w):
 Kp 194 #[a,b] w (dP (M*N) w):=by
 obtain⟨la,rfl,a3⟩:=ha;obtain⟨lb,rfl,bq⟩:=hb;have⟨kA,kB,kS,J⟩:=fv w #[decide (M<0),la] 182 #[decide (N<0),lb] 182 #[false,.slice none 0 0] 182;have a5:=h_ a3;have bx:=h_ bq;generalize a9:decide (M<0)=sa,a8:decide (N<0)=sb at *;have bX:=h_ (Fb (h_ a9) (h_ a8));obtain⟨K,hK⟩:∃K,M*N=K:=⟨_,rfl⟩
 have HV:Hid (vl (dg M.natAbs)*vl (dg N.natAbs)=K.natAbs):=by
  show _=_;rw[eI,eI,<-hK,V_,Zg]
 rw[hK] at bX ⊢;have cB:=eF M.natAbs;have a7:=eF N.natAbs;generalize dg M.natAbs=A,dg N.natAbs=B at *;obtain⟨aa,ca,rfl,_,_⟩:=a3;obtain⟨ab,cb,rfl,_,_⟩:=bq;go_enter func194,ntmps194;go_upto_region 1 with fail
 generalize ((w.alloc _).alloc _).alloc _=W,b7:w.heap.size+1+1=rs at *;have HA:=h_ (a5.out.below J);have HB:=h_ (bx.out.below J);have⟨wm,b2,bs,b8⟩:=rm W (A.length+B.length+1) o_;simp at b2;have⟨_,a1⟩:=kA.q2;have⟨_,b1⟩:=kB.q2;go_upto_region 2 with fail
 have⟨_,cM⟩:=(kA.next b8).q2;generalize hG:W.heap.size=G at *;have HG:=h_ hG;have cu:rs<G:=by rw[<-HG.out];exact kS.lt
 have bo:w.heap.size<G:=by rw[<-HG.out];exact kA.lt
 have b5:w.heap.size+1<G:=by rw[<-HG.out];exact kB.lt
 go_upto_region 3 with fail
 go_loopw [23] (λiv wr=>∃(i:Nat) (S:List Int),i<=A.length/\iv=.int .i64 i/\Hid (S.length=A.length+B.length+1/\Dg S/\vl S=vl (A.take i)*vl B)/\ar wr G (.slice G (A.length+B.length+1) (A.length+B.length+1)) S/\af G W wr) (λiv _=>A.length - (intOf iv).toNat)
 case atStart=>exact⟨0,List.replicate (A.length+B.length+1) 0,o_,rfl,⟨s_,λx hx=>by rw[List.eq_of_mem_replicate hx];omega,by rw[ym];simp [vl]⟩,bs,b8⟩
 case round=>
  obtain⟨i,S,hi,rfl,hS,Z,hb⟩:=hrel;have F:=kA.next (HG.out▸hb)
  have ac:=kB.next (HG.out▸hb)
  have aZ:=kS.next (HG.out▸hb)
  by_cases aG:i<A.length
  .have aF:=cB.adi i;have⟨_,_,e1,_,b9⟩:=HA.out;injection e1 with e1 _ e2;subst e1 e2;obtain⟨ga,oa,rfl,q1,b3⟩:=b9 i aG;have d1:=(hb.cell (p:=⟨ga,oa+i,none⟩) (HG.out▸b3)).trans q1;generalize ex:A[i]?.getD 0=x at d1 aF;have HX:=h_ ex;go_upto_region 7 with fail
   go_loopw [8,9] (λcv kv wr=>∃(k:Nat) (c:Int) (S:List Int),i<=k/\k<=A.length+B.length+1/\cv=.int .i64 c/\kv=.int .i64 k/\Hid (Mi A B (A.length+B.length+1) i k x S c)/\ar wr G (.slice G (A.length+B.length+1) (A.length+B.length+1)) S/\af G W wr) (λ_ kv _=>A.length+B.length+1 - (intOf kv).toNat)
   case atStart=>exact⟨i,0,S,o_,o_,rfl,rfl,h_ (Mi.start hS.out.1 hS.out.2.1 hS.out.2.2),Z,hb⟩
   case round=>
    obtain⟨k,c,S,cm,hk,rfl,rfl,hI,Z,hb⟩:=hrel;by_cases cG:k<A.length+B.length+1
    .have hl:=h_ hI.out.len;have s1:=Z.cell (i:=k) (by rw[hl.out];exact cG);have f1:=Z.frozen k;have a8:=hI.out.dg.adi k;have a2:=hI.out.lo;have bv:=hI.out.hi;have ac:=kB.next (HG.out▸hb)
     have⟨_,cN⟩:=ac.q2;generalize es:S[k]?.getD 0=s at s1 a8;obtain⟨d,aX⟩:∃d,k=i+d:=⟨k - i,o_⟩
     have co:(k:Int) - (i:Int)=(d:Int):=o_;have bY:k - i=d:=o_;clear aX;by_cases hd:d<B.length
     .obtain⟨gb,ob,rfl,q2,cc⟩:=(by obtain⟨_,_,e1,_,aM⟩:=HB.out;injection e1 with e1 _ e2;subst e1 e2;exact aM d hd:∃g o,ab=some ⟨g,o,none⟩/\W.cell? ⟨g,o+d,none⟩=some (.int .i64 (B[d]?.getD 0))/\g<W.heap.size)
      have d2:=(hb.cell (p:=⟨gb,ob+d,none⟩) (HG.out▸cc)).trans q2;have ae:=a7.adi d;generalize V:B[d]?.getD 0=y at d2 ae;have hm:=up aF ae;have bi:0<=s+c+x*y:=o_;have bZ:=h_ (hI.out.step (y:=y) cG cm aF a7 es (by rw[bY];exact V));go_wp2;go_roundw
      case rel=>exact⟨k+1,(s+c+x*y) / 10000,S.set k ((s+c+x*y) % 10000),o_,o_,by go_num,by go_num,bZ,Z.setG hl.out.symm k _,hb.setCell (Vj _) _⟩
      case measure=>exact aJ
     .have V:B[k - i]?.getD 0=0:=by rw[bY];simp [hd]
      have bi:0<=s+c:=o_;have bZ:=h_ (hI.out.step cG cm aF a7 es V);rw[Ya,WM] at bZ;go_wp2;go_roundw
      case rel=>exact⟨k+1,(s+c) / 10000,S.set k ((s+c) % 10000),o_,o_,by go_num,by go_num,bZ,Z.setG hl.out.symm k _,hb.setCell (Vj _) _⟩
      case measure=>exact aJ
    .obtain rfl:k=A.length+B.length+1:=o_
     have bZ:=h_ (And.intro hI.out.len (And.intro hI.out.dg (hI.out.done cB a7 HX.out aG rfl).2));exact Ki
  .obtain rfl:i=A.length:=o_
   have hl:=hS.out.1;have HT:=h_ ((mg (sa != sb) _ S o_ wr Z.rdL).mono λe w' h=>h.whole (N:=K) bX.out (nl hS.out.2.1 (hS.out.2.2.trans (by rw[jm A (Vj _)])) HV.out));have a0:=F.q1;have b0:=ac.q1;have U:af w w wr:=ag (HG.out▸hb) J.size J;have ax:=U.size;go_wp2_with fail
   refine HT.out.mono ?_;rintro e w1 ⟨v,rfl,ba,I⟩;obtain⟨lv,rfl,az⟩:=ba;obtain⟨sl,H,rfl,_⟩:=id az.1;have a4:=aZ.next I
   have⟨c0,c1⟩:=a4.q2;have⟨z0,z1⟩:=a4.f2;have aL:=ag I ax U;have k9:=(a4.set 0 (decide (K<0))).set 1 (.slice sl (dg K.natAbs).length H);have ad:af w w ((w1.setCell rs (decide (K<0))).setCell ⟨rs,1,none⟩ (.slice sl (dg K.natAbs).length H)):=(aL.setCell u_ _).setCell u_ _;have bp:=az.set2 (S:=rs) aZ.lt (decide (K<0)) (.slice sl (dg K.natAbs).length H);replace bp:aW _ w _ _:=bp.le ax;go_wp2;generalize (setCell (setCell _ _ _) _ _)=w9 at ad k9 bp ⊢;have⟨q0,q1⟩:=k9.q2;exact Vk (v:=.agg #[decide (K<0),.slice sl (dg K.natAbs).length H]) (by simp [results,results194,go_sem,q0,q1]) rfl uX
def vJ(h:P:=by
 go_wp2;go_ret;exact⟨rfl,J⟩):=h
def Hl(h:P:=by
 rw[E];simp only[hm,hn,YI,X6] at J bi ⊢;have HB:=h_ J;clear F g c1 c2 c3 c4 hm hn E J;go_enter func255,ntmps255;go_wp2;go_ret;exact⟨rfl,HB.out⟩):=h
def Ka(h:P:=by
 have E:=h_ e1;clear e1;go_enter func254,ntmps254;go_wp2;go_ret;exact⟨by rw[E.out];rfl,rfl⟩):=h
def br.belowZ{n}{N}{v}{w w1}(h:br N v w)(hb:af n w w1)(hn:n=w.heap.size:=by rfl):br N v w1:=h.below (hn▸hb)
def qK(N)(a)(hN:(dg N.natAbs).length<=100000)(w)(ha:br N a w):
 Kp 197 #[a] w (dP (-N) w):=by
 obtain⟨la,rfl,a3⟩:=ha;have⟨kA,kS,J⟩:=cO w #[decide (N<0),la] 182 #[false,.slice none 0 0] 182;generalize a9:decide (N<0)=sa at *;have bX:=h_ a9;obtain⟨K,hK⟩:∃K,-N=K:=⟨_,rfl⟩
 rw[hK];have a6:=J.size;have F:K.natAbs=N.natAbs:=o_;have g:(!sa)=decide (K<0)\/K=0:=by
  exact Kb
 have HT:=h_ (λW (hb:af w w W)=>((mg (!sa) la (dg N.natAbs) o_ W ((h_ a3).out.below hb)).mono λe w' h=>h.whole (N:=K) g (by rw[rE,F])));clear g F hK;go_enter func197,ntmps197;go_upto_region 1 with fail
 generalize (w.alloc _).alloc _=W,b7:w.heap.size+1=rs at *;have⟨a0,a1⟩:=kA.q2;go_wp2_with fail
 refine (HT.out W J).mono ?_;rintro e w1 ⟨v,rfl,ba,I⟩;obtain⟨lv,rfl,Z⟩:=ba;obtain⟨sl,H,rfl,_⟩:=id Z.1;have aZ:=kS.next I
 have⟨c0,c1⟩:=aZ.q2;have⟨z0,z1⟩:=aZ.f2;have aL:=ag I a6 J;have k9:=(aZ.set 0 (decide (K<0))).set 1 (.slice sl (dg K.natAbs).length H);have ad:af w w ((w1.setCell rs (decide (K<0))).setCell ⟨rs,1,none⟩ (.slice sl (dg K.natAbs).length H)):=(aL.setCell u_ _).setCell u_ _;have az:=Z.set2 (S:=rs) kS.lt (decide (K<0)) (.slice sl (dg K.natAbs).length H);replace az:aW _ w _ _:=az.le a6;clear HT Z;go_wp2;generalize (setCell (setCell _ _ _) _ _)=w9 at ad k9 az ⊢;have⟨q0,q1⟩:=k9.q2;exact Vk (v:=.agg #[decide (K<0),.slice sl (dg K.natAbs).length H]) (by simp [results,results197,go_sem,q0,q1]) rfl ⟨_,rfl,⟨_,rfl,az⟩,ad⟩
def B7(M n:Int)(a)(hM:(dg M.natAbs).length<=40000)(hn:-1000000000000000000<=n/\n<=1000000000000000000)(w)(ha:br M a w):
 Kp 199 #[a,n] w (dP (M*n) w):=by
 have g:=h_ ha;obtain⟨la,rfl,_⟩:=ha;have⟨kA,kS,J⟩:=cO w #[decide (M<0),la] 182 #[false,.slice none 0 0] 182;generalize decide (M<0)=sa at *;obtain⟨K,hK⟩:∃K,M*n=K:=⟨_,rfl⟩
 rw[hK];have cb:(dg n.natAbs).length<=40000:=Vl (ft (k:=5) o_) o_;have HK:=h_ hK;have a6:=J.size;go_enter func199,ntmps199;go_upto_region 1 with fail
 generalize (w.alloc _).alloc _=W,b7:w.heap.size+1=rs at *;have⟨a0,a1,bo⟩:=kA.p2;have cu:=kS.lt;have cc:w.heap.size∉[rs]:=u_;refine bw [rs] (λ_=>false) (λ_=>True) (ah rs #[false,.slice none 0 0] 182) k_ kS (aE ⟨W,ai.refl _ _,kS⟩ [true,true] 3 aK aB ?_);refine aD 2 (bN (some 7) (λu=>λw'=>ah rs #[false,.slice none 0 0] 182 w'/\Wh W.heap.size n u w') (λu=>aK.and bV) (λw' hO hD=>(fF n hn w').mono λe w2 ⟨v,h1,h2,h3⟩=>⟨v,h1,.of_below h3,hD.next h3,h2.le hO.size⟩) (λu hne=>?_));refine ap (aD 3 ?_);refine bN (some 8) (λu2=>λw'=>ah rs #[false,.slice none 0 0] 182 w'/\Wh W K u2 w') (λu2=>aK.and bV) (λw' hO hD=>(jo M n _ _ hM cb _ (g.out.belowZ (hO.belowGe (B:=w.heap.size) J a6 u_)) hD.2.rd).mono λe w2 ⟨v,h1,h2,h3⟩=>⟨v,h1,.of_below h3,hD.1.next h3,HK.out▸h2.le hO.size⟩) (λu2 hne=>?_);refine ap ?_;obtain⟨w9,_,_,b6,rfl,az⟩:=id hne;obtain⟨sl,H,rfl,_⟩:=id az.1;refine aD 4 (fC (v:=.agg #[decide (K<0),.slice sl (dg K.natAbs).length H]) rs (#[false,.slice none 0 0]) (λw'=>ah rs #[decide (K<0),.slice sl (dg K.natAbs).length H] 182 w'/\aW w' W.heap.size (.slice sl (dg K.natAbs).length H) (dg K.natAbs)) (.inr s_) (λ_ hd=>hd.1) (aK.and (λ_ _ h hb=>⟨h.1.below hb,λhn=>(h.2 hn).below hb⟩)) (λw1 w2 hd Z hb=>⟨hb,hd.2.rdO.over Z u_⟩) (λhne=>?_));refine dn λWz a7 aX=>?_;have aM:=a7.belowGe (B:=w.heap.size) J a6 u_;have⟨q0,q1⟩:=aX.1.q2;have cv:=aX.2.le a6;go_wp2;exact Vk (v:=.agg #[decide (K<0),.slice sl (dg K.natAbs).length H]) (by simp [results,results199,go_sem,q0,q1]) rfl vC
def O3(a:Int)(ha:sV a)(w):
 Rw 254 #[a,(2:Int)] w (a / 2:Int):=by
 obtain⟨e1,b1,b2⟩:(a / 2=if a.tmod 2<0 then a.tdiv 2 - 1 else a.tdiv 2)/\(-1<=a.tmod 2/\a.tmod 2<=1)/\(-1000000000<=a.tdiv 2/\a.tdiv 2<=1000000000):=by
  rcases VJ a 0 with h|h
  .obtain⟨n,hn,h0⟩:∃n:Int,a=-n/\0<=n:=⟨-a,o_,o_⟩
   subst hn;rw[Int.neg_tmod,Int.neg_tdiv,WC h0,WY h0];refine⟨?_,o_,o_⟩;split<;>omega
  .rw[WC h,WY h];refine⟨?_,o_,o_⟩;split<;>omega
 have e2:IntKind.i64.wrap (a.tdiv 2)=a.tdiv 2:=by rw[XE];unfold wrap64;omega
 have e3:IntKind.i64.wrap (a.tmod 2)=a.tmod 2:=by rw[XE];unfold wrap64;omega
 by_cases h:a.tmod 2<0
 .rw[Vo h] at e1;exact Ka
 .rw[Vm h] at e1;exact Ka
def Td{M N}:(M<0->¬N<0->dD M N=-1)/\(¬M<0->N<0->dD M N=1)/\(M<0->N<0->dD N.natAbs M.natAbs=dD M N)/\(¬M<0->¬N<0->dD M.natAbs N.natAbs=dD M N):=by
 unfold dD;refine⟨λh1 h2=>?_,λh1 h2=>?_,λh1 h2=>?_,λh1 h2=>?_⟩<;>(repeat' split)<;>omega
def MM(M N)(a b)(hM:(dg M.natAbs).length<=100000)(hN:(dg N.natAbs).length<=100000)(w)(ha:br M a w)(hb:br N b w):
 Rv 255 #[a,b] w (dD M N):=by
 obtain⟨la,rfl,a3⟩:=ha;obtain⟨lb,rfl,bq⟩:=hb;have⟨c1,c2,c3,c4⟩:=@Td M N;have F:=h_ (λ(na nb:Bool) (W:World) (hb:af w w W)=>wX na nb la lb (dg M.natAbs) (dg N.natAbs) hM (eF _) (eF _) (qn _) (qn _) W (a3.below hb) (bq.below hb));have g:=h_ (λ(na nb:Bool) (W:World) (hb:af w w W)=>wX nb na lb la (dg N.natAbs) (dg M.natAbs) hN (eF _) (eF _) (qn _) (qn _) W (bq.below hb) (a3.below hb));rw[eI,eI] at F g;obtain⟨-,-,J⟩:=nw w #[decide (M<0),la] 182 #[decide (N<0),lb] 182;have bi:=J.size;by_cases hm:M<0<;>by_cases hn:N<0
 .have E:=c3 hm hn;rw[E] at g;generalize dD M N=K at *;simp only[hm,hn,YI] at J bi ⊢;have HB:=h_ J;go_enter func255,ntmps255;go_wp2_with fail
  refine aj (g.out _ _ _ HB.out) λw2 U=>?_;go_wp2;go_ret;exact⟨rfl,ag U bi HB.out⟩
 .have E:=c1 hm hn;exact Hl
 .have E:=c2 hm hn;exact Hl
 .have E:=c4 hm hn;rw[E] at F;generalize dD M N=K at *;simp only[hm,hn,X6] at J bi ⊢;have HB:=h_ J;go_enter func255,ntmps255;go_wp2_with fail
  refine aj (F.out _ _ _ HB.out) λw2 U=>?_;go_wp2;go_ret;exact⟨rfl,ag U bi HB.out⟩
def Ej{S:List Int}{j}(h:j<S.length)(v)(k):(S.set j v)[k]?.getD 0=if j=k then v else S[k]?.getD 0:=by
 rw[List.getElem?_set];split
 .rename_i e;subst e;simp
 .rfl
structure Su (a b:List Int)(n i k:Nat)(x:Int)(S:List Int):Prop where
 len:S.length=n
 bd:∀j:Nat,0<=S[j]?.getD 0/\S[j]?.getD 0<=((i:Int)+1)*99980001
 tl:∀j:Nat,i+k<=j->S[j]?.getD 0<=(i:Int)*99980001
 eq:vl S=vl (a.take i)*vl b+10000 ^ i*(x*vl (b.take k))
def Su.step{a b}{n i k}{x y s}{S}(h:Su a b n i k x S)(hk:i+k<n)(hx:0<=x/\x<=9999)(hb:Dg b)(hs:S[i+k]?.getD 0=s)(hy:b[k]?.getD 0=y):Su a b n i (k+1) x (S.set (i+k) (s+x*y)):=by
 have ae:=hb.adi k;rw[hy] at ae;have hm:=up hx ae;have h1:=h.tl (i+k) (Vj _);have h2:=(h.bd (i+k)).1;rw[hs] at h1 h2;have hl:i+k<S.length:=by rw[h.len];exact hk
 refine⟨by simp [h.len],λj=>?_,λj hj=>?_,?_⟩
 .rw[Ej hl];split
  .rw[YJ];omega
  .exact h.bd j
 .rw[Ej hl,Vm o_];exact h.tl j o_
 .rw[zt hl,hs,h.eq,jq,hy,Int.pow_add,Wn,Wn,Xj x,show s+x*y - s=x*y by omega,Wd,YU]
structure So (a b:List Int)(n i:Nat)(S:List Int):Prop where
 len:S.length=n
 bd:∀j:Nat,0<=S[j]?.getD 0/\S[j]?.getD 0<=(i:Int)*99980001
 eq:vl S=vl (a.take i)*vl b
def So.start{a b}(n):So a b n 0 (List.replicate n 0):=by
 refine⟨s_,λj=>?_,by rw[ym];simp [vl]⟩;have:(List.replicate n (0:Int))[j]?.getD 0=0:=by
  rw[List.getElem?_replicate];split<;>rfl
 rw[this];omega
def So.su{a b}{n i}{S}(h:So a b n i S)(x):Su a b n i 0 x S:=
 ⟨h.len,λj=>by have:=h.bd j;omega,λj _=>(h.bd j).2,by rw[h.eq];simp [vl]⟩
def Su.so{a b}{n i}{x}{S}(h:Su a b n i b.length x S)(hx:a[i]?.getD 0=x):So a b n (i+1) S:=
 ⟨h.len,λj=>by have:=h.bd j;rw[Int.natCast_add];exact this,by rw[h.eq,jm b (Vj _),jq,hx,YJ,Wd]⟩
structure Ca (S:List Int)(Bd:Int)(i:Nat)(O:List Int)(c:Int):Prop where
 len:O.length=i
 dg:Dg O
 lo:0<=c
 hi:c<=Bd
 eq:vl O+c*10000 ^ i=vl (S.take i)
def Ca.start{S}{Bd}(h:0<=Bd):Ca S Bd 0 [] 0:=⟨rfl,λx hx=>by simp at hx,o_,h,by simp [vl]⟩
def Ca.step{S}{Bd s c}{i}{O}(h:Ca S Bd i O c)(hs:S[i]?.getD 0=s)(hb:0<=s/\s<=Bd):Ca S Bd (i+1) (O++[(s+c) % 10000]) ((s+c) / 10000):=by
 have H:=h.lo;have g:=h.hi;refine⟨by simp [h.len],h.dg.snoc o_,o_,o_,?_⟩;have he:=h.eq;rw[Es,h.len,jq,hs,VR,Xj,YU,<-Wn,show (s+c) % 10000+(s+c) / 10000*10000=c+s by omega,Wn,Wu _ c];omega
def Ca.done{S}{Bd c V}{n}{O}(h:Ca S Bd n O c)(hl:S.length=n)(hV:vl S=V)(aG:V<10000 ^ n):vl O=V:=by
 have he:=h.eq;rw[jm S o_,hV] at he;have h2:=h.dg.nn;have H:=h.lo;have G:=pJ n;rcases (by omega:0<c\/c=0) with hc|hc
 .exfalso;have:=Wl (show (1:Int)<=c by omega) (show (0:Int)<=10000 ^ n by omega);rw[XA] at this;omega
 .subst hc;rw[Zy,WM] at he;exact he
def TY{S O:List Int}{i}(h:O.length=i):(O++S.drop i)[i]?.getD 0=S[i]?.getD 0:=by
 rw[Wp o_,h,XB,W_];rfl
def Uc{S O:List Int}{i}(h:O.length=i)(hi:i<S.length)(d):(O++S.drop i).set i d=(O++[d])++S.drop (i+1):=by
 rw[Zh,Vm o_,h,XB,WG hi,Wj,VX];rfl
def UC{S O:List Int}{i}(h:O.length=i)(hi:i<=S.length):(O++S.drop i).length=S.length:=by simp;omega
def EJ(M N)(a b)(hM:(dg M.natAbs).length<=40000)(hN:(dg N.natAbs).length<=40000)(w)(ha:br M a w)(hb:br N b w):
 Kp 317 #[a,b] w (dP (M*N) w):=by
 obtain⟨la,rfl,a3⟩:=ha;obtain⟨lb,rfl,bq⟩:=hb;have⟨kA,kB,kS,J⟩:=fv w #[decide (M<0),la] 182 #[decide (N<0),lb] 182 #[false,.slice none 0 0] 182;have a5:=h_ a3;have bx:=h_ bq;generalize a9:decide (M<0)=sa,a8:decide (N<0)=sb at *;have bX:=h_ (Fb (h_ a9) (h_ a8));obtain⟨K,hK⟩:∃K,M*N=K:=⟨_,rfl⟩
 have HV:Hid (vl (dg M.natAbs)*vl (dg N.natAbs)=K.natAbs):=by
  show _=_;rw[eI,eI,<-hK,V_,Zg]
 rw[hK] at bX ⊢;clear hK;have cB:=eF M.natAbs;have a7:=eF N.natAbs;generalize dg M.natAbs=A,dg N.natAbs=B at *;have a6:=J.size;obtain⟨aa,ca,rfl,_,_⟩:=a3;obtain⟨ab,cb,rfl,_,_⟩:=bq;go_enter func317,ntmps317;go_upto_region 1 with fail
 generalize ((w.alloc _).alloc _).alloc _=W,b7:w.heap.size+1+1=rs at *;have HA:=h_ (a5.out.below J);have HB:=h_ (bx.out.below J);have⟨wm,b2,bs,b8⟩:=rm W (A.length+B.length) o_;simp at b2;have⟨_,a1⟩:=kA.q2;have⟨_,b1⟩:=kB.q2;go_upto_region 2 with fail
 clear b2;have⟨_,cM⟩:=(kA.next b8).q2;generalize hG:W.heap.size=G at *;have HG:=h_ hG;clear hG;have cu:rs<G:=by rw[<-HG.out];exact kS.lt
 have bo:w.heap.size<G:=by rw[<-HG.out];exact kA.lt
 have b5:w.heap.size+1<G:=by rw[<-HG.out];exact kB.lt
 go_upto_region 3 with fail
 go_loopw [24] (λiv wr=>∃(i:Nat) (S:List Int),i<=A.length/\iv=.int .i64 i/\Hid (So A B (A.length+B.length) i S)/\ar wr G (.slice G (A.length+B.length) (A.length+B.length)) S/\af G W wr) (λiv _=>A.length - (intOf iv).toNat)
 case atStart=>exact⟨0,List.replicate (A.length+B.length) 0,o_,rfl,h_ (So.start _),bs,b8⟩
 case round=>
  clear bs b8 cM;obtain⟨i,S,hi,rfl,hS,Z,hb⟩:=hrel;by_cases aG:i<A.length
  .have aF:=cB.adi i;have⟨_,_,e1,_,b9⟩:=HA.out;injection e1 with e1 _ e2;subst e1 e2;obtain⟨ga,oa,rfl,q1,b3⟩:=b9 i aG;have d1:=(hb.cell (p:=⟨ga,oa+i,none⟩) (HG.out▸b3)).trans q1;have ac:=kB.next (HG.out▸hb)
   have⟨_,cN⟩:=ac.q2;generalize ex:A[i]?.getD 0=x at d1 aF;have HX:=h_ ex;clear ex q1 b9;go_upto_region 6 with fail
   go_loopw [32] (λkv wr=>∃(k:Nat) (S:List Int),k<=B.length/\kv=.int .i64 k/\Hid (Su A B (A.length+B.length) i k x S)/\ar wr G (.slice G (A.length+B.length) (A.length+B.length)) S/\af G W wr) (λkv _=>B.length - (intOf kv).toNat)
   case atStart=>exact⟨0,S,o_,rfl,h_ (hS.out.su x),Z,hb⟩
   case round=>
    clear hS Z ac hb d1 cN;obtain⟨k,S,hk,rfl,hI,Z,hb⟩:=hrel;by_cases cG:k<B.length
    .have hl:=h_ hI.out.len;have cm:i+k<(A.length+B.length):=o_;have s1:=Z.cell (i:=i+k) (by rw[hl.out];exact cm);have f1:=Z.frozen (i+k);have a8:=hI.out.bd (i+k);have cW:((i:Int)+1)*99980001<=5000000000000:=o_;generalize es:S[i+k]?.getD 0=s at s1 a8;obtain⟨gb,ob,rfl,q2,cc⟩:=(by obtain⟨_,_,e1,_,aM⟩:=HB.out;injection e1 with e1 _ e2;subst e1 e2;exact aM k cG:∃g o,ab=some ⟨g,o,none⟩/\W.cell? ⟨g,o+k,none⟩=some (.int .i64 (B[k]?.getD 0))/\g<W.heap.size)
     have d2:=(hb.cell (p:=⟨gb,ob+k,none⟩) (HG.out▸cc)).trans q2;have ae:=a7.adi k;generalize V:B[k]?.getD 0=y at d2 ae;have hm:=up aF ae;have cT:0<=s/\s<=5000000000000:=o_;have bi:0<=s+x*y:=o_;have bZ:=h_ (hI.out.step (y:=y) cm aF a7 es V);clear es V q2 hI a8 cW;go_wp2;go_roundw
     case rel=>exact⟨k+1,S.set (i+k) (s+x*y),o_,by go_num,bZ,Z.setG hl.out.symm (i+k) _,hb.setCell (Vj _) _⟩
     case measure=>exact aJ
    .obtain rfl:k=B.length:=o_
     have bZ:=h_ (hI.out.so HX.out);exact Ki
  .obtain rfl:i=A.length:=o_
   have bY:=h_ hS.out.len;have b6:=h_ hS.out.bd;have cP:Hid (vl S=K.natAbs):=by
    show _=_;rw[hS.out.eq,jm A (Vj _),HV.out]
   clear hS;have cA:(0:Int)<=(A.length:Int)*99980001:=o_;have cF:(A.length:Int)*99980001<=4000000000000:=o_;obtain⟨Bd,cy⟩:∃Bd,(A.length:Int)*99980001=Bd:=⟨_,rfl⟩
   rw[cy] at b6 cA cF;clear cy;go_upto_region 13 with fail
   go_loopw [10,52] (λcv iv wr=>∃(i:Nat) (c:Int) (O:List Int),i<=(A.length+B.length)/\cv=.int .i64 c/\iv=.int .i64 i/\Hid (Ca S Bd i O c)/\ar wr G (.slice G (A.length+B.length) (A.length+B.length)) (O++S.drop i)/\af G W wr) (λ_ iv _=>(A.length+B.length) - (intOf iv).toNat)
   case atStart=>exact⟨0,0,[],o_,rfl,rfl,h_ (Ca.start cA),by simpa using Z,hb⟩
   case round=>
    clear Z hb;obtain⟨i,c,O,cQ,rfl,rfl,hI,Z,hb⟩:=hrel;have bz:=h_ hI.out.len;by_cases aX:i<(A.length+B.length)
    .have cz:Hid ((O++S.drop i).length=(A.length+B.length)):=by
      show _=_;rw[UC bz.out (by rw[bY.out];exact cQ),bY.out]
     have s1:=Z.cell (i:=i) (by rw[cz.out];exact aX);rw[TY bz.out] at s1;have f1:=Z.frozen i;have a8:=b6.out i;have a2:=hI.out.lo;have bv:=hI.out.hi;generalize es:S[i]?.getD 0=s at s1 a8;have bi:0<=s+c:=o_;have bZ:=h_ (hI.out.step es a8);have b4:=h_ (Uc bz.out (by rw[bY.out];exact aX) ((s+c) % 10000));clear es hI;go_wp2;go_roundw
     case rel=>exact⟨i+1,(s+c) / 10000,O++[(s+c) % 10000],o_,by go_num,by go_num,bZ,by rw[<-b4.out];exact Z.setG cz.out.symm i _,hb.setCell (Vj _) _⟩
     case measure=>exact aJ
    .obtain rfl:i=(A.length+B.length):=o_
     have co:=hI.out.done bY.out cP.out (by rw[<-HV.out];exact Fr cB a7 (Vj _) (Vj _));rw[XH (by rw[bY.out];exact Vj _),V5] at Z;have F:=kA.next (HG.out▸hb)
     have ac:=kB.next (HG.out▸hb)
     have aZ:=kS.next (HG.out▸hb)
     have cX:=h_ (nl hI.out.dg co rfl);have bb:=Z.rdL;have⟨_,_,e9,_⟩:=id bb;have HT:=h_ ((mq (sa != sb) _ O (by rw[bz.out];omega) wr bb).mono λe w' h=>h.whole (N:=K) bX.out cX.out);clear co hI e9 bb;have a0:=F.q1;have b0:=ac.q1;have U:af w w wr:=ag (HG.out▸hb) a6 J;have ax:=U.size;go_wp2_with fail
     refine HT.out.mono ?_;rintro e w1 ⟨v,rfl,ba,I⟩;obtain⟨lv,rfl,az⟩:=ba;obtain⟨sl,H,rfl,_⟩:=id az.1;have a4:=aZ.next I
     have⟨c0,c1⟩:=a4.q2;have⟨z0,z1⟩:=a4.f2;have aL:=ag I ax U;have k9:=(a4.set 0 (decide (K<0))).set 1 (.slice sl (dg K.natAbs).length H);have ad:af w w ((w1.setCell rs (decide (K<0))).setCell ⟨rs,1,none⟩ (.slice sl (dg K.natAbs).length H)):=(aL.setCell u_ _).setCell u_ _;have bp:=az.set2 (S:=rs) aZ.lt (decide (K<0)) (.slice sl (dg K.natAbs).length H);replace bp:aW _ w _ _:=bp.le ax;clear HT az;go_wp2;generalize (setCell (setCell _ _ _) _ _)=w9 at ad k9 bp ⊢;have⟨q0,q1⟩:=k9.q2;exact Vk (v:=.agg #[decide (K<0),.slice sl (dg K.natAbs).length H]) (by simp [results,results317,go_sem,q0,q1]) rfl uX
def ij(A B:Int):Nat->Int->Int->Int
 |0,lo,_=>lo
 |f+1,lo,hi=>if lo<hi then (if A<=B*((lo+hi) / 2) then ij A B f lo ((lo+hi) / 2) else ij A B f ((lo+hi) / 2+1) hi) else lo
def eh(A B:Int):Int:=ij A B 20001 (-10000) 10000
def kh(A B:Int):Bool:=B*eh A B==A
theorem pI(A B):∀(f) (lo hi),lo<=hi->lo<=ij A B f lo hi/\ij A B f lo hi<=hi
 |0,lo,hi,h=>by unfold ij;omega
 |f+1,lo,hi,h=>by
  unfold ij;split
  .split
   .have:=pI A B f lo ((lo+hi) / 2) o_;omega
   .have:=pI A B f ((lo+hi) / 2+1) hi o_;omega
  .omega
def TU{x y}:(0<=dD x y)↔y<=x:=by unfold dD;split;omega;split<;>omega
def TO{x y}:(dD x y==0)=(x==y):=by
 unfold dD;split
 .rw[Xu];simp;omega
 .split
  .rw[Xu];simp;omega
  .rw[Xu];simp;omega
def T8{B m}(hB:B.natAbs<10000 ^ 60)(hm:a_ m):(dg (B*m).natAbs).length<=100000:=by
 refine Vl (ft (k:=62) ?_) o_;rw[V_];have h1:m.natAbs<=10000:=o_;have h2:B.natAbs*m.natAbs<=10000 ^ 60*10000:=Xp o_ h1;omega
def MP(A B)(a b)(hA:A.natAbs<10000 ^ 60)(hB:B.natAbs<10000 ^ 60)(w)(ha:br A a w)(hb:br B b w):
 Rv 198 #[a,b,(10000:Int)] w (.tuple #[eh A B,.bool (kh A B)]):=by
 have F:(dg A.natAbs).length<=100000:=Vl (ft hA) o_;have Z:(dg B.natAbs).length<=40000:=Vl (ft hB) o_;have HT:=h_ (λ(n:Int) (W:World) (hn:a_ n) (aL:af w w W)=>B7 B n b Z o_ W ((h_ hb).out.below aL));have HC:=h_ (λ(n:Int) (u:Value) (W:World) (hn:a_ n) (aL:af w w W) (hu:br (B*n) u W)=>MM (B*n) A u a (T8 hB hn) F W hu ((h_ ha).out.below aL));obtain⟨la,rfl,_⟩:=ha;obtain⟨lb,rfl,_⟩:=hb;have⟨kA,kB,J⟩:=cO w #[decide (A<0),la] 182 #[decide (B<0),lb] 182;have HV:Hid (∀lo hi f,ij A B f lo hi=eh A B->¬lo<hi->lo=eh A B):=h_ (λlo hi f h hn=>by
  cases f with
  |zero=>exact h
  |succ f=>unfold ij at h;rw[Vm hn] at h;exact h)
 have hV:Hid (eh A B=ij A B 20001 (-10000) 10000):=rfl;have HO:Hid (kh A B=(B*eh A B==A)):=rfl;have bq:-10000<=eh A B/\eh A B<=10000:=pI A B _ _ _ o_;generalize decide (A<0)=sa,decide (B<0)=sb,eh A B=V,kh A B=O at *;have a6:=J.size;go_enter func198,ntmps198;go_upto_region 1 with fail
 generalize (w.alloc _).alloc _=W at *;have l1:=kA.lt;have l2:=kB.lt;generalize ab:w.heap.size=rA at *;generalize aa:rA+1=rB at *;go_wp2;go_loopw [8,9] (λx y wr=>∃(lo hi:Int) (f:Nat),x=.int .i64 lo/\y=.int .i64 hi/\(-10000<=lo/\lo<=hi/\hi<=10000)/\hi - lo<(f:Int)/\Hid (ij A B f lo hi=V)/\af W W wr) (λx y _=>(intOf y - intOf x).toNat)
 case atStart=>exact⟨-10000,10000,20001,rfl,rfl,o_,o_,by show _=_;rw[hV.out],Vn _ _⟩
 case round=>
  obtain⟨lo,hi,f,rfl,rfl,hr,hf,HF,ba⟩:=hrel;have I:=kA.next ba
  have G:=kB.next ba
  have lA:=I.lt;have lB:=G.lt;have a8:=ag ba o_ J;by_cases aG:lo<hi
  .have hm:lo<=(lo+hi) / 2/\(lo+hi) / 2<hi:=o_;obtain⟨g,rfl⟩:∃g,f=g+1:=⟨f - 1,o_⟩
   have HS:Hid ((A<=B*((lo+hi) / 2)->ij A B g lo ((lo+hi) / 2)=V)/\(¬A<=B*((lo+hi) / 2)->ij A B g ((lo+hi) / 2+1) hi=V)):=by
    have h:=HF.out;unfold ij at h;rw[Vo aG] at h;exact⟨λh1=>by rw[Vo h1] at h;exact h,λh1=>by rw[Vm h1] at h;exact h⟩
   have HM:=h_ (O3 (lo+hi) o_);generalize (lo+hi) / 2=mid at *;go_wp2_with fail
   refine (HM.out _).mono ?_;rintro e _ ⟨rfl,rfl⟩;have⟨a0,a1⟩:=I.q2;have⟨b0,b1⟩:=G.q2;go_upto_region 4 with fail
   obtain⟨cv,a9⟩:∃cv,dD (B*mid) A=cv:=⟨_,rfl⟩
   have HG:Hid (0<=cv↔A<=B*mid):=by rw[<-a9];exact TU
   have K:=h_ a9;refine bw [] (λ_=>false) (λ_=>True) (λ_=>True) k_ (trivial) (aE ⟨wr.drew,(ai.refl _ _).drew,trivial⟩ [ae,ae,ac,ae] 3 ao aB ?_);refine aD 2 (bN (some 23) (λu=>λw'=>br (B*mid) u w') (λu=>λ_ _ h hb=>h.below hb) (λw' hO hD=>(HT.out mid w' o_ (ag hO.below o_ a8)).mono λe w2 ⟨v,h1,h2,h3⟩=>⟨v,h1,.of_below h3,h2.rd⟩) (λu hne=>?_));refine ap (aD 4 ?_);refine mf (v:=.int .i64 cv) (some 25) (λ_=>True) r_ r_ r_ (λ_=>by go_simp) ao (λw' hO hD=>(HC.out mid u w' o_ (ag hO.below o_ a8) hD).mono λe w2 h=>⟨K.out▸h.1,.of_below h.2,trivial⟩) (λhne=>?_);refine ap ?_;refine aE hne (bk 5 1) 0 ao aB ?_;refine dn λWz a7 aX=>?_;have aM:=ag a7.below ba.size ba;by_cases U:0<=cv
   .have cm:=HG.out.1 U;have HN:=h_ (HS.out.1 cm);go_wp2;go_roundw
    case rel=>exact⟨lo,mid,g,rfl,rfl,o_,o_,HN,aM⟩
    case measure=>exact aJ
   .have cm:¬A<=B*mid:=λh=>U (HG.out.2 h);go_wp2;go_roundw
    case rel=>exact⟨mid+1,hi,g,by go_num,rfl,o_,o_,(h_ (HS.out.2 (Int.not_le.1 cm))),aM⟩
    case measure=>exact aJ
  .have H:=HV.out lo hi f HF.out (Y0.1 aG);subst H;have⟨a0,a1⟩:=I.q2;have⟨b0,b1⟩:=G.q2;obtain⟨cv,a9⟩:∃cv,dD (B*lo) A=cv:=⟨_,rfl⟩
   have HG:Hid ((cv==0)=O):=by rw[<-a9,HO.out];exact TO
   go_upto_region 7 with fail
   refine bw [] (λ_=>false) (λ_=>True) (λ_=>True) k_ (trivial) (aE ⟨wr.drew,(ai.refl _ _).drew,trivial⟩ [ae,ae,ae,ac,ae] 5 ao aB ?_);refine aD 3 (bN (some 33) (λu=>λw'=>br (B*lo) u w') (λu=>λ_ _ h hb=>h.below hb) (λw' hO hD=>(HT.out lo w' o_ (ag hO.below o_ a8)).mono λe w2 ⟨v,h1,h2,h3⟩=>⟨v,h1,.of_below h3,h2.rd⟩) (λu hne=>?_));refine ap (aD 5 ?_);refine mf (v:=.int .i64 cv) (some 35) (λ_=>True) r_ r_ r_ (λ_=>by go_simp) ao (λw' hO hD=>(HC.out lo u w' o_ (ag hO.below o_ a8) hD).mono λe w2 h=>⟨(h_ a9).out▸h.1,.of_below h.2,trivial⟩) (λhne=>?_);refine ap ?_;refine aE hne (bk 6 3) 0 ao aB ?_;refine dn λWz a7 aX=>?_;have aM:=ag a7.below o_ a8;have hg:=HG.out;generalize (cv==0)=Q at *;subst hg;go_wp2;go_ret2;exact⟨rfl,aM⟩
def Qz(M n:Int)(a)(hM:(dg M.natAbs).length<=40000)(hn:-1000000000000000000<=n/\n<=1000000000000000000)(w)(ha:br M a w):
 Kp 318 #[a,n] w (dP (M*n) w):=by
 have g:=h_ ha;have ae:(dg n.natAbs).length<=5:=ft o_;obtain⟨la,rfl,_⟩:=ha;have⟨kA,kS,J⟩:=cO w #[decide (M<0),la] 182 #[false,.slice none 0 0] 182;generalize decide (M<0)=sa at *;obtain⟨K,hK⟩:∃K,M*n=K:=⟨_,rfl⟩
 rw[hK];have HK:=h_ hK;have HN:=h_ (rL n hn);have a6:=J.size;go_enter func318,ntmps318;go_upto_region 1 with fail
 generalize (w.alloc _).alloc _=W,b7:w.heap.size+1=rs at *;have⟨a0,a1,bo⟩:=kA.p2;have cu:=kS.lt;have cc:w.heap.size∉[rs]:=u_;refine bw [rs] (λ_=>false) (λ_=>True) (ah rs #[false,.slice none 0 0] 182) k_ kS (aE ⟨W,ai.refl _ _,kS⟩ [true,true] 3 aK aB ?_);refine aD 2 (bN (some 7) (λu=>λw'=>ah rs #[false,.slice none 0 0] 182 w'/\Wh W.heap.size n u w') (λu=>aK.and bV) (λw' hO hD=>(HN.out _).mono λe w2 ⟨v,h1,h2,h3⟩=>⟨v,h1,.of_below h3,hD.next h3,h2.le hO.size⟩) (λu hne=>?_));refine ap (aD 3 ?_);refine bN (some 8) (λu2=>λw'=>ah rs #[false,.slice none 0 0] 182 w'/\Wh W K u2 w') (λu2=>aK.and bV) (λw' hO hD=>(EJ M n _ _ hM o_ _ (g.out.below0 (hO.belowGe (B:=w.heap.size) J a6 u_)) hD.2.rd).mono λe w2 ⟨v,h1,h2,h3⟩=>⟨v,h1,.of_below h3,hD.1.next h3,HK.out▸h2.le hO.size⟩) (λu2 hne=>?_);refine ap ?_;obtain⟨w9,_,_,b6,rfl,az⟩:=id hne;obtain⟨sl,H,rfl,_⟩:=id az.1;refine aD 4 (fC (v:=.agg #[decide (K<0),.slice sl (dg K.natAbs).length H]) rs (#[false,.slice none 0 0]) (λw'=>ah rs #[decide (K<0),.slice sl (dg K.natAbs).length H] 182 w'/\aW w' W.heap.size (.slice sl (dg K.natAbs).length H) (dg K.natAbs)) (.inr s_) (λ_ hd=>hd.1) (aK.and (λ_ _ h hb=>⟨h.1.below hb,λhn=>(h.2 hn).below hb⟩)) (λw1 w2 hd Z hb=>⟨hb,hd.2.rdO.over Z u_⟩) (λhne=>?_));refine dn λWz a7 aX=>?_;have aM:=a7.belowGe (B:=w.heap.size) J a6 u_;have⟨q0,q1⟩:=aX.1.q2;have cv:=aX.2.le a6;go_wp2;exact Vk (v:=.agg #[decide (K<0),.slice sl (dg K.natAbs).length H]) (by simp [results,results318,go_sem,q0,q1]) rfl vC
noncomputable def gr(A B X1 Y1 E1 n m T D:Int):Nat->Int->Option (Int×Int×Int)
 |0,_=>none
 |f+1,e=>if kh (T*(e*e)) D=true/\au (eh (T*(e*e)) D) e=1/\cl (cvV A B (eh (T*(e*e)) D) e)=true then
   some (eh (T*(e*e)) D,(if decide (n*(X1*e*e - eh (T*(e*e)) D*E1*E1)*E1 - Y1*m*e*e<0)=decide (m<0) then aq (cvV A B (eh (T*(e*e)) D) e) else -aq (cvV A B (eh (T*(e*e)) D) e)),e)
  else gr A B X1 Y1 E1 n m T D f (e+1)
def cw:Option (Int×Int×Int)->Value
 |some (x,y,e)=>.tuple #[.agg #[.int .i64 x,.int .i64 y,.int .i64 e],.bool true]
 |none=>.tuple #[.agg #[.int .i64 0,.int .i64 0,.int .i64 0],.bool false]
def nN{q}(h:-4000000000000<=q/\q<=4000000000000):0<=aq q/\aq q<=2000001:=by
 refine⟨lu q,?_⟩;by_cases h0:0<=q
 .exact Wc (oh (b:=2000001) h0 o_ o_)
 .have e:aq q=0:=by
   unfold aq;rw[show q.toNat=0 by omega];simp [rt]
  omega
noncomputable def tg(A B X1 Y1 E1 X2 Y2 E2:Int):Option (Int×Int×Int):=gr A B X1 Y1 E1 (fX A X1 Y1 E1 X2 Y2 E2) (eW A X1 Y1 E1 X2 Y2 E2) (dU (fX A X1 Y1 E1 X2 Y2 E2) (eW A X1 Y1 E1 X2 Y2 E2) X1 E1 X2 E2) (fk (eW A X1 Y1 E1 X2 Y2 E2) E1 E2) 20 1
theorem Eb{A B X1 Y1 E1 n m T D}(hA:bh A)(hB:a_ B):∀(f:Nat) (e:Int) (r:Int×Int×Int),1<=e->e+f<=21->gr A B X1 Y1 E1 n m T D f e=some r->eN A B r.1 r.2.1 r.2.2
 |0,e,r,_,_,h=>by unfold gr at h;cases h
 |f+1,e,r,h1,h2,h=>by
  unfold gr at h;split at h
  .rename_i hc;have hx:-10000<=eh (T*(e*e)) D/\eh (T*(e*e)) D<=10000:=pI _ _ _ _ _ o_;have he:1<=e/\e<=20:=o_;have hr:=nN (lV hA hB hx he);have hq:=eq_of_beq hc.2.2;cases h;refine⟨hx,he,hc.2.1,?_,?_⟩
   .dsimp only;split<;>omega
   .dsimp only;split
    .exact hq
    .rw[V8];exact hq
  .exact Eb hA hB f (e+1) r o_ o_ h
def S3{A B X1 Y1 E1 X2 Y2 E2}(hA:bh A)(hB:a_ B){r:Int×Int×Int}(h:tg A B X1 Y1 E1 X2 Y2 E2=some r):eN A B r.1 r.2.1 r.2.2:=Eb hA hB 20 1 r o_ o_ h
noncomputable def er(A B:Int)(p q:Int×Int×Int):Option (Int×Int×Int):=
 if p.2.2=0 then some q else if q.2.2=0 then some p else if p.1=q.1/\p.2.1=-q.2.1/\p.2.2=q.2.2 then some (0,0,0) else tg A B p.1 p.2.1 p.2.2 q.1 q.2.1 q.2.2
def Fx{A B}{p q r:Int×Int×Int}(hA:bh A)(hB:a_ B)(G:jI A B p.1 p.2.1 p.2.2)(hq:jI A B q.1 q.2.1 q.2.2)(h:er A B p q=some r):jI A B r.1 r.2.1 r.2.2:=by
 unfold er at h;split at h
 .cases h;exact hq
 .split at h
  .cases h;exact G
  .split at h
   .cases h;exact .inl ⟨rfl,rfl,rfl⟩
   .exact .inr (S3 hA hB h)
def AX(h:P:=by
 rcases V with ⟨h1,h2⟩|⟨h1,h2⟩<;>rw[h1,h2]<;>grind):=h
def U3{x1 y1 x2 s A B x3:Rat}(c1:y1*y1=x1*x1*x1+A*x1+B)(hg:x2*x2+x2*x1+x1*x1+A - s*s*(x2 - x1) - 2*s*y1=0)(h3:x3=s*s - x1 - x2):
 (s*(x1 - x3) - y1)*(s*(x1 - x3) - y1)=x3*x3*x3+A*x3+B:=by
 subst h3;grind
def UH{x1 y1 x2 y2 s A B:Rat}(hd:x2 - x1≠0)(c1:y1*y1=x1*x1*x1+A*x1+B)(c2:y2*y2=x2*x2*x2+A*x2+B)(hs:s*(x2 - x1)=y2 - y1):
 x2*x2+x2*x1+x1*x1+A - s*s*(x2 - x1) - 2*s*y1=0:=by
 have h:(x2 - x1)*(x2*x2+x2*x1+x1*x1+A - s*s*(x2 - x1) - 2*s*y1)=0:=by
  have e:y2=y1+s*(x2 - x1):=by grind
  subst e;grind
 rcases Rat.mul_eq_zero.1 h with h|h
 .exact absurd h hd
 .exact h
def nf{E:Int}(hE:E≠0):(E:Rat)*(E:Rat)⁻¹=1:=Rat.mul_inv_cancel _ (Ez hE)
def cx(X E:Int):Rat:=(X:Rat)*(E:Rat)⁻¹*(E:Rat)⁻¹
def cy(Y E:Int):Rat:=(Y:Rat)*(E:Rat)⁻¹*(E:Rat)⁻¹*(E:Rat)⁻¹
def ER(A B X E):(cvV A B X E:Rat)=(X:Rat)*X*X+A*X*E*E*E*E+B*E*E*E*E*E*E:=by
 unfold cvV;push_cast;rfl
def zD{A B X Y E}(h:Y*Y=cvV A B X E)(hE:E≠0):cy Y E*cy Y E=cx X E*cx X E*cx X E+(A:Rat)*cx X E+B:=by
 have e0:=nf hE;have h2:(Y:Rat)*Y=(X:Rat)*X*X+A*X*E*E*E*E+B*E*E*E*E*E*E:=by
  rw[<-ER,<-h];push_cast;rfl
 unfold cx cy;generalize (E:Rat)⁻¹=i at *;generalize (E:Rat)=e at *;have h3:=congrArg (·*(i*i*i*i*i*i)) h2;grind
def SI(A B X){E}(hE:E≠0):(cvV A B X E:Rat)=(E:Rat)*E*E*E*E*E*(cx X E*cx X E*cx X E+(A:Rat)*cx X E+B):=by
 have e0:=nf hE;rw[ER];unfold cx;generalize (E:Rat)⁻¹=i,(E:Rat)=e at *;grind
def Sy{s a b i j x1 x2 y1 y2:Rat}(ha:a*i=1)(hb:b*j=1)(h:s*(a*b*(x2*a*a - x1*b*b))=y2*a*a*a - y1*b*b*b):s*(x2*j*j - x1*i*i)=y2*j*j*j - y1*i*i*i:=by
 have h3:=congrArg (·*(i*i*i*j*j*j)) h;grind
def SP{s e i x y A:Rat}(he:e*i=1)(h:s*(2*y*e)=3*x*x+A*e*e*e*e):x*i*i*(x*i*i)+x*i*i*(x*i*i)+x*i*i*(x*i*i)+A - s*s*(x*i*i - x*i*i) - 2*s*(y*i*i*i)=0:=by
 have h3:=congrArg (·*(i*i*i*i)) h;grind
def Vf{A B X1 Y1 E1 X2 Y2 E2}(fp:eN A B X1 Y1 E1)(fq:eN A B X2 Y2 E2)(a4:¬(X1=X2/\Y1=-Y2/\E1=E2))(s:Rat)(hs:s*(slD X1 Y1 E1 X2 Y2 E2:Rat)=(slN A X1 Y1 E1 X2 Y2 E2:Rat)):
 cx X2 E2*cx X2 E2+cx X2 E2*cx X1 E1+cx X1 E1*cx X1 E1+A - s*s*(cx X2 E2 - cx X1 E1) - 2*s*cy Y1 E1=0:=by
 have hne:=zV fp fq a4;have z1:=nf (show E1≠0 by have:=fp.2.1;omega);have z2:=nf (show E2≠0 by have:=fq.2.1;omega);by_cases h:X1=X2/\Y1=Y2/\E1=E2
 .obtain⟨rfl,rfl,rfl⟩:=h;unfold slD slN at hs;simp at hs;push_cast at hs;exact SP z1 hs
 .have ab:=hne;unfold slD at ab;rw[Vm h] at ab;have hd:X2*E1*E1 - X1*E2*E2≠0:=λe=>ab (by rw[e,Ya]);have bp:=Ez hd;push_cast at bp;refine UH (B:=(B:Rat)) (y2:=cy Y2 E2) ?_ (zD fp.2.2.2.2 (by have:=fp.2.1;omega)) (zD fq.2.2.2.2 (by have:=fq.2.1;omega)) ?_
  .intro e;apply bp;unfold cx at e;generalize (E1:Rat)⁻¹=i,(E1:Rat)=a,(E2:Rat)⁻¹=j,(E2:Rat)=b at *;have h3:=congrArg (·*(a*a*b*b)) e;grind
  .unfold slD slN at hs;rw[Vm h,Vm h] at hs;push_cast at hs;exact Sy z1 z2 hs
def adSd(n m X1 Y1 E1 x e:Int):Int:=n*(X1*e*e - x*E1*E1)*E1 - Y1*m*e*e
def UR{n m i e a b k1 k2 X1 X2 x:Rat}(hm:m*i=1)(he:e*k1=1)(ha:a*k2=1)(h:(n*n*(a*a*b*b)+-(m*m*(X1*b*b+X2*a*a)))*(e*e)=m*m*(a*a*b*b)*x):
 ∀J,b*J=1->x*k1*k1=n*i*(n*i) - X1*k2*k2 - X2*J*J:=by
 intro J hk;have h3:=congrArg (·*(i*i*k2*k2*J*J*k1*k1)) h;grind
def U4{n m i a k2 e k1 X1 Y1 x:Rat}(hm:m*i=1)(ha:a*k2=1)(he:e*k1=1):
 (n*(X1*e*e - x*a*a)*a - Y1*m*e*e)*e=m*a*a*a*(e*e*e*(n*i*(X1*k2*k2 - x*k1*k1) - Y1*k2*k2*k2)):=by
 grind
def U5{A B X1 Y1 E1 X2 Y2 E2 n m x e}(fp:eN A B X1 Y1 E1)(fq:eN A B X2 Y2 E2)(a4:¬(X1=X2/\Y1=-Y2/\E1=E2))(hm:m≠0)(hs:n*slD X1 Y1 E1 X2 Y2 E2=slN A X1 Y1 E1 X2 Y2 E2*m)(he:e≠0)
 (h:dU n m X1 E1 X2 E2*(e*e)=fk m E1 E2*x):cvV A B x e*((m*E1*E1*E1)*(m*E1*E1*E1))=(adSd n m X1 Y1 E1 x e*e)*(adSd n m X1 Y1 E1 x e*e):=by
 have z1:=nf (show E1≠0 by have:=fp.2.1;omega);have z2:=nf (show E2≠0 by have:=fq.2.1;omega);have g:=nf hm;have F:=nf he;have hsR:(n:Rat)*(m:Rat)⁻¹*(slD X1 Y1 E1 X2 Y2 E2:Rat)=(slN A X1 Y1 E1 X2 Y2 E2:Rat):=by
  have h1:(n:Rat)*(slD X1 Y1 E1 X2 Y2 E2:Rat)=(slN A X1 Y1 E1 X2 Y2 E2:Rat)*m:=by
   rw[<-Rat.intCast_mul,hs,Rat.intCast_mul]
  have h2:=congrArg (·*(m:Rat)⁻¹) h1;grind
 have hg:=Vf fp fq a4 _ hsR;have h3:cx x e=(n:Rat)*(m:Rat)⁻¹*((n:Rat)*(m:Rat)⁻¹) - cx X1 E1 - cx X2 E2:=by
  have hh:=by
   have:=congrArg (λk:Int=>(k:Rat)) h;unfold dU fk at this;push_cast at this;exact this
  exact UR g F z1 hh _ z2
 have h4:=U3 (zD fp.2.2.2.2 (by have:=fp.2.1;omega)) hg h3;have h5:=SI A B x he;rw[<-h4] at h5;have h6:((adSd n m X1 Y1 E1 x e:Int):Rat)*e=m*E1*E1*E1*(e*e*e*((n:Rat)*(m:Rat)⁻¹*(cx X1 E1 - cx x e) - cy Y1 E1)):=by
  unfold adSd;push_cast;exact (U4 (n:=(n:Rat)) (X1:=(X1:Rat)) (Y1:=(Y1:Rat)) (x:=(x:Rat)) g z1 F)
 apply Rat.intCast_inj.1;push_cast;rw[h6,h5];grind
def U6{A B X1 Y1 E1 X2 Y2 E2 n m x e}(fp:eN A B X1 Y1 E1)(fq:eN A B X2 Y2 E2)(a4:¬(X1=X2/\Y1=-Y2/\E1=E2))(hm:m≠0)(hs:n*slD X1 Y1 E1 X2 Y2 E2=slN A X1 Y1 E1 X2 Y2 E2*m)(he:e≠0)
 (h:dU n m X1 E1 X2 E2*(e*e)=fk m E1 E2*x):∃y,y*y=cvV A B x e/\y*(m*E1*E1*E1)=adSd n m X1 Y1 E1 x e*e:=by
 have hk:=U5 fp fq a4 hm hs he h;have hE:E1≠0:=by have:=fp.2.1;omega
 have hM:=WJ (WJ (WJ hm hE) hE) hE;generalize m*E1*E1*E1=M,adSd n m X1 Y1 E1 x e*e=S at *;have hd:M∣S:=by
  apply (Int.pow_dvd_pow_iff (n:=2) o_).1;refine⟨cvV A B x e,?_⟩;rw[VR,VR,Yd,XA,VR,VR,Yd,XA,<-hk,Wu]
 obtain⟨y,rfl⟩:=hd;refine⟨y,?_,Wu _ _⟩;have g:=WJ hM hM;apply Int.eq_of_mul_eq_mul_right g;rw[hk];grind
def ry{n d}(hd:d≠0):au (bc n d) (aO n d)=1:=by
 have hg:au n d≠0:=by have:=(nY n d (.inr hd)).1;omega
 have h:=E8 hg;unfold bc aO bK;split
 .rw[YC,YC];unfold au at *;rw[Int.neg_gcd,Int.gcd_neg];exact h
 .exact h
def yz{a b c}(h:au a b=1)(hd:b∣a*c):b∣c:=by
 have h1:=by
  unfold au at h;have:Int.gcd a b=1:=o_
  exact (Y_.1 this)
 rw[<-XP,V_] at hd;rw[<-XP];exact h1.dvd_of_dvd_mul_left hd
def E6{T D a b}(hD:D≠0)(hb:1<=b)(hc:au a b=1)(h:T*b=D*a):bc T D=a/\aO T D=b:=by
 have⟨k0,k1,k2⟩:=rD (n:=T) hD;have G:=lJ (n:=T) hD;have bb:=ry (n:=T) hD;generalize bK T D=k,bc T D=n,aO T D=d at *;subst k1 k2;have e:n*b=d*a:=by
  apply Xz k0;rw[<-Wd,h,Wd]
 have d1:=yz bb ⟨a,e⟩;have d2:=yz hc ⟨n,by rw[Wu b,e,Wu]⟩;have l1:=Ys o_ d1;have l2:=Ys o_ d2;have bp:d=b:=o_;subst bp;refine⟨?_,rfl⟩;rw[Wu d a] at e;exact Int.eq_of_mul_eq_mul_right o_ e
theorem ye{T D x}(hD:0<D)(hx:D*x=T):∀(f) (lo hi),lo<=x->x<=hi->(hi - lo).toNat<f->ij T D f lo hi=x
 |0,lo,hi,_,_,h=>by omega
 |f+1,lo,hi,h1,h2,h3=>by
  unfold ij;split
  .rename_i hl;have hm:T<=D*((lo+hi) / 2)↔x<=(lo+hi) / 2:=by
    rw[<-hx];constructor
    .intro h;exact Int.le_of_mul_le_mul_left h hD
    .intro h;exact VW h o_
   split
   .rename_i hc;have:=hm.1 hc;exact ye hD hx f lo _ h1 this o_
   .rename_i hc;have:¬x<=(lo+hi) / 2:=λh=>hc (hm.2 h);exact ye hD hx f _ hi o_ h2 o_
  .omega
def Sr{T D x}(hD:0<D)(hb:a_ x)(hx:D*x=T):eh T D=x/\kh T D=true:=by
 have h:eh T D=x:=ye hD hx _ _ _ hb.1 hb.2 o_;refine⟨h,?_⟩;unfold kh;rw[h,hx];simp
def Dn{T D}(h:kh T D=true):(-10000<=eh T D/\eh T D<=10000)/\D*eh T D=T:=by
 refine⟨pI _ _ _ _ _ o_,?_⟩;unfold kh at h;exact eq_of_beq h
def oI(A B T D e:Int):Prop:=kh (T*(e*e)) D=true/\au (eh (T*(e*e)) D) e=1/\cl (cvV A B (eh (T*(e*e)) D) e)=true
def Bj(A B X1 Y1 E1 n m x e:Int):Int:=if decide (n*(X1*e*e - x*E1*E1)*E1 - Y1*m*e*e<0)=decide (m<0) then aq (cvV A B x e) else -aq (cvV A B x e)
theorem EV{A B X1 Y1 E1 n m T D e0}(hc:oI A B T D e0):∀(f:Nat) (e),e<=e0->e0<e+f->(∀k,e<=k->k<e0->¬oI A B T D k)->gr A B X1 Y1 E1 n m T D f e=some (eh (T*(e0*e0)) D,Bj A B X1 Y1 E1 n m (eh (T*(e0*e0)) D) e0,e0)
 |0,e,h1,h2,_=>by omega
 |f+1,e,h1,h2,h3=>by
  unfold gr;by_cases he:e=e0
  .subst he;have bb:=hc;unfold oI at bb;rw[Vo bb];rfl
  .have hn:=h3 e o_ o_;unfold oI at hn;rw[Vm hn];exact EV hc f (e+1) o_ o_ (λk hk=>h3 k o_)
theorem DZ{A B X1 Y1 E1 n m T D}:∀(f:Nat) (e:Int),(∀k,e<=k->k<e+f->¬oI A B T D k)->gr A B X1 Y1 E1 n m T D f e=none
 |0,e,_=>by unfold gr;rfl
 |f+1,e,h=>by
  unfold gr;have hn:=h e o_ o_;unfold oI at hn;rw[Vm hn];exact DZ f (e+1) (λk h1 h2=>h k o_ o_)
def UX(n d):(bc n d=n.tdiv (au n d)/\aO n d=d.tdiv (au n d))\/(bc n d=-(n.tdiv (au n d))/\aO n d=-(d.tdiv (au n d))):=by
 unfold bc aO bK;split
 .exact .inr ⟨YC _ _,YC _ _⟩
 .exact .inl ⟨rfl,rfl⟩
def zk{r y}(h:r*r=y*y):r=y\/r=-y:=by
 have:(r - y)*(r+y)=0:=by grind
 rcases WQ.1 this with h|h
 .left;omega
 .right;omega
def BW{a b:Int}(ha:0<a):a*b<0↔b<0:=by
 constructor
 .intro h;rcases VJ b 0 with h1|h1
  .exact h1
  .have:=VP (Wc ha) h1;omega
 .intro h;exact Xy ha h
def Uo{A B X1 Y1 E1 n m x e y}(hE:1<=E1)(he:1<=e)(hm:m≠0)(h1:y*y=cvV A B x e)(h2:y*(m*E1*E1*E1)=adSd n m X1 Y1 E1 x e*e):Bj A B X1 Y1 E1 n m x e=y:=by
 have bz:=lu (cvV A B x e);have hr:aq (cvV A B x e)=y\/aq (cvV A B x e)=-y:=by
  refine zk ?_;rcases YB 0 y with h|h
  .have:=(pf (n:=y*y) h o_ (by have:(y+1)*(y+1)=y*y+2*y+1:=(by grind);omega))
   rw[<-h1,<-this]
  .have:=(pf (n:=y*y) (r:=-y) o_ (by rw[V8];omega) (by have:(-y+1)*(-y+1)=y*y+2*-y+1:=(by grind);omega))
   rw[<-h1,<-this,V8]
 have hP:0<E1*E1*E1:=VK (VK o_ o_) o_;unfold Bj;unfold adSd at h2;generalize n*(X1*e*e - x*E1*E1)*E1 - Y1*m*e*e=S,aq (cvV A B x e)=r at *;have h3:(E1*E1*E1)*(y*m)=e*S:=by rw[Wu e S,<-h2];grind
 have h4:S<0↔y*m<0:=by
  rw[<-BW (a:=e) (b:=S) o_,<-h3,BW hP]
 by_cases hs:S<0
 .have h5:=h4.1 hs;by_cases co:m<0
  .have hy:0<=y:=by
    rcases VJ y 0 with h|h
    .have:=Int.mul_pos_of_neg_of_neg h co;omega
    .exact h
   simp;omega
  .have hy:y<=0:=by
    rcases VJ 0 y with h|h
    .have:=VK h (show 0<m by omega);omega
    .exact h
   simp only[hs,co,YI,X6];simp;omega
 .have h5:0<=y*m:=by
   rcases VJ (y*m) 0 with h|h
   .exact absurd (h4.2 h) hs
   .exact h
  by_cases co:m<0
  .have hy:y<=0:=by
    rcases VJ 0 y with h|h
    .have:=Xy h co;omega
    .exact h
   simp only[hs,co,YI,X6];simp;omega
  .have hy:0<=y:=by
    rcases VJ y 0 with h|h
    .have:=Int.mul_neg_of_neg_of_pos h (show 0<m by omega);omega
    .exact h
   simp;omega
def Ud{X1 Y1 E1 n m x e y}(hE:1<=E1)(he:1<=e)(hm:m≠0)(hy:-3000000<=y/\y<=3000000)(h2:y*(m*E1*E1*E1)=adSd n m X1 Y1 E1 x e*e):tf n m X1 Y1 E1 x e=y:=by
 unfold tf;have hV:dJ m E1 e≠0:=by
  unfold dJ;exact WJ (WJ (WJ hm (WJ o_ o_)) o_) o_
 have⟨g0,g1,g2⟩:=rD (n:=dM n X1 E1 x e) hV;have hv:=lJ (n:=dM n X1 E1 x e) hV;have k1:y*dJ m E1 e*(E1*E1*E1)=e*e*e*(dM n X1 E1 x e*(E1*E1*E1) - Y1*dJ m E1 e):=by
  have h3:=congrArg (·*(E1*E1*e*e)) h2;unfold dM dJ;unfold adSd at h3;grind
 generalize bK (dM n X1 E1 x e) (dJ m E1 e)=k,bc (dM n X1 E1 x e) (dJ m E1 e)=u,aO (dM n X1 E1 x e) (dJ m E1 e)=v at *;rw[g1,g2] at k1;have k2:y*eY v E1=e*e*e*eO u v Y1 E1:=by
  apply Xz g0;unfold eY eO;grind
 have hH:eY v E1≠0:=by
  unfold eY;exact WJ (WJ o_ (WJ o_ o_)) o_
 have⟨g0,g1,g2⟩:=rD (n:=eO u v Y1 E1) hH;have hb:=lJ (n:=eO u v Y1 E1) hH;have hc:=ry (n:=eO u v Y1 E1) hH;generalize bK (eO u v Y1 E1) (eY v E1)=k,bc (eO u v Y1 E1) (eY v E1)=a,aO (eO u v Y1 E1) (eY v E1)=b at *;rw[g1,g2] at k2;have J:y*b=e*e*e*a:=by
  apply Xz g0;grind
 have hd:=yz (a:=a) hc ⟨y,by rw[Wu a,<-J,Wu]⟩;have⟨c,bb⟩:=hd;have k4:y=a*c:=by
  rw[bb] at J;apply Xz (show b≠0 by omega);rw[Wu,J];grind
 unfold wO;rw[bb,Yb _ o_,<-k4];unfold wrap64;omega
def Tn{n m x e X1 E1 X2 E2}(c4:a_ X1)(da:a_ X2)(hx:a_ x)(bs:1<=E1)(bq:1<=E2)(he:1<=e)(hm:1<=m)
 (h:dU n m X1 E1 X2 E2*(e*e)=fk m E1 E2*x):n.natAbs<=200*m:=by
 have p1:=VK (show 0<E1 by omega) (show 0<E1 by omega);have p2:=VK (show 0<E2 by omega) (show 0<E2 by omega);have p3:=VK (show 0<e by omega) (show 0<e by omega);have p4:=VK (show 0<m by omega) (show 0<m by omega);have pP:=VK (VK p1 p2) p3;have k:n*n*(E1*E1*(E2*E2)*(e*e))=m*m*(x*(E1*E1*(E2*E2))+X1*(E2*E2*(e*e))+X2*(E1*E1*(e*e))):=by unfold dU fk at h;grind
 have q1:=VK p1 p2;have q2:=VK p2 p3;have q3:=VK p1 p3;generalize hP:E1*E1*(E2*E2)*(e*e)=P at *;have b1:E1*E1*(E2*E2)<=P:=by rw[<-hP];have:=VW (show 1<=e*e by omega) (Wc q1);omega
 have b2:E2*E2*(e*e)<=P:=by
  have:=VW (show 1<=E1*E1 by omega) (Wc q2);have e1:E2*E2*(e*e)*(E1*E1)=P:=by rw[<-hP];grind
  omega
 have b3:E1*E1*(e*e)<=P:=by
  have:=VW (show 1<=E2*E2 by omega) (Wc q3);have e1:E1*E1*(e*e)*(E2*E2)=P:=by rw[<-hP];grind
  omega
 have c1:x*(E1*E1*(E2*E2))<=10000*P:=by
  have h1:=Wl hx.2 (Wc q1);omega
 have c2:X1*(E2*E2*(e*e))<=10000*P:=by
  have h1:=Wl c4.2 (Wc q2);omega
 have c3:X2*(E1*E1*(e*e))<=10000*P:=by
  have h1:=Wl da.2 (Wc q3);omega
 have d1:n*n*P<=m*m*(30000*P):=by
  rw[k];exact VW o_ (Wc p4)
 have d2:n*n<=m*m*30000:=by
  apply Int.le_of_mul_le_mul_right (a:=P) _ pP;rw[Wd (m*m)];exact d1
 have d3:(n.natAbs:Int)*n.natAbs=n*n:=by
  rcases Int.natAbs_eq n with h|h
  .rw[<-h]
  .have:(n.natAbs:Int)=-n:=o_
   rw[this,V8]
 rcases VJ (200*m) n.natAbs with hh|hh
 .exfalso;have:=Vs (Wc hh) (Wc hh) o_ o_;rw[d3] at this;have e:200*m*(200*m)=40000*(m*m):=by grind
  omega
 .exact hh
def Ug{a b:Int}(ha:0<=a)(hb:0<=b)(h:a*a=b*b):a=b:=by
 rcases zk h with h|h<;>omega
def uG{e}(h:0<=e):aq (e*e)=e:=by
 have h1:(e+1)*(e+1)=e*e+2*e+1:=by grind
 exact (pf h o_ o_).symm
def zu(y):cl (y*y)=true:=by
 unfold cl;have:aq (y*y)*aq (y*y)=y*y:=by
  rcases YB 0 y with h|h
  .rw[uG h]
  .have:=uG (e:=-y) o_;rw[V8] at this;rw[this,V8]
 rw[this];simp
def Fg{x e}(h:au x e=1):au x (e*e)=1:=by
 have h1:Nat.Coprime x.natAbs e.natAbs:=by
  unfold au at h;have:Int.gcd x e=1:=o_
  exact this
 have h2:=XR h1 h1;unfold au Int.gcd;rw[V_];have:Nat.gcd x.natAbs (e.natAbs*e.natAbs)=1:=h2;omega
def Tt{x e}(h:au x (e*e)=1):au x e=1:=by
 have h1:Nat.Coprime x.natAbs (e.natAbs*e.natAbs):=by
  unfold au at h;have:Int.gcd x (e*e)=1:=o_
  unfold Int.gcd at this;rw[V_] at this;exact this
 have h2:=Nat.Coprime.coprime_mul_right_right h1;unfold au Int.gcd;have:Nat.gcd x.natAbs e.natAbs=1:=h2;omega
def SC{A B X1 Y1 E1 X2 Y2 E2}(hA:bh A)(hB:a_ B)(fp:eN A B X1 Y1 E1)(fq:eN A B X2 Y2 E2)(a4:¬(X1=X2/\Y1=-Y2/\E1=E2)):
 oO A X1 Y1 E1 X2 Y2 E2=tg A B X1 Y1 E1 X2 Y2 E2:=by
 have hne:=zV fp fq a4;have bs:=fp.2.1;have bq:=fq.2.1;have hg:au (slN A X1 Y1 E1 X2 Y2 E2) (slD X1 Y1 E1 X2 Y2 E2)≠0:=by have:=(nY (slN A X1 Y1 E1 X2 Y2 E2) _ (.inr hne)).1;omega
 have cc:slN A X1 Y1 E1 X2 Y2 E2=au (slN A X1 Y1 E1 X2 Y2 E2) (slD X1 Y1 E1 X2 Y2 E2)*fX A X1 Y1 E1 X2 Y2 E2:=(XT (WA _ _)).symm;have cy:slD X1 Y1 E1 X2 Y2 E2=au (slN A X1 Y1 E1 X2 Y2 E2) (slD X1 Y1 E1 X2 Y2 E2)*eW A X1 Y1 E1 X2 Y2 E2:=(XT (Wi _ _)).symm;have hm:eW A X1 Y1 E1 X2 Y2 E2≠0:=λh=>hne (by rw[cy,h,Ya]);have hs:fX A X1 Y1 E1 X2 Y2 E2*slD X1 Y1 E1 X2 Y2 E2=slN A X1 Y1 E1 X2 Y2 E2*eW A X1 Y1 E1 X2 Y2 E2:=by
  generalize au (slN A X1 Y1 E1 X2 Y2 E2) (slD X1 Y1 E1 X2 Y2 E2)=g at *;rw[cy,cc];grind
 have V:(bc (slN A X1 Y1 E1 X2 Y2 E2) (slD X1 Y1 E1 X2 Y2 E2)=fX A X1 Y1 E1 X2 Y2 E2/\aO (slN A X1 Y1 E1 X2 Y2 E2) (slD X1 Y1 E1 X2 Y2 E2)=eW A X1 Y1 E1 X2 Y2 E2)\/(bc (slN A X1 Y1 E1 X2 Y2 E2) (slD X1 Y1 E1 X2 Y2 E2)=-fX A X1 Y1 E1 X2 Y2 E2/\aO (slN A X1 Y1 E1 X2 Y2 E2) (slD X1 Y1 E1 X2 Y2 E2)=-eW A X1 Y1 E1 X2 Y2 E2):=UX _ _;have az:=lJ (n:=slN A X1 Y1 E1 X2 Y2 E2) hne;have aL:=ry (n:=slN A X1 Y1 E1 X2 Y2 E2) hne;have ac:=λ(x e:Int) (he:e≠0)=>U6 (x:=x) fp fq a4 hm hs he;unfold oO tg;rw[Vm hne];generalize bc (slN A X1 Y1 E1 X2 Y2 E2) (slD X1 Y1 E1 X2 Y2 E2)=N,aO (slN A X1 Y1 E1 X2 Y2 E2) (slD X1 Y1 E1 X2 Y2 E2)=D,fX A X1 Y1 E1 X2 Y2 E2=n,eW A X1 Y1 E1 X2 Y2 E2=m at *;have aa:dH N D X1 E1 X2 E2=dU n m X1 E1 X2 E2:=by
  unfold dH dU;exact AX
 have Z:dU N D X1 E1 X2 E2=dU n m X1 E1 X2 E2:=by
  unfold dU;exact AX
 have K:fk D E1 E2=fk m E1 E2:=by
  unfold fk;rcases V with ⟨_,h2⟩|⟨_,h2⟩<;>rw[h2]<;>grind
 have ax:dG D E1 E2=fk m E1 E2:=by
  rw[<-K];unfold dG fk;grind
 have ad:∀x e y:Int,y*(m*E1*E1*E1)=adSd n m X1 Y1 E1 x e*e->y*(D*E1*E1*E1)=adSd N D X1 Y1 E1 x e*e:=by
  intro x e y h;unfold adSd at *;exact AX
 have b6:0<fk m E1 E2:=by
  rw[<-K];unfold fk;exact VK (VK o_ o_) (VK (VK (VK o_ o_) o_) o_)
 have I:∀x e:Int,(1<=e/\e<=20)->(-10000<=x/\x<=10000)->dU n m X1 E1 X2 E2*(e*e)=fk m E1 E2*x->D<=8000/\N.natAbs<=200*D:=by
  intro x e he hx h;rw[<-Z,<-K] at h;exact⟨(Dt aL fp.1 fq.1 hx bs bq he h).1.2,Tn fp.1 fq.1 hx bs.1 bq.1 he.1 az h⟩
 generalize hT:dU n m X1 E1 X2 E2=T,J:fk m E1 E2=H at *;unfold oJ;rw[aa,ax];by_cases hx:∃e0 x0:Int,(1<=e0/\e0<=20)/\(-10000<=x0/\x0<=10000)/\au x0 e0=1/\T*(e0*e0)=H*x0
 .have⟨e0,x0,he,aX,U,hh⟩:=hx;have⟨y,F,aG⟩:=ac x0 e0 o_ hh;have⟨u1,u2⟩:=E6 (T:=T) (D:=H) o_ (show 1<=e0*e0 by have:=VK (show 0<e0 by omega) (show 0<e0 by omega);omega) (Fg U) hh;have⟨s1,s2⟩:=Sr b6 aX hh.symm;have⟨f1,f2⟩:=I x0 e0 he aX hh;have ae:-3000000<=y/\y<=3000000:=by
   have hr:=nN (lV hA hB aX he);have bp:aq (cvV A B x0 e0)*aq (cvV A B x0 e0)=y*y:=by
    have:=zu y;rw[F] at this;rw[F];exact eq_of_beq this
   rcases zk bp with h|h<;>omega
  have hC:oI A B T H e0:=by
   refine⟨s2,?_,?_⟩
   .rw[s1];exact U
   .rw[s1,<-F];exact zu y
  rw[EV hC 20 1 he.1 o_ (λk ab aF hk=>by
   have⟨a1,a2,_⟩:=hk;have⟨_,b2⟩:=Dn a1;have⟨_,v2⟩:=E6 (T:=T) (D:=H) o_ (show 1<=k*k by have:=VK (show 0<k by omega) (show 0<k by omega);omega) (Fg a2) b2.symm;have:=Ug (a:=k) (b:=e0) o_ o_ (by rw[<-v2,u2]);omega)]
  rw[s1,Uo bs.1 he.1 hm F aG,u1,u2,uG o_,Vm o_,Vo ⟨rfl,he.2,gv aX.1 aX.2⟩,Ud bs.1 he.1 o_ ae (ad _ _ _ aG)]
 .rw[DZ 20 1 (λk ab aF hk=>by
   have⟨a1,a2,_⟩:=hk;have⟨b1,b2⟩:=Dn a1;exact hx ⟨k,_,o_,b1,a2,b2.symm⟩)]
  split
  .rfl
  .split
   .rename_i hc;exfalso;have⟨c1,c2,c3⟩:=hc;have⟨g0,g1,g2⟩:=rD (n:=T) (show H≠0 by omega);have G:=lJ (n:=T) (show H≠0 by omega);have bz:=lu (aO T H);have b4:1<=aq (aO T H):=by
     rcases VJ 0 (aq (aO T H)) with h|h
     .omega
     .have h0:aq (aO T H)=0:=o_;rw[h0] at c1;omega
    refine hx ⟨aq (aO T H),bc T H,⟨b4,c2⟩,bO c3,Tt (by rw[c1];exact (ry (n:=T) (show H≠0 by omega))),?_⟩;rw[c1];generalize aO T H=d,bc T H=x,bK T H=g at *;rw[g1,g2];grind
   .rfl
def jF(w:World)(v:Value)(K:List Int):Prop:=∃(a:ck) (F:Nat),v=.slice a K.length F/\∀i (_:i<K.length),∃g o lv,a=some ⟨g,o,none⟩/\w.cell? ⟨g,o+i*2,none⟩=some (.bool (decide (K[i]<0)))/\w.cell? ⟨g,o+i*2+1,none⟩=some lv/\cd w lv (dg K[i].natAbs)/\g<w.heap.size
def sm:List Int->Int
 |[]=>0
 |x::l=>x+sm l
theorem E7:∀(l) (x),sm (l++[x])=sm l+x
 |[],x=>by simp [sm]
 |y::l,x=>by simp only[Wo,sm,E7 l x];omega
def pr:List Int->Int
 |[]=>1
 |x::l=>x*pr l
theorem EX:∀(l) (x),pr (l++[x])=pr l*x
 |[],x=>by simp [pr]
 |y::l,x=>by simp only[Wo,pr,EX l x,Wd]
def Vg{K:List Int}(h:Hid (∀k,k<=K.length->(dg (sm (K.take k)).natAbs).length<=100000))(k)(hk:k<=K.length):(dg (sm (K.take k)).natAbs).length<=100000:=h.out k hk
def Ow(K)(v)(bq:K.length<=1000)(hN:∀i (h:i<K.length),(dg K[i].natAbs).length<=100000)(hP:∀k,k<=K.length->(dg (sm (K.take k)).natAbs).length<=100000)(w)(hv:jF w v K):
 Kp 337 #[v] w (dP (sm K) w):=by
 have HN:=h_ hN;have HP:=h_ hP;have HV:=h_ hv;obtain⟨a,F,rfl,hc⟩:=hv;have HC:=h_ hc;go_enter func337,ntmps337;go_upto_region 2 with fail
 have⟨kS,kC,J⟩:=cO w #[false,.slice none 0 0] 182 #[false,.slice none 0 0] 182;have ax:w.heap.size+2<=((w.alloc (.cells #[false,.slice none 0 0] 182)).alloc (.cells #[false,.slice none 0 0] 182)).heap.size:=s_;generalize (w.alloc _).alloc _=W at *;obtain⟨G,a1⟩:∃G,w.heap.size+1=G:=⟨_,rfl⟩
 have ac:=h_ a1;rw[a1] at kC ⊢;go_upto_region 3 with fail
 go_loopw [9] (λiv wr=>∃(k:Nat) (V:Int) (sl:ck) (H:Nat),k<=K.length/\iv=.int .i64 k/\Hid (V=sm (K.take k))/\ah w #[false,.slice none 0 0] 182 wr/\ah G #[decide (V<0),.slice sl (dg V.natAbs).length H] 182 wr/\Hid (aW wr (w.heap.size+2) (.slice sl (dg V.natAbs).length H) (dg V.natAbs))/\af w w wr) (λiv _=>K.length - (intOf iv).toNat)
 case atStart=>exact⟨0,0,none,0,o_,rfl,rfl,kS,by simpa[iN] using kC,by simp only[Zl,iN];exact⟨⟨none,0,rfl,Vj _,λi hi=>by simp at hi⟩,λh=>absurd rfl h⟩,J⟩
 case round=>
  obtain⟨k,V,sl,H,hk,rfl,hV,kS,kC,hR,hb⟩:=hrel;have bv:=kC.lt;by_cases aG:k<K.length
  .obtain⟨g,o,lv,rfl,q0,q1,hr,hg⟩:=HC.out k aG;have aM:=Vg HP k hk;have Z:=HN.out k aG;have bX:Hid (V+K[k]=sm (K.take (k+1))):=by
    show _=_;rw[VF aG,E7,<-hV.out]
   rw[<-hV.out] at aM;generalize K[k]=y at q0 q1 hr Z bX;have d0:=(hb.cell (p:=⟨g,o+k*2,none⟩) hg).trans q0;have d1:=(hb.cell (p:=⟨g,o+k*2+1,none⟩) hg).trans q1;obtain⟨s2,c2,rfl,_⟩:=id hr;have bo:=h_ hr;generalize cF:decide (y<0)=sy at d0;have a8:=h_ cF;go_upto_region 5 with fail
   have kE:=ah.new wr #[sy,.slice s2 (dg y.natAbs).length c2] 182;have a3:=kC.alloc (.cells #[sy,.slice s2 (dg y.natAbs).length c2] 182);have aZ:=kS.alloc (.cells #[sy,.slice s2 (dg y.natAbs).length c2] 182);have a2:af wr wr (wr.alloc (.cells #[sy,.slice s2 (dg y.natAbs).length c2] 182)):=(Vn _ _).alloc (Vj _) _;have I:af w w (wr.alloc (.cells #[sy,.slice s2 (dg y.natAbs).length c2] 182)):=hb.alloc hb.size _;have a5:=h_ (hR.out.1.below a2);have bx:=h_ (bo.out.below I);have bs:wr.heap.size<(wr.alloc (.cells #[sy,.slice s2 (dg y.natAbs).length c2] 182)).heap.size:=s_;generalize wr.alloc _=W5 at *;have⟨e0,e1⟩:=kE.q2;have⟨x0,x1⟩:=a3.q2;go_wp2_with fail
   refine (xg V y _ _ aM Z W5 ⟨_,rfl,a5.out⟩ ⟨_,by rw[a8.out],bx.out⟩).mono ?_;rintro e w1 ⟨v,rfl,ba,U⟩;obtain⟨lv,rfl,az⟩:=ba;obtain⟨s9,c9,rfl,_⟩:=id az.1;have aL:=a3.next U
   have a4:=aZ.next U
   have⟨x0,x1⟩:=aL.q2;have⟨z0,z1⟩:=aL.f2;have aF:=ag U I.size I;have k9:=(aL.set 0 (decide (V+y<0))).set 1 (.slice s9 (dg (V+y).natAbs).length c9);have bb:=ac.out;have aa:G≠w.heap.size:=o_;have ab:w.heap.size<=G:=o_;have aX:=(a4.other (p:=G) aa (decide (V+y<0))).other (p:=⟨G,1,none⟩) aa (.slice s9 (dg (V+y).natAbs).length c9);have ad:af w w ((w1.setCell G (decide (V+y<0))).setCell ⟨G,1,none⟩ (.slice s9 (dg (V+y).natAbs).length c9)):=(aF.setCell ab _).setCell ab _;have bi:=h_ ((az.set2 (S:=G) o_ (decide (V+y<0)) (.slice s9 (dg (V+y).natAbs).length c9)).le (base':=w.heap.size+2) o_);go_wp2;go_roundw
   case rel=>exact⟨k+1,V+y,s9,c9,o_,by go_num,bX,aX,k9,bi,ad⟩
   case measure=>exact aJ
  .obtain rfl:k=K.length:=o_
   have ae:=hV.out;rw[Wa] at ae;have⟨c0,c1⟩:=kC.q2;have⟨s0,s1⟩:=kS.q2;have⟨z0,z1⟩:=kS.f2;have a9:=h_ ae;have k9:=(kS.set 0 (decide (V<0))).set 1 (.slice sl (dg V.natAbs).length H);have ad:af w w ((wr.setCell w (decide (V<0))).setCell ⟨w,1,none⟩ (.slice sl (dg V.natAbs).length H)):=(hb.setCell (Vj _) _).setCell (Vj _) _;have bp:=(hR.out.set2 (S:=w.heap.size) o_ (decide (V<0)) (.slice sl (dg V.natAbs).length H)).le (base':=w.heap.size) o_;clear hR ae hV;go_wp2;generalize (setCell (setCell _ _ _) _ _)=w9 at ad k9 bp ⊢;have⟨q0,q1⟩:=k9.q2;refine Vk (v:=.agg #[decide (V<0),.slice sl (dg V.natAbs).length H]) (by simp [results,results337,go_sem,q0,q1]) rfl ?_;rw[<-a9.out];exact uX
noncomputable def jb(A B:Int)(p:Int×Int×Int):Nat->Int->Int×Int×Int->Option Int
 |0,_,_=>none
 |f+1,n,now=>match er A B now p with
  |none=>none
  |some r=>if r.2.2=0 then some n else jb A B p f (n+1) r
noncomputable def cg(A B:Int)(p:Int×Int×Int):Option Int:=jb A B p 12 1 (0,0,0)
def iG:Option Int->Value
 |some n=>.tuple #[.int .i64 n,.bool true]
 |none=>.tuple #[.int .i64 0,.bool false]
theorem uF{A B}{p:Int×Int×Int}:∀(f) (n) (now:Int×Int×Int) (k),jb A B p f n now=some k->n<=k/\k<n+f
 |0,n,now,k,h=>by unfold jb at h;cases h
 |f+1,n,now,k,h=>by
  unfold jb at h;split at h
  .cases h
  .split at h
   .cases h;omega
   .have:=uF f (n+1) _ k h;omega
noncomputable def lY(A B x:Int):List (Int×Int×Int):=
 if cl (cvV A B x 1)=true then (if aq (cvV A B x 1)=0 then [(x,0,1)] else if (aP A B).tmod (aq (cvV A B x 1)*aq (cvV A B x 1))=0 then [(x,-aq (cvV A B x 1),1),(x,aq (cvV A B x 1),1)] else []) else []
noncomputable def ik(A B:Int):Nat->Int->List (Int×Int×Int)
 |0,_=>[]
 |f+1,x=>lY A B x++ik A B f (x+1)
noncomputable def fw(A B:Int):List (Int×Int×Int):=ik A B 6001 (-3000)
noncomputable def dL(A B:Int):List (Int×Int×Int):=(0,0,0)::(fw A B).filter λp=>(cg A B p).isSome
def Q1(A B x):(lY A B x).length<=2:=by
 unfold lY;split
 .split
  .simp
  .split<;>simp
 .simp
theorem pv(A B):∀(f) (x),(ik A B f x).length<=2*f
 |0,x=>by simp [ik]
 |f+1,x=>by
  have h1:=Q1 A B x;have h2:=pv A B f (x+1);unfold ik;rw[VI];omega
def RI{A B x}{p:Int×Int×Int}(h:p∈lY A B x):p.1=x/\p.2.2=1/\p.2.1*p.2.1=cvV A B x 1/\(p.2.1=0\/(aP A B).tmod (p.2.1*p.2.1)=0):=by
 unfold lY at h;split at h
 .rename_i hs;have hq:=eq_of_beq hs;split at h
  .rename_i h0;simp at h;subst h;refine⟨rfl,rfl,?_,.inl rfl⟩;rw[h0] at hq;exact hq
  .split at h
   .rename_i hd;simp at h;rcases h with rfl|rfl
    .refine⟨rfl,rfl,?_,.inr ?_⟩
     .show -_*-_=_;rw[V8];exact hq
     .show (aP A B).tmod (-_*-_)=0;rw[V8];exact hd
    .exact⟨rfl,rfl,hq,.inr hd⟩
   .simp at h
 .simp at h
theorem Ek{A B}{p:Int×Int×Int}:∀(f) (x),p∈ik A B f x->(x<=p.1/\p.1<x+f)/\p.2.2=1/\p.2.1*p.2.1=cvV A B p.1 1/\(p.2.1=0\/(aP A B).tmod (p.2.1*p.2.1)=0)
 |0,x,h=>by simp [ik] at h
 |f+1,x,h=>by
  unfold ik at h;rcases Wy.1 h with h|h
  .have⟨h1,h2,h3,h4⟩:=RI h;exact⟨o_,h2,h1▸h3,h4⟩
  .have⟨h1,h2⟩:=Ek f (x+1) h;exact⟨o_,h2⟩
def zj{A B}(hA:bh A)(hB:a_ B){p:Int×Int×Int}(h:p∈fw A B):eN A B p.1 p.2.1 p.2.2:=by
 have⟨h1,h2,h3,_⟩:=Ek _ _ h;have hx:-10000<=p.1/\p.1<=10000:=o_;have hv:=lV hA hB hx (e:=1) o_;refine⟨hx,o_,?_,?_,by rw[h2];exact h3⟩
 .rw[h2];unfold au;simp
 .constructor
  .rcases VJ p.2.1 (-3000000) with hh|hh
   .have:=Vs (show 3000000<=-p.2.1 by omega) (show 3000000<=-p.2.1 by omega) o_ o_;rw[V8] at this;omega
   .exact hh
  .rcases VJ 3000000 p.2.1 with hh|hh
   .have:=Vs (show 3000000<=p.2.1 by omega) (show 3000000<=p.2.1 by omega) o_ o_;omega
   .exact hh
def TK{A B}{p:Int×Int×Int}(h:p∈dL A B):p=(0,0,0)\/(p∈fw A B/\(cg A B p).isSome=true):=by
 unfold dL at h;rcases VL.1 h with h|h
 .exact .inl h
 .have⟨h1,h2⟩:=Zi.1 h;exact .inr ⟨h1,h2⟩
def vu(h:P:=by have q0:=K.cell 0;have q1:=K.cell 1;simp only[V4,V0,VZ] at q0 q1;go_simp):=h
def wy(h:P:=by simp [results,results138,go_sem,q0,q1,q2]):=h
def Il(h:P:=by
 refine aR [22] ?_;refine am.cons ?_ ?_
 .refine bN (some 99) (λu4 w'=>(ah ab #[decide ((n*n*(E1*E1*E2*E2))<0),.slice bo (dg (n*n*(E1*E1*E2*E2)).natAbs).length az] 182 w')/\(Wh wc.heap.size (dU n m X1 E1 X2 E2) u4 w')) (λu4=>aK.and bV) (λw' hO ⟨K,cG⟩=>(xg (n*n*(E1*E1*E2*E2)) (-(m*m*(X1*E2*E2+X2*E1*E1))) _ _ f8 eT w' (eV.out w' hO) cG.rd).mono λe w2 ⟨v,h1,h2,h3⟩=>⟨v,h1,.of_below h3,⟨aK w' w2 K h3,h2.le hO.size⟩⟩) (λu4 hne=>?_);refine ap ?_;refine aD 23 ?_;obtain⟨w8,_,bi⟩:=id hne;obtain⟨lz,rfl,bX⟩:Wh wc.heap.size (dU n m X1 E1 X2 E2) u4 w8:=by first|exact bi.1|exact bi.2
  obtain⟨sl,H,rfl,_⟩:=id bX.1;clear bX bi;refine fC (v:=.agg #[decide (dU n m X1 E1 X2 E2<0),.slice sl (dg (dU n m X1 E1 X2 E2).natAbs).length H]) ab #[decide ((n*n*(E1*E1*E2*E2))<0),.slice bo (dg (n*n*(E1*E1*E2*E2)).natAbs).length az] (λw'=>ah ab #[decide (dU n m X1 E1 X2 E2<0),.slice sl (dg (dU n m X1 E1 X2 E2).natAbs).length H] 182 w'/\cd w' (.slice sl (dg (dU n m X1 E1 X2 E2).natAbs).length H) (dg (dU n m X1 E1 X2 E2).natAbs)) (.inr s_) (λ_ ⟨K,cA⟩=>K) (aK.and (λ_ _ h hb=>h.below hb)) (λ_ _ ⟨K,cA⟩ Z hb=>⟨hb,(cA.rdO.1).overSlot K Z⟩) (λhne=>?_)
  try simp only[Value.cells]
  refine dn λWz a7 aX=>?_
  try dsimp only
  go_wp2
  go_meet
  case rel=>exact⟨⟨_,aX.1,aX.2⟩,a7⟩
 exact am.nil):=h
def Gp(h:P:=by
 try simp only[Value.cells]
 refine dn λWz a7 aX=>?_
 try dsimp only
 go_wp2
 go_meet
 case rel=>exact⟨_,rfl,hr,⟨_,aX.1,aX.2⟩,a7.below⟩):=h
def Mk(h:P:=by
 refine aR [20] ?_;refine am.cons ?_ ?_
 .refine bN (some 97) (λu2 w'=>(ah ab #[decide ((n*n*(E1*E1*E2*E2))<0),.slice bo (dg (n*n*(E1*E1*E2*E2)).natAbs).length az] 182 w')/\(Wh wc.heap.size (m*m*(X1*E2*E2+X2*E1*E1)) u2 w')) (λu2=>aK.and bV) (λw' hO ⟨K,bp⟩=>(jo (m*m) (X1*E2*E2+X2*E1*E1) _ _ eG lS w' (d3.out.below (hO.belowGe (B:=aL.heap.size) c7.out d4 u_)) bp.rd).mono λe w2 ⟨v,h1,h2,h3⟩=>⟨v,h1,.of_below h3,⟨aK w' w2 K h3,h2.le hO.size⟩⟩) (λu2 hne=>?_);refine ap ?_;refine aR [21] ?_;refine am.cons ?_ ?_
  .refine bN (some 98) (λu3 w'=>(ah ab #[decide ((n*n*(E1*E1*E2*E2))<0),.slice bo (dg (n*n*(E1*E1*E2*E2)).natAbs).length az] 182 w')/\(Wh wc.heap.size (-(m*m*(X1*E2*E2+X2*E1*E1))) u3 w')) (λu3=>aK.and bV) (λw' hO ⟨K,bz⟩=>(qK (m*m*(X1*E2*E2+X2*E1*E1)) _ ea w' bz.rd).mono λe w2 ⟨v,h1,h2,h3⟩=>⟨v,h1,.of_below h3,⟨aK w' w2 K h3,h2.le hO.size⟩⟩) (λu3 hne=>?_);refine ap ?_;exact Il
  exact am.nil
 exact am.nil):=h
def KU(h:P:=by
 exact Il):=h
def A6(h:P:=by
 refine ap ?_;refine aR [6] ?_;refine am.cons ?_ ?_
 .refine bN (some 76) (λu4 w'=>(ah ab #[false,.slice none 0 0] 182 w')/\(Wh aL.heap.size (n*n*(E1*E1*E2*E2)) u4 w')) (λu4=>aK.and bV) (λw' hO ⟨K,cG⟩=>(jo (n*n) (E1*E1*E2*E2) _ _ ev eb w' cG.rd (d9.out.below0' hO.below)).mono λe w2 ⟨v,h1,h2,h3⟩=>⟨v,h1,.of_below h3,⟨aK w' w2 K h3,h2.le hO.size⟩⟩) (λu4 hne=>?_);refine ap ?_;refine aD 8 ?_;obtain⟨w8,_,bi⟩:=id hne;obtain⟨lz,rfl,bX⟩:Wh aL.heap.size (n*n*(E1*E1*E2*E2)) u4 w8:=by first|exact bi.1|exact bi.2
  obtain⟨sl,H,rfl,_⟩:=id bX.1;clear bX bi;refine fC (v:=.agg #[decide ((n*n*(E1*E1*E2*E2))<0),.slice sl (dg (n*n*(E1*E1*E2*E2)).natAbs).length H]) ab #[false,.slice none 0 0] (λw'=>ah ab #[decide ((n*n*(E1*E1*E2*E2))<0),.slice sl (dg (n*n*(E1*E1*E2*E2)).natAbs).length H] 182 w'/\cd w' (.slice sl (dg (n*n*(E1*E1*E2*E2)).natAbs).length H) (dg (n*n*(E1*E1*E2*E2)).natAbs)) (.inl hr) (λ_ ⟨K,cA⟩=>K) (aK.and (λ_ _ h hb=>h.below hb)) (λ_ _ ⟨K,cA⟩ Z hb=>⟨hb,(cA.rdO.1).overNew K Z⟩) (λhne=>?_);exact Gp
 exact am.nil):=h
def Lw(h:P:=by
 rw[Vm s_] at hF;subst hF;go_upto_region 25 with fail
 have jR:=V.next aZ
 have⟨z0,z1,z2⟩:=jR.f3;have⟨t0,t1,t2⟩:=jR.q3;have k9:=((jR.set 0 x).set 1 (-rt:Int)).set 2 e;have ad:af rC w (((w3.setCell ⟨rR,0,none⟩ x).setCell ⟨rR,1,none⟩ (-rt:Int)).setCell ⟨rR,2,none⟩ e):=(((ag aZ o_ F).setCell u_ _).setCell u_ _).setCell u_ _
 (repeat (first|go_skip|go_guarded|go_step))
 generalize (setCell (setCell (setCell _ _ _) _ _) _ _)=w9 at k9 ad ⊢;clear t0 t1 t2 z0 z1 z2;have⟨q0,q1,q2⟩:=k9.q3;refine Vk (v:=.tuple #[.agg #[x,(-rt:Int),e],true]) wy rfl ?_;exact⟨rfl,bv▸ad⟩):=h
def Ld(h:P:=by
 rw[Vo rfl] at hF;subst hF;go_upto_region 25 with fail
 have jR:=V.next aZ
 have⟨z0,z1,z2⟩:=jR.f3;have⟨t0,t1,t2⟩:=jR.q3;have k9:=((jR.set 0 x).set 1 rt).set 2 e;have ad:af rC w (((w3.setCell ⟨rR,0,none⟩ x).setCell ⟨rR,1,none⟩ rt).setCell ⟨rR,2,none⟩ e):=(((ag aZ o_ F).setCell u_ _).setCell u_ _).setCell u_ _
 (repeat (first|go_skip|go_guarded|go_step))
 generalize (setCell (setCell (setCell _ _ _) _ _) _ _)=w9 at k9 ad ⊢;clear t0 t1 t2 z0 z1 z2;have⟨q0,q1,q2⟩:=k9.q3;refine Vk (v:=.tuple #[.agg #[x,rt,e],true]) wy rfl ?_;exact⟨rfl,bv▸ad⟩):=h
def LU(h:P:=by
 obtain⟨a,F,hv,hm,hc⟩:=h;refine⟨a,F,hv,hm,λi hi=>?_⟩;obtain⟨g,o,ha,q1,q2⟩:=hc i hi;have hg:g≠r:=by
  rintro rfl;rw[hk.cell (o+i)] at q1
  match h0:o+i,q1 with
  |0,q1=>simp at q1
  |1,q1=>simp at q1
  |n+2,q1=>simp at q1
 exact⟨g,o,ha,(Z.cell (p:=⟨g,o+i,none⟩) q2 (by simpa using hg)).trans q1,Vp q2 Z.size⟩):=h
def zM(h:P:=by
 clear a4
 (refine bR k_ k_ ?_;(repeat (go_big_quiet_step ((go_at_call 137;exact Calls.quiet_cls ao _ (eB.out _)))));refine wpQuiet_nil ?_;intro w8 ca;obtain⟨fx,fr⟩:=bu ca;have d8:=ca.size;(try simp only[VG] at d8))
 go_wp2
 go_meet
 case rel=>exact⟨rfl,ca⟩):=h
def JY(h:P:=by
 exact Gp):=h
def SB(A B X1 Y1 E1 X2 Y2 E2:Int)(hA:bh A)(G:iY X1 Y1 E1)(hq:iY X2 Y2 E2)(w:World):
 Rv 193 #[.agg #[A,B],.agg #[X1,Y1,E1],.agg #[X2,Y2,E2]] w (.tuple #[slN A X1 Y1 E1 X2 Y2 E2,slD X1 Y1 E1 X2 Y2 E2]):=by
 by_cases h:X1=X2/\Y1=Y2/\E1=E2
 .rw[(Mh (A:=A) h).1,(Mh (A:=A) h).2];obtain⟨rfl,rfl,rfl⟩:=h;exact NH A B X1 Y1 E1 hA G w
 .rw[(Me (A:=A) h).1,(Me (A:=A) h).2];exact Nt A B X1 Y1 E1 X2 Y2 E2 G hq h w
def jS(r:Nat)(N:Int)(w:World):Prop:=∃lv,ah r #[decide (N<0),lv] 182 w/\cd w lv (dg N.natAbs)
def jS.below{r:Nat}{N:Int}{w w1:World}(h:jS r N w)(hb:af w w w1):jS r N w1:=by
 obtain⟨lv,h1,h2⟩:=h;exact⟨lv,h1.next hb,h2.below hb⟩
def jS.lt{r:Nat}{N:Int}{w:World}(h:jS r N w):r<w.heap.size:=by
 obtain⟨lv,h1,_⟩:=h;exact h1.lt
def jS.next{r n:Nat}{N:Int}{w w1:World}(h:jS r N w)(hb:af n w w1)(hn:n=w.heap.size:=by rfl):jS r N w1:=h.below (hn▸hb)
def br.below0'{N:Int}{v:Value}{w w1:World}(h:br N v w)(hb:af w w w1):br N v w1:=h.below hb
def cd.overNew{w w':World}{r:Nat}{v:Value}{L:List Int}(h:cd w v L)(hk:ah r #[false,.slice none 0 0] 182 w)(Z:ai [r] w w'):cd w' v L:=by
 exact LU
def cd.overSlot{w w':World}{r:Nat}{b:Bool}{x:ck}{k c:Nat}{v:Value}{L:List Int}(h:cd w v L)(hk:ah r #[b,.slice x k c] 182 w)(Z:ai [r] w w'):cd w' v L:=by
 exact LU
def Sl(A B X1 Y1 E1 X2 Y2 E2:Int)(hA:bh A)(hB:a_ B)(fp:eN A B X1 Y1 E1)(fq:eN A B X2 Y2 E2)(a4:¬(X1=X2/\Y1=-Y2/\E1=E2))(w:World):
 Rv 138 #[.agg #[A,B],.agg #[X1,Y1,E1],.agg #[X2,Y2,E2]] w (cw (tg A B X1 Y1 E1 X2 Y2 E2)):=by
 obtain⟨hd,hn,hm,c5⟩:=Sm hA fp fq a4;have hs:=h_ c5;clear c5;have h1:E1≠0:=by have:=fp.2.1;omega
 have h2:E2≠0:=by have:=fq.2.1;omega
 have G:iY X1 Y1 E1:=fp.ptIn;have hq:iY X2 Y2 E2:=fq.ptIn;clear fp fq;show Calls _ _ _ _ (λe w'=>e=.returned (cw (gr A B X1 Y1 E1 (fX A X1 Y1 E1 X2 Y2 E2) (eW A X1 Y1 E1 X2 Y2 E2) (dU (fX A X1 Y1 E1 X2 Y2 E2) (eW A X1 Y1 E1 X2 Y2 E2) X1 E1 X2 E2) (fk (eW A X1 Y1 E1 X2 Y2 E2) E1 E2) 20 1))/\af w w w');have el:=h_ (SB A B X1 Y1 E1 X2 Y2 E2 hA G hq);have eB:=h_ (tD X2 Y2 E2 hq.2.1);obtain⟨kC,kP,kQ,V,J⟩:=Bb w #[A,B] 42 #[X1,Y1,E1] 46 #[X2,Y2,E2] 46 #[(),(),()] 46;have a6:=J.size;obtain⟨c4,cB,bs⟩:=G;obtain⟨da,cZ,bq⟩:=hq;generalize aa:cw (gr A B X1 Y1 E1 (fX A X1 Y1 E1 X2 Y2 E2) (eW A X1 Y1 E1 X2 Y2 E2) (dU (fX A X1 Y1 E1 X2 Y2 E2) (eW A X1 Y1 E1 X2 Y2 E2) X1 E1 X2 E2) (fk (eW A X1 Y1 E1 X2 Y2 E2) E1 E2) 20 1)=cz;have cb:=h_ aa;clear aa;have e3:Hid (fX A X1 Y1 E1 X2 Y2 E2=(slN A X1 Y1 E1 X2 Y2 E2).tdiv (au (slN A X1 Y1 E1 X2 Y2 E2) (slD X1 Y1 E1 X2 Y2 E2))):=rfl;have cT:Hid (eW A X1 Y1 E1 X2 Y2 E2=(slD X1 Y1 E1 X2 Y2 E2).tdiv (au (slN A X1 Y1 E1 X2 Y2 E2) (slD X1 Y1 E1 X2 Y2 E2))):=rfl;have a8:(-9000000000000000000<=slN A X1 Y1 E1 X2 Y2 E2/\slN A X1 Y1 E1 X2 Y2 E2<=9000000000000000000)/\(-9000000000000000000<=slD X1 Y1 E1 X2 Y2 E2/\slD X1 Y1 E1 X2 Y2 E2<=9000000000000000000):=by
  exact Lm
 generalize slN A X1 Y1 E1 X2 Y2 E2=n0 at *;generalize slD X1 Y1 E1 X2 Y2 E2=m0 at *;have HG:=h_ (ow n0 m0 a8.1 a8.2);generalize au n0 m0=d at *;generalize fX A X1 Y1 E1 X2 Y2 E2=n at *;generalize eW A X1 Y1 E1 X2 Y2 E2=m at *;go_enter func138,ntmps138;go_upto_region 1 with fail
 generalize (((w.alloc _).alloc _).alloc _).alloc _=W at *;have e4:w.heap.size<=w.heap.size+1+1+1:=o_;generalize w.heap.size+1+1+1=rR at *;generalize w.heap.size+1+1=rQ at *;generalize w.heap.size+1=rP at *;generalize bv:w.heap.size=rC at *;have lC:=kC.lt;have lP:=kP.lt;have lQ:=kQ.lt;have lR:=V.lt;have⟨p0,p1,p2⟩:=kP.q3;have⟨q0,q1,q2⟩:=kQ.q3;go_upto_region 5 with fail
 go_cut [31] from 175 (λs wc=>s=.bool false/\af W W wc)
 case first=>
  by_cases g1:X1=X2
  .by_cases g2:Y1=-Y2
   .have g3:¬E1=E2:=λh=>a4 ⟨g1,g2,h⟩;exact zM
   .exact zM
  .exact zM
 case rest=>
  obtain⟨rfl,b0⟩:=hcut;have F:=ag b0 o_ J;replace kC:=kC.next b0
  replace kP:=kP.next b0
  replace kQ:=kQ.next b0
  replace V:=V.next b0
  clear p0 p1 p2 q0 q1 q2 b0 J a4 eB;have hz:=F.size;have⟨p0,p1,p2⟩:=kP.q3;have⟨q0,q1,q2⟩:=kQ.q3;have⟨c0,c1⟩:=kC.q2;go_wp2_with fail
  refine aj (el.out _) λw1 I=>?_;replace F:=ag I o_ F;replace kC:=kC.next I
  replace kP:=kP.next I
  replace kQ:=kQ.next I
  replace V:=V.next I
  clear p0 p1 p2 q0 q1 q2 I;replace hz:=F.size;have⟨p0,p1,p2⟩:=kP.q3;have⟨q0,q1,q2⟩:=kQ.q3;clear c0 c1 el;go_wp2_with fail
  refine (HG.out _).mono ?_;rintro e _ ⟨rfl,kk,rfl⟩;have U:=BE w1 kk;generalize w1.drewN kk=w2 at U ⊢;replace F:=ag U o_ F;replace kC:=kC.next U
  replace kP:=kP.next U
  replace kQ:=kQ.next U
  replace V:=V.next U
  clear p0 p1 p2 q0 q1 q2 U;replace hz:=F.size;have⟨p0,p1,p2⟩:=kP.q3;have⟨q0,q1,q2⟩:=kQ.q3;clear HG;have e1:IntKind.i64.wrap (n0.tdiv d)=n:=by rw[e3.out,XE];rw[e3.out] at hn;unfold wrap64;omega
  have e2:IntKind.i64.wrap (m0.tdiv d)=m:=by rw[cT.out,XE];rw[cT.out] at hm;unfold wrap64;omega
  have cF:(d==0)=false:=by simpa using hd
  clear e3 cT;go_upto_region 9 with fail
  (refine bR k_ k_ ?_;(repeat (go_big_quiet_step (fail)));refine wpQuiet_nil ?_;intro w9 aZ;obtain⟨g0,go⟩:=bu aZ;have gn:=aZ.size;(try simp only[VG] at gn))
  replace F:=ag aZ o_ F;replace kC:=kC.next aZ
  replace kP:=kP.next aZ
  replace kQ:=kQ.next aZ
  replace V:=V.next aZ
  clear p0 p1 p2 q0 q1 q2 aZ;replace hz:=F.size;have⟨p0,p1,p2⟩:=kP.q3;have⟨q0,q1,q2⟩:=kQ.q3;clear e1 e2 cF g0 go a8;have lm:(dg m.natAbs).length<=40000:=Vl (ft (k:=5) o_) o_;have ln:(dg n.natAbs).length<=40000:=Vl (ft (k:=5) o_) o_;have mm:=aN (x:=m) (y:=m) 3200000000 3200000000 o_ o_;have nn:=aN (x:=n) (y:=n) 48000000000 48000000000 o_ o_;have eG:(dg (m*m).natAbs).length<=40000:=Vl (ft (k:=5) o_) o_;have ev:(dg (n*n).natAbs).length<=40000:=Vl (ft (k:=6) o_) o_;have fV:=aN (x:=E1) (y:=E1) 20 20 o_ o_;have fy:=aN (x:=E1*E1) (y:=E2) 400 20 o_ o_;have gq:=aN (x:=E1*E1*E2) (y:=E2) 8000 20 o_ o_;have eb:(dg (E1*E1*E2*E2).natAbs).length<=40000:=Vl (ft (k:=5) o_) o_;have e0:=h_ (fF m o_);have f1:=h_ (fF (E1*E1*E2*E2) o_);go_wp2_with fail
  refine (e0.out _).mono ?_;rintro e g4 ⟨u1,rfl,bp,bZ⟩;replace F:=ag bZ o_ F;replace kC:=kC.next bZ
  replace kP:=kP.next bZ
  replace kQ:=kQ.next bZ
  replace V:=V.next bZ
  clear p0 p1 p2 q0 q1 q2 bZ;replace hz:=F.size;have⟨p0,p1,p2⟩:=kP.q3;have⟨q0,q1,q2⟩:=kQ.q3;go_wp2_with fail
  refine (e0.out _).mono ?_;rintro e ez ⟨u2,rfl,bz,a5⟩;replace bp:br m u1 ez:=bp.rd.below a5;replace F:=ag a5 o_ F;replace kC:=kC.next a5
  replace kP:=kP.next a5
  replace kQ:=kQ.next a5
  replace V:=V.next a5
  clear p0 p1 p2 q0 q1 q2 a5;replace hz:=F.size;have⟨p0,p1,p2⟩:=kP.q3;have⟨q0,q1,q2⟩:=kQ.q3;go_wp2_with fail
  refine (jo m m u1 u2 lm lm _ bp bz.rd).mono ?_;rintro e eg ⟨u3,rfl,cG,d7⟩;obtain⟨lv,rfl,Z⟩:=cG;obtain⟨sl,H,rfl,-⟩:=id Z.1;have c3:jS eg.heap.size (m*m) (eg.alloc (.cells #[decide (m*m<0),.slice sl (dg (m*m).natAbs).length H] 182)):=⟨_,ah.new _ _ _,Z.1.below ((Vn _ _).alloc (Vj _) _)⟩
  have cX:af ez ez (eg.alloc (.cells #[decide (m*m<0),.slice sl (dg (m*m).natAbs).length H] 182)):=d7.alloc d7.size _;clear bp bz Z d7;go_upto_region 11 with fail
  generalize eg.alloc _=f0 at c3 cX ⊢;generalize eg.heap.size=dl at c3 ⊢;replace F:=ag cX o_ F;replace kC:=kC.next cX
  replace kP:=kP.next cX
  replace kQ:=kQ.next cX
  replace V:=V.next cX
  clear p0 p1 p2 q0 q1 q2 cX;replace hz:=F.size;have⟨p0,p1,p2⟩:=kP.q3;have⟨q0,q1,q2⟩:=kQ.q3;go_wp2_with fail
  refine (f1.out _).mono ?_;rintro e d6 ⟨u4,rfl,cA,ee⟩;obtain⟨lv,rfl,Z⟩:=cA;obtain⟨sl,H,rfl,-⟩:=id Z.1;have dp:jS d6.heap.size (E1*E1*E2*E2) (d6.alloc (.cells #[decide (E1*E1*E2*E2<0),.slice sl (dg (E1*E1*E2*E2).natAbs).length H] 182)):=⟨_,ah.new _ _ _,Z.1.below ((Vn _ _).alloc (Vj _) _)⟩
  have cQ:af f0 f0 (d6.alloc (.cells #[decide (E1*E1*E2*E2<0),.slice sl (dg (E1*E1*E2*E2).natAbs).length H] 182)):=ee.alloc ee.size _;replace c3:=c3.next cQ
  clear Z ee;go_upto_region 12 with fail
  generalize d6.alloc _=aL at c3 dp cQ ⊢;generalize d6.heap.size=cv at dp ⊢;replace F:=ag cQ o_ F;replace kC:=kC.next cQ
  replace kP:=kP.next cQ
  replace kQ:=kQ.next cQ
  replace V:=V.next cQ
  clear p0 p1 p2 q0 q1 q2 cQ;replace hz:=F.size;have⟨p0,p1,p2⟩:=kP.q3;have⟨q0,q1,q2⟩:=kQ.q3;have lP:=kP.lt;have lQ:=kQ.lt;have lR:=V.lt;have lC:=kC.lt;have ha:=c3.lt;have hg:=dp.lt
  go_cut [13] from 175 (λs wc=>∃r:Nat,s=.pointer (some ⟨r,0,none⟩)/\aL.heap.size<=r/\jS r (n*n*(E1*E1*E2*E2)) wc/\af aL aL wc)
  case first=>
   obtain⟨eP,em,cu⟩:=dp;have⟨y0,y1⟩:=em.q2;have d9:Hid (br (E1*E1*E2*E2) (.agg #[decide (E1*E1*E2*E2<0),eP]) aL):=⟨_,rfl,cu⟩
   refine bw [] (λ_=>false) (λ_=>True) (λw'=>True) k_ (trivial) ?_;refine aE ⟨aL.drew,(ai.refl _ _).drew,trivial⟩ [ae,ac,ae,ac,ac,ae] 6 ao aB ?_;refine aR [1,7] ?_;refine am.cons ?_ ?_
   .refine bN (some 71) (λu1 w'=>(Wh aL.heap.size n u1 w')) (λu1=>Wh.closed _ _ _) (λw' hO _=>(fF n o_ w').mono λe w2 ⟨v,h1,h2,h3⟩=>⟨v,h1,.of_below h3,h2.le hO.size⟩) (λu1 hne=>?_);refine ap ?_;refine aR [3,7] ?_;refine am.cons ?_ ?_
    .refine bN (some 73) (λu2 w'=>(Wh aL.heap.size n u1 w')/\(Wh aL.heap.size n u2 w')) (λu2=>bV.and bV) (λw' hO bp=>(fF n o_ w').mono λe w2 ⟨v,h1,h2,h3⟩=>⟨v,h1,.of_below h3,⟨bV w' w2 bp h3,h2.le hO.size⟩⟩) (λu2 hne=>?_);refine ap ?_;refine aR [4,7] ?_;refine am.cons ?_ ?_
     .refine bN (some 74) (λu3 w'=>(Wh aL.heap.size (n*n) u3 w')) (λu3=>Wh.closed _ _ _) (λw' hO ⟨bp,bz⟩=>(jo n n _ _ ln ln w' bp.rd bz.rd).mono λe w2 ⟨v,h1,h2,h3⟩=>⟨v,h1,.of_below h3,h2.le hO.size⟩) (λu3 hne=>?_);refine ap ?_;refine aR [6,7] ?_;refine am.cons ?_ ?_
      .refine bN (some 76) (λu4 w'=>(Wh aL.heap.size (n*n*(E1*E1*E2*E2)) u4 w')) (λu4=>Wh.closed _ _ _) (λw' hO cG=>(jo (n*n) (E1*E1*E2*E2) _ _ ev eb w' cG.rd (d9.out.below0' hO.below)).mono λe w2 ⟨v,h1,h2,h3⟩=>⟨v,h1,.of_below h3,h2.le hO.size⟩) (λu4 hne=>?_);refine ap ?_;refine aR [7] ?_;refine am.cons ?_ ?_
       .refine mj (some 13) (λu w'=>∃ab:Nat,u=.pointer (some ⟨ab,0,none⟩)/\aL.heap.size<=ab/\(Wh aL.heap.size (n*n*(E1*E1*E2*E2)) u4 w')/\(ah ab #[false,.slice none 0 0] 182 w')) r_ r_ r_ (λ_ w1 w2 ⟨r,h,q,d⟩ hb=>⟨r,h,q,(bV.and aK:aQ _) w1 w2 d hb⟩) (λw' hO cA=>⟨.pointer (some ⟨w'.heap.size,0,none⟩),w'.alloc (.cells #[false,.slice none 0 0] 182),(by go_simp),(ai.refl _ _).alloc _,⟨w'.heap.size,rfl,hO.size,⟨bV w' _ cA ((Vn _ _).alloc (Vj _) _),ah.new _ _ _⟩⟩⟩) (λu hne=>?_);refine ap ?_;obtain⟨w9,ax,ab,rfl,hr,bx⟩:=hne;refine me (D2:=λw'=>(Wh aL.heap.size (n*n*(E1*E1*E2*E2)) u4 w')/\(ah ab #[false,.slice none 0 0] 182 w')) (λw' ⟨r',c8,_,d⟩=>by cases c8;exact d) ?_;have hne:∃w1,ai [] aL w1/\((Wh aL.heap.size (n*n*(E1*E1*E2*E2)) u4 w1)/\(ah ab #[false,.slice none 0 0] 182 w1)):=⟨w9,ax,bx⟩
        clear ax bx;refine aD 8 ?_;obtain⟨w8,_,bi⟩:=id hne;obtain⟨lz,rfl,bX⟩:Wh aL.heap.size (n*n*(E1*E1*E2*E2)) u4 w8:=by first|exact bi.1|exact bi.2
        obtain⟨sl,H,rfl,_⟩:=id bX.1;clear bX bi;refine fC (v:=.agg #[decide ((n*n*(E1*E1*E2*E2))<0),.slice sl (dg (n*n*(E1*E1*E2*E2)).natAbs).length H]) ab #[false,.slice none 0 0] (λw'=>ah ab #[decide ((n*n*(E1*E1*E2*E2))<0),.slice sl (dg (n*n*(E1*E1*E2*E2)).natAbs).length H] 182 w'/\cd w' (.slice sl (dg (n*n*(E1*E1*E2*E2)).natAbs).length H) (dg (n*n*(E1*E1*E2*E2)).natAbs)) (.inl hr) (λ_ ⟨cA,K⟩=>K) (aK.and (λ_ _ h hb=>h.below hb)) (λ_ _ ⟨cA,K⟩ Z hb=>⟨hb,(cA.rdO.1).overNew K Z⟩) (λhne=>?_);exact JY
       exact am.nil
      refine am.cons ?_ ?_
      .refine mj (some 13) (λu w'=>∃ab:Nat,u=.pointer (some ⟨ab,0,none⟩)/\aL.heap.size<=ab/\(Wh aL.heap.size (n*n) u3 w')/\(ah ab #[false,.slice none 0 0] 182 w')) r_ r_ r_ (λ_ w1 w2 ⟨r,h,q,d⟩ hb=>⟨r,h,q,(bV.and aK:aQ _) w1 w2 d hb⟩) (λw' hO cG=>⟨.pointer (some ⟨w'.heap.size,0,none⟩),w'.alloc (.cells #[false,.slice none 0 0] 182),(by go_simp),(ai.refl _ _).alloc _,⟨w'.heap.size,rfl,hO.size,⟨bV w' _ cG ((Vn _ _).alloc (Vj _) _),ah.new _ _ _⟩⟩⟩) (λu hne=>?_);refine ap ?_;obtain⟨w9,ax,ab,rfl,hr,bx⟩:=hne;refine me (D2:=λw'=>(Wh aL.heap.size (n*n) u3 w')/\(ah ab #[false,.slice none 0 0] 182 w')) (λw' ⟨r',c8,_,d⟩=>by cases c8;exact d) ?_;have hne:∃w1,ai [] aL w1/\((Wh aL.heap.size (n*n) u3 w1)/\(ah ab #[false,.slice none 0 0] 182 w1)):=⟨w9,ax,bx⟩
       clear ax bx;refine aR [6] ?_;refine am.cons ?_ ?_
       .refine bN (some 76) (λu4 w'=>(ah ab #[false,.slice none 0 0] 182 w')/\(Wh aL.heap.size (n*n*(E1*E1*E2*E2)) u4 w')) (λu4=>aK.and bV) (λw' hO ⟨cG,K⟩=>(jo (n*n) (E1*E1*E2*E2) _ _ ev eb w' cG.rd (d9.out.below0' hO.below)).mono λe w2 ⟨v,h1,h2,h3⟩=>⟨v,h1,.of_below h3,⟨aK w' w2 K h3,h2.le hO.size⟩⟩) (λu4 hne=>?_);refine ap ?_;refine aD 8 ?_;obtain⟨w8,_,bi⟩:=id hne;obtain⟨lz,rfl,bX⟩:Wh aL.heap.size (n*n*(E1*E1*E2*E2)) u4 w8:=by first|exact bi.1|exact bi.2
        obtain⟨sl,H,rfl,_⟩:=id bX.1;clear bX bi;refine fC (v:=.agg #[decide ((n*n*(E1*E1*E2*E2))<0),.slice sl (dg (n*n*(E1*E1*E2*E2)).natAbs).length H]) ab #[false,.slice none 0 0] (λw'=>ah ab #[decide ((n*n*(E1*E1*E2*E2))<0),.slice sl (dg (n*n*(E1*E1*E2*E2)).natAbs).length H] 182 w'/\cd w' (.slice sl (dg (n*n*(E1*E1*E2*E2)).natAbs).length H) (dg (n*n*(E1*E1*E2*E2)).natAbs)) (.inl hr) (λ_ ⟨K,cA⟩=>K) (aK.and (λ_ _ h hb=>h.below hb)) (λ_ _ ⟨K,cA⟩ Z hb=>⟨hb,(cA.rdO.1).overNew K Z⟩) (λhne=>?_);exact JY
       exact am.nil
      exact am.nil
     refine am.cons ?_ ?_
     .refine mj (some 13) (λu w'=>∃ab:Nat,u=.pointer (some ⟨ab,0,none⟩)/\aL.heap.size<=ab/\(Wh aL.heap.size n u1 w')/\(Wh aL.heap.size n u2 w')/\(ah ab #[false,.slice none 0 0] 182 w')) r_ r_ r_ (λ_ w1 w2 ⟨r,h,q,d⟩ hb=>⟨r,h,q,(bV.and (bV.and aK):aQ _) w1 w2 d hb⟩) (λw' hO ⟨bp,bz⟩=>⟨.pointer (some ⟨w'.heap.size,0,none⟩),w'.alloc (.cells #[false,.slice none 0 0] 182),(by go_simp),(ai.refl _ _).alloc _,⟨w'.heap.size,rfl,hO.size,⟨bV w' _ bp ((Vn _ _).alloc (Vj _) _),bV w' _ bz ((Vn _ _).alloc (Vj _) _),ah.new _ _ _⟩⟩⟩) (λu hne=>?_);refine ap ?_;obtain⟨w9,ax,ab,rfl,hr,bx⟩:=hne;refine me (D2:=λw'=>(Wh aL.heap.size n u1 w')/\(Wh aL.heap.size n u2 w')/\(ah ab #[false,.slice none 0 0] 182 w')) (λw' ⟨r',c8,_,d⟩=>by cases c8;exact d) ?_;have hne:∃w1,ai [] aL w1/\((Wh aL.heap.size n u1 w1)/\(Wh aL.heap.size n u2 w1)/\(ah ab #[false,.slice none 0 0] 182 w1)):=⟨w9,ax,bx⟩
      clear ax bx;refine aR [4] ?_;refine am.cons ?_ ?_
      .refine bN (some 74) (λu3 w'=>(ah ab #[false,.slice none 0 0] 182 w')/\(Wh aL.heap.size (n*n) u3 w')) (λu3=>aK.and bV) (λw' hO ⟨bp,bz,K⟩=>(jo n n _ _ ln ln w' bp.rd bz.rd).mono λe w2 ⟨v,h1,h2,h3⟩=>⟨v,h1,.of_below h3,⟨aK w' w2 K h3,h2.le hO.size⟩⟩) (λu3 hne=>?_);exact A6
      exact am.nil
     exact am.nil
    refine am.cons ?_ ?_
    .refine mj (some 13) (λu w'=>∃ab:Nat,u=.pointer (some ⟨ab,0,none⟩)/\aL.heap.size<=ab/\(Wh aL.heap.size n u1 w')/\(ah ab #[false,.slice none 0 0] 182 w')) r_ r_ r_ (λ_ w1 w2 ⟨r,h,q,d⟩ hb=>⟨r,h,q,(bV.and aK:aQ _) w1 w2 d hb⟩) (λw' hO bp=>⟨.pointer (some ⟨w'.heap.size,0,none⟩),w'.alloc (.cells #[false,.slice none 0 0] 182),(by go_simp),(ai.refl _ _).alloc _,⟨w'.heap.size,rfl,hO.size,⟨bV w' _ bp ((Vn _ _).alloc (Vj _) _),ah.new _ _ _⟩⟩⟩) (λu hne=>?_);refine ap ?_;obtain⟨w9,ax,ab,rfl,hr,bx⟩:=hne;refine me (D2:=λw'=>(Wh aL.heap.size n u1 w')/\(ah ab #[false,.slice none 0 0] 182 w')) (λw' ⟨r',c8,_,d⟩=>by cases c8;exact d) ?_;have hne:∃w1,ai [] aL w1/\((Wh aL.heap.size n u1 w1)/\(ah ab #[false,.slice none 0 0] 182 w1)):=⟨w9,ax,bx⟩
     clear ax bx;refine aR [3] ?_;refine am.cons ?_ ?_
     .refine bN (some 73) (λu2 w'=>(Wh aL.heap.size n u1 w')/\(ah ab #[false,.slice none 0 0] 182 w')/\(Wh aL.heap.size n u2 w')) (λu2=>bV.and (aK.and bV)) (λw' hO ⟨bp,K⟩=>(fF n o_ w').mono λe w2 ⟨v,h1,h2,h3⟩=>⟨v,h1,.of_below h3,⟨bV w' w2 bp h3,aK w' w2 K h3,h2.le hO.size⟩⟩) (λu2 hne=>?_);refine ap ?_;refine aR [4] ?_;refine am.cons ?_ ?_
      .refine bN (some 74) (λu3 w'=>(ah ab #[false,.slice none 0 0] 182 w')/\(Wh aL.heap.size (n*n) u3 w')) (λu3=>aK.and bV) (λw' hO ⟨bp,K,bz⟩=>(jo n n _ _ ln ln w' bp.rd bz.rd).mono λe w2 ⟨v,h1,h2,h3⟩=>⟨v,h1,.of_below h3,⟨aK w' w2 K h3,h2.le hO.size⟩⟩) (λu3 hne=>?_);exact A6
      exact am.nil
     exact am.nil
    exact am.nil
   refine am.cons ?_ ?_
   .refine mj (some 13) (λu w'=>∃ab:Nat,u=.pointer (some ⟨ab,0,none⟩)/\aL.heap.size<=ab/\(ah ab #[false,.slice none 0 0] 182 w')) r_ r_ r_ (λ_ w1 w2 ⟨r,h,q,d⟩ hb=>⟨r,h,q,(ah.closed _ _ _:aQ _) w1 w2 d hb⟩) (λw' hO hD=>⟨.pointer (some ⟨w'.heap.size,0,none⟩),w'.alloc (.cells #[false,.slice none 0 0] 182),(by go_simp),(ai.refl _ _).alloc _,⟨w'.heap.size,rfl,hO.size,ah.new _ _ _⟩⟩) (λu hne=>?_);refine ap ?_;obtain⟨w9,ax,ab,rfl,hr,bx⟩:=hne;refine me (D2:=λw'=>(ah ab #[false,.slice none 0 0] 182 w')) (λw' ⟨r',c8,_,d⟩=>by cases c8;exact d) ?_;have hne:∃w1,ai [] aL w1/\((ah ab #[false,.slice none 0 0] 182 w1)):=⟨w9,ax,bx⟩
    clear ax bx;refine aR [1] ?_;refine am.cons ?_ ?_
    .refine bN (some 71) (λu1 w'=>(ah ab #[false,.slice none 0 0] 182 w')/\(Wh aL.heap.size n u1 w')) (λu1=>aK.and bV) (λw' hO K=>(fF n o_ w').mono λe w2 ⟨v,h1,h2,h3⟩=>⟨v,h1,.of_below h3,⟨aK w' w2 K h3,h2.le hO.size⟩⟩) (λu1 hne=>?_);refine ap ?_;refine aR [3] ?_;refine am.cons ?_ ?_
     .refine bN (some 73) (λu2 w'=>(ah ab #[false,.slice none 0 0] 182 w')/\(Wh aL.heap.size n u1 w')/\(Wh aL.heap.size n u2 w')) (λu2=>aK.and (bV.and bV)) (λw' hO ⟨K,bp⟩=>(fF n o_ w').mono λe w2 ⟨v,h1,h2,h3⟩=>⟨v,h1,.of_below h3,⟨aK w' w2 K h3,bV w' w2 bp h3,h2.le hO.size⟩⟩) (λu2 hne=>?_);refine ap ?_;refine aR [4] ?_;refine am.cons ?_ ?_
      .refine bN (some 74) (λu3 w'=>(ah ab #[false,.slice none 0 0] 182 w')/\(Wh aL.heap.size (n*n) u3 w')) (λu3=>aK.and bV) (λw' hO ⟨K,bp,bz⟩=>(jo n n _ _ ln ln w' bp.rd bz.rd).mono λe w2 ⟨v,h1,h2,h3⟩=>⟨v,h1,.of_below h3,⟨aK w' w2 K h3,h2.le hO.size⟩⟩) (λu3 hne=>?_);exact A6
      exact am.nil
     exact am.nil
    exact am.nil
   exact am.nil
  case rest=>
   obtain⟨ab,rfl,c6,ed,cP⟩:=hcut;have c7:=h_ cP;have d4:=cP.size;replace F:=ag cP o_ F;replace kC:=kC.next cP
   replace kP:=kP.next cP
   replace kQ:=kQ.next cP
   replace V:=V.next cP
   clear p0 p1 p2 q0 q1 q2 cP;replace hz:=F.size;have⟨p0,p1,p2⟩:=kP.q3;have⟨q0,q1,q2⟩:=kQ.q3;obtain⟨eH,c9,dx⟩:=ed;obtain⟨bo,az,rfl,-⟩:=id dx;obtain⟨eU,dz,cN⟩:=id c3;have⟨z0,z1⟩:=c9.q2;obtain⟨y0,y1⟩:=(dz.next c7.out).q2;have g6:=c9.lt;obtain⟨s1,s2,_,_⟩:=fH 10000 (x:=X1) (e:=E2) o_ bq;obtain⟨s3,s4,_,_⟩:=fH 10000 (x:=X2) (e:=E1) o_ bs;have lS:(dg (X1*E2*E2+X2*E1*E1).natAbs).length<=40000:=Vl (ft (k:=5) o_) o_;have d3:Hid (br (m*m) (.agg #[decide (m*m<0),eU]) aL):=⟨_,rfl,cN⟩
   have eV:Hid (∀w',ai [ab] wc w'->br (n*n*(E1*E1*E2*E2)) (.agg #[decide (n*n*(E1*E1*E2*E2)<0),.slice bo (dg (n*n*(E1*E1*E2*E2)).natAbs).length az]) w'):=h_ (λw' Z=>⟨_,rfl,dx.overSlot c9 Z⟩);have v1:=aN (x:=m*m) (y:=X1*E2*E2+X2*E1*E1) 10240000000000000000 8000000 o_ o_;have v2:=aN (x:=n*n) (y:=E1*E1*E2*E2) 2304000000000000000000 160000 o_ o_;have ea:(dg (m*m*(X1*E2*E2+X2*E1*E1)).natAbs).length<=100000:=Vl (ft (k:=8) o_) o_;have eT:(dg (-(m*m*(X1*E2*E2+X2*E1*E1))).natAbs).length<=100000:=by rw[Int.natAbs_neg];exact ea
   have f8:(dg (n*n*(E1*E1*E2*E2)).natAbs).length<=100000:=Vl (ft (k:=8) o_) o_;have cc:rP∉[ab]:=u_;have cy:rQ∉[ab]:=u_;have gb:dl∉[ab]:=u_;have gU:ab∈[ab]:=s_;have g7:dl<wc.heap.size:=o_;have g8:rP<wc.heap.size:=o_;have g9:rQ<wc.heap.size:=o_;go_upto_region 13 with fail
   go_cut [] from 175 (λwd=>jS ab (dU n m X1 E1 X2 E2) wd/\ai [ab] wc wd)
   case first=>
    refine bw [ab] (λ_=>false) (λ_=>True) (λw'=>(ah ab #[decide ((n*n*(E1*E1*E2*E2))<0),.slice bo (dg (n*n*(E1*E1*E2*E2)).natAbs).length az] 182 w')) k_ c9 ?_;refine aE ⟨wc.drew,(ai.refl _ _).drew,c9⟩ (bk 1 18) 6 aK aB ?_;refine aR [0,19] ?_;refine am.cons ?_ ?_
    .refine mj (some 77) (λu w'=>u=.agg #[decide ((n*n*(E1*E1*E2*E2))<0),.slice bo (dg (n*n*(E1*E1*E2*E2)).natAbs).length az]/\(ah ab #[decide ((n*n*(E1*E1*E2*E2))<0),.slice bo (dg (n*n*(E1*E1*E2*E2)).natAbs).length az] 182 w')) r_ r_ r_ (λ_ w1 w2 ⟨h,d⟩ hb=>⟨h,(ah.closed _ _ _:aQ _) w1 w2 d hb⟩) (λw' hO K=>⟨.agg #[decide ((n*n*(E1*E1*E2*E2))<0),.slice bo (dg (n*n*(E1*E1*E2*E2)).natAbs).length az],w',vu,ai.refl _ _,⟨rfl,K⟩⟩) (λu hne=>?_);refine ap ?_;obtain⟨w9,ax,rfl,bx⟩:=hne;refine me (D2:=λw'=>(ah ab #[decide ((n*n*(E1*E1*E2*E2))<0),.slice bo (dg (n*n*(E1*E1*E2*E2)).natAbs).length az] 182 w')) (λw' h=>h.2) ?_;have hne:∃w1,ai [ab] wc w1/\((ah ab #[decide ((n*n*(E1*E1*E2*E2))<0),.slice bo (dg (n*n*(E1*E1*E2*E2)).natAbs).length az] 182 w1)):=⟨w9,ax,bx⟩
     clear ax bx;refine aR [19] ?_;refine am.cons ?_ ?_
     .refine bN (some 96) (λu1 w'=>(ah ab #[decide ((n*n*(E1*E1*E2*E2))<0),.slice bo (dg (n*n*(E1*E1*E2*E2)).natAbs).length az] 182 w')/\(Wh wc.heap.size (X1*E2*E2+X2*E1*E1) u1 w')) (λu1=>aK.and bV) (λw' hO K=>(fF (X1*E2*E2+X2*E1*E1) o_ w').mono λe w2 ⟨v,h1,h2,h3⟩=>⟨v,h1,.of_below h3,⟨aK w' w2 K h3,h2.le hO.size⟩⟩) (λu1 hne=>?_);refine ap ?_;exact Mk
     exact am.nil
    refine am.cons ?_ ?_
    .refine bN (some 96) (λu1 w'=>(ah ab #[decide ((n*n*(E1*E1*E2*E2))<0),.slice bo (dg (n*n*(E1*E1*E2*E2)).natAbs).length az] 182 w')/\(Wh wc.heap.size (X1*E2*E2+X2*E1*E1) u1 w')) (λu1=>aK.and bV) (λw' hO K=>(fF (X1*E2*E2+X2*E1*E1) o_ w').mono λe w2 ⟨v,h1,h2,h3⟩=>⟨v,h1,.of_below h3,⟨aK w' w2 K h3,h2.le hO.size⟩⟩) (λu1 hne=>?_);refine ap ?_;refine aR [0,20] ?_;refine am.cons ?_ ?_
     .refine mj (some 77) (λu w'=>u=.agg #[decide ((n*n*(E1*E1*E2*E2))<0),.slice bo (dg (n*n*(E1*E1*E2*E2)).natAbs).length az]/\(ah ab #[decide ((n*n*(E1*E1*E2*E2))<0),.slice bo (dg (n*n*(E1*E1*E2*E2)).natAbs).length az] 182 w')/\(Wh wc.heap.size (X1*E2*E2+X2*E1*E1) u1 w')) r_ r_ r_ (λ_ w1 w2 ⟨h,d⟩ hb=>⟨h,(aK.and bV:aQ _) w1 w2 d hb⟩) (λw' hO ⟨K,bp⟩=>⟨.agg #[decide ((n*n*(E1*E1*E2*E2))<0),.slice bo (dg (n*n*(E1*E1*E2*E2)).natAbs).length az],w',vu,ai.refl _ _,⟨rfl,⟨K,bp⟩⟩⟩) (λu hne=>?_);refine ap ?_;obtain⟨w9,ax,rfl,bx⟩:=hne;refine me (D2:=λw'=>(ah ab #[decide ((n*n*(E1*E1*E2*E2))<0),.slice bo (dg (n*n*(E1*E1*E2*E2)).natAbs).length az] 182 w')/\(Wh wc.heap.size (X1*E2*E2+X2*E1*E1) u1 w')) (λw' h=>h.2) ?_;have hne:∃w1,ai [ab] wc w1/\((ah ab #[decide ((n*n*(E1*E1*E2*E2))<0),.slice bo (dg (n*n*(E1*E1*E2*E2)).natAbs).length az] 182 w1)/\(Wh wc.heap.size (X1*E2*E2+X2*E1*E1) u1 w1)):=⟨w9,ax,bx⟩
      clear ax bx;exact Mk
     refine am.cons ?_ ?_
     .refine bN (some 97) (λu2 w'=>(ah ab #[decide ((n*n*(E1*E1*E2*E2))<0),.slice bo (dg (n*n*(E1*E1*E2*E2)).natAbs).length az] 182 w')/\(Wh wc.heap.size (m*m*(X1*E2*E2+X2*E1*E1)) u2 w')) (λu2=>aK.and bV) (λw' hO ⟨K,bp⟩=>(jo (m*m) (X1*E2*E2+X2*E1*E1) _ _ eG lS w' (d3.out.below (hO.belowGe (B:=aL.heap.size) c7.out d4 u_)) bp.rd).mono λe w2 ⟨v,h1,h2,h3⟩=>⟨v,h1,.of_below h3,⟨aK w' w2 K h3,h2.le hO.size⟩⟩) (λu2 hne=>?_);refine ap ?_;refine aR [0,21] ?_;refine am.cons ?_ ?_
      .refine mj (some 77) (λu w'=>u=.agg #[decide ((n*n*(E1*E1*E2*E2))<0),.slice bo (dg (n*n*(E1*E1*E2*E2)).natAbs).length az]/\(ah ab #[decide ((n*n*(E1*E1*E2*E2))<0),.slice bo (dg (n*n*(E1*E1*E2*E2)).natAbs).length az] 182 w')/\(Wh wc.heap.size (m*m*(X1*E2*E2+X2*E1*E1)) u2 w')) r_ r_ r_ (λ_ w1 w2 ⟨h,d⟩ hb=>⟨h,(aK.and bV:aQ _) w1 w2 d hb⟩) (λw' hO ⟨K,bz⟩=>⟨.agg #[decide ((n*n*(E1*E1*E2*E2))<0),.slice bo (dg (n*n*(E1*E1*E2*E2)).natAbs).length az],w',vu,ai.refl _ _,⟨rfl,⟨K,bz⟩⟩⟩) (λu hne=>?_);refine ap ?_;obtain⟨w9,ax,rfl,bx⟩:=hne;refine me (D2:=λw'=>(ah ab #[decide ((n*n*(E1*E1*E2*E2))<0),.slice bo (dg (n*n*(E1*E1*E2*E2)).natAbs).length az] 182 w')/\(Wh wc.heap.size (m*m*(X1*E2*E2+X2*E1*E1)) u2 w')) (λw' h=>h.2) ?_;have hne:∃w1,ai [ab] wc w1/\((ah ab #[decide ((n*n*(E1*E1*E2*E2))<0),.slice bo (dg (n*n*(E1*E1*E2*E2)).natAbs).length az] 182 w1)/\(Wh wc.heap.size (m*m*(X1*E2*E2+X2*E1*E1)) u2 w1)):=⟨w9,ax,bx⟩
       clear ax bx;refine aR [21] ?_;refine am.cons ?_ ?_
       .refine bN (some 98) (λu3 w'=>(ah ab #[decide ((n*n*(E1*E1*E2*E2))<0),.slice bo (dg (n*n*(E1*E1*E2*E2)).natAbs).length az] 182 w')/\(Wh wc.heap.size (-(m*m*(X1*E2*E2+X2*E1*E1))) u3 w')) (λu3=>aK.and bV) (λw' hO ⟨K,bz⟩=>(qK (m*m*(X1*E2*E2+X2*E1*E1)) _ ea w' bz.rd).mono λe w2 ⟨v,h1,h2,h3⟩=>⟨v,h1,.of_below h3,⟨aK w' w2 K h3,h2.le hO.size⟩⟩) (λu3 hne=>?_);refine ap ?_;exact KU
       exact am.nil
      refine am.cons ?_ ?_
      .refine bN (some 98) (λu3 w'=>(ah ab #[decide ((n*n*(E1*E1*E2*E2))<0),.slice bo (dg (n*n*(E1*E1*E2*E2)).natAbs).length az] 182 w')/\(Wh wc.heap.size (-(m*m*(X1*E2*E2+X2*E1*E1))) u3 w')) (λu3=>aK.and bV) (λw' hO ⟨K,bz⟩=>(qK (m*m*(X1*E2*E2+X2*E1*E1)) _ ea w' bz.rd).mono λe w2 ⟨v,h1,h2,h3⟩=>⟨v,h1,.of_below h3,⟨aK w' w2 K h3,h2.le hO.size⟩⟩) (λu3 hne=>?_);refine ap ?_;refine aR [0] ?_;refine am.cons ?_ ?_
       .refine mj (some 77) (λu w'=>u=.agg #[decide ((n*n*(E1*E1*E2*E2))<0),.slice bo (dg (n*n*(E1*E1*E2*E2)).natAbs).length az]/\(ah ab #[decide ((n*n*(E1*E1*E2*E2))<0),.slice bo (dg (n*n*(E1*E1*E2*E2)).natAbs).length az] 182 w')/\(Wh wc.heap.size (-(m*m*(X1*E2*E2+X2*E1*E1))) u3 w')) r_ r_ r_ (λ_ w1 w2 ⟨h,d⟩ hb=>⟨h,(aK.and bV:aQ _) w1 w2 d hb⟩) (λw' hO ⟨K,cG⟩=>⟨.agg #[decide ((n*n*(E1*E1*E2*E2))<0),.slice bo (dg (n*n*(E1*E1*E2*E2)).natAbs).length az],w',vu,ai.refl _ _,⟨rfl,⟨K,cG⟩⟩⟩) (λu hne=>?_);refine ap ?_;obtain⟨w9,ax,rfl,bx⟩:=hne;refine me (D2:=λw'=>(ah ab #[decide ((n*n*(E1*E1*E2*E2))<0),.slice bo (dg (n*n*(E1*E1*E2*E2)).natAbs).length az] 182 w')/\(Wh wc.heap.size (-(m*m*(X1*E2*E2+X2*E1*E1))) u3 w')) (λw' h=>h.2) ?_;have hne:∃w1,ai [ab] wc w1/\((ah ab #[decide ((n*n*(E1*E1*E2*E2))<0),.slice bo (dg (n*n*(E1*E1*E2*E2)).natAbs).length az] 182 w1)/\(Wh wc.heap.size (-(m*m*(X1*E2*E2+X2*E1*E1))) u3 w1)):=⟨w9,ax,bx⟩
        clear ax bx;exact KU
       exact am.nil
      exact am.nil
     exact am.nil
    exact am.nil
   obtain⟨ed,a7⟩:=hcut;have hT:-(368640000000000000000000000+81920000000000000000000000)<=dU n m X1 E1 X2 E2/\dU n m X1 E1 X2 E2<=368640000000000000000000000+81920000000000000000000000:=by unfold dU;omega
   have ey:(dU n m X1 E1 X2 E2).natAbs<10000 ^ 20:=o_;generalize dU n m X1 E1 X2 E2=T at *;have aG:af aL aL wc:=a7.belowGe (B:=aL.heap.size) c7.out d4 u_;replace F:af rC w wc:=a7.belowGe (B:=rC) F o_ u_;replace kC:=kC.over a7 u_;replace kP:=kP.over a7 u_;replace V:=V.over a7 u_;replace c3:=c3.next aG
   replace dp:=dp.next aG
   clear p0 p1 p2 q0 q1 q2 y0 y1 z0 z1 kQ d3 eV c9 dx dz cN a7 aG cc cy gb gU;have d0:=F.size;obtain⟨eU,dz,cN⟩:=c3;obtain⟨eP,em,cu⟩:=dp;have⟨y0,y1⟩:=dz.q2;have⟨z0,z1⟩:=em.q2;go_wp2_with fail
   refine (jo (m*m) (E1*E1*E2*E2) _ _ eG eb _ ⟨_,rfl,cN⟩ ⟨_,rfl,cu⟩).mono ?_;rintro e d5 ⟨u5,rfl,gd,ec⟩;obtain⟨lv,rfl,Z⟩:=gd;obtain⟨sl,H,rfl,-⟩:=id Z.1;have e7:jS d5.heap.size (fk m E1 E2) (d5.alloc (.cells #[decide (m*m*(E1*E1*E2*E2)<0),.slice sl (dg (m*m*(E1*E1*E2*E2)).natAbs).length H] 182)):=⟨_,ah.new _ _ _,Z.1.below ((Vn _ _).alloc (Vj _) _)⟩
   have cW:af wc wc (d5.alloc (.cells #[decide (m*m*(E1*E1*E2*E2)<0),.slice sl (dg (m*m*(E1*E1*E2*E2)).natAbs).length H] 182)):=ec.alloc ec.size _;have v3:=aN (x:=m*m) (y:=E1*E1*E2*E2) 10240000000000000000 160000 o_ o_;have f5:(fk m E1 E2).natAbs<10000 ^ 60:=by unfold fk;omega
   clear y0 y1 z0 z1 dz cN em cu Z ec;go_upto_region 15 with fail
   generalize d5.alloc _=f7 at e7 cW ⊢;generalize d5.heap.size=dy at e7 ⊢;replace F:=ag cW o_ F;replace kC:=kC.next cW
   replace kP:=kP.next cW
   replace V:=V.next cW
   replace ed:=ed.next cW
   generalize fk m E1 E2=D at *;clear cW;have f2:∀e:Int,1<=e->e<=20->(T*(e*e)).natAbs<10000 ^ 60:=λe h1 h2=>by
    have h3:=aN (x:=e) (y:=e) 20 20 o_ o_;have h4:=aN (x:=T) (y:=e*e) (368640000000000000000000000+81920000000000000000000000) 400 o_ o_;omega
   have lT:(dg T.natAbs).length<=40000:=Vl (ft ey) o_;have gY:=h_ f2;have ga:=h_ f5;have g5:=h_ lT;clear f2 f5 lT;clear hT ey eG ev eb lm ln lS ea eT f8 v1 v2 v3 mm nn e0 f1 fV fy gq;have f9:=F.size;go_wp2;go_loopw [15] (λx wr=>∃(e:Int) (f:Nat),x=.int .i64 e/\(1<=e/\e<=21)/\e+f=21/\Hid (cw (gr A B X1 Y1 E1 n m T D f e)=cz)/\af f7 f7 wr) (λx _=>(21 - intOf x).toNat)
   case atStart=>exact⟨1,20,rfl,o_,o_,cb,Vn _ _⟩
   case round=>
    clear cb;obtain⟨e,f,rfl,he,hf,HF,ba⟩:=hrel;by_cases cm:e<=20
    .obtain⟨g,rfl⟩:∃g,f=g+1:=⟨f - 1,o_⟩
     obtain⟨eH,c9,e6⟩:=ed.next ba
     obtain⟨f6,f4,e5⟩:=e7.next ba
     have g6:=c9.lt;have hc:=f4.lt;have⟨y0,y1⟩:=c9.q2;have⟨z0,z1⟩:=f4.q2;have e9:=aN (x:=e) (y:=e) 20 20 o_ o_;have fz:=h_ (λ(w':World) (hb:af wr wr w')=>B7 T (e*e) (.agg #[decide (T<0),eH]) g5.out o_ w' (br.below ⟨_,rfl,e6⟩ hb));have es:=h_ (λ(w':World) (u:Value) (hb:af wr wr w') (hu:br (T*(e*e)) u w')=>MP (T*(e*e)) D u (.agg #[decide (D<0),f6]) (gY.out e he.1 cm) ga.out w' hu (br.below ⟨_,rfl,e5⟩ hb));have dq:-10000<=eh (T*(e*e)) D/\eh (T*(e*e)) D<=10000:=pI _ _ _ _ _ o_;have hF:=HF.out;unfold gr at hF;have en:Hid (kh (T*(e*e)) D=true->(-8000<=m/\m<=8000)/\(-2000000000<=n/\n<=2000000000)):=h_ (λh=>hs.out e _ ⟨he.1,cm⟩ dq (by unfold kh at h;exact (eq_of_beq h).symm));generalize eh (T*(e*e)) D=x at es dq hF en;generalize kh (T*(e*e)) D=ok at es hF en;have co:=h_ hF;clear hF HF;go_upto_region 18 with fail
     refine bw [] (λ_=>false) (λ_=>True) (λ_=>True) k_ (trivial) ?_;refine aE ⟨wr.drew,(ai.refl _ _).drew,trivial⟩ [ae,ae,ae,ae,ac,ae] 7 ao aB ?_;refine aD 4 ?_;refine bN (some 112) (λu=>λw'=>br (T*(e*e)) u w') (λu=>λ_ _ h hb=>h.below hb) (λw' hO hD=>(fz.out w' hO.below).mono λe w2 ⟨v,h1,h2,h3⟩=>⟨v,h1,.of_below h3,h2.rd⟩) (λu hne=>?_);refine ap ?_;refine aD 6 ?_;refine mf (v:=.tuple #[x,ok]) (some 114) (λ_=>True) r_ r_ r_ (λ_=>by go_simp) ao (λw' hO hD=>(es.out w' u hO.below hD).mono λe w2 h=>⟨h.1,.of_below h.2,trivial⟩) (λhne=>?_);refine ap ?_;refine aE hne (bk 7 5) 0 ao aB ?_;refine dn λWz a7 aX=>?_
     try dsimp only
     have aM:=ag a7.below ba.size ba;clear y0 y1 z0 z1 fz es a7 aX;cases ok
     .have HN:Hid (cw (gr A B X1 Y1 E1 n m T D g (e+1))=cz):=(by have h:=co.out;rw[Vm (λh9=>Bool.noConfusion h9.1)] at h;exact h)
      clear co;go_wp2;go_roundw
      case rel=>exact⟨e+1,g,by go_num,o_,o_,HN,aM⟩
      case measure=>exact aJ
     .obtain⟨hm,hn⟩:=en.out rfl;clear en;have e8:=h_ (ow x e o_ o_);generalize au x e=gx at e8 co;go_wp2_with fail
      refine (e8.out _).mono ?_;rintro e' _ ⟨rfl,kk,rfl⟩;have U:=BE Wz kk;generalize Wz.drewN kk=wg at U ⊢;have dd:=ag U aM.size aM;clear e8;by_cases cM:gx=1
      .have dc:=h_ (tu A B x e hA hB dq o_);have a9:=lV hA hB dq (show 1<=e/\e<=20 by omega);generalize cvV A B x e=q at dc co a9;have bY:=h_ (xb q a9);have db:=nN a9;generalize cl q=sb at bY co;generalize aq q=rt at bY co db;have jC:=kC.next dd
       have⟨c0,c1⟩:=jC.q2;go_wp2_with fail
       refine (dc.out _).mono ?_;rintro e' w3 ⟨rfl,aF⟩;have aZ:=ag aF dd.size dd;clear dc c0 c1;go_wp2_with fail
       refine (bY.out _).mono ?_;rintro e' _ ⟨rfl,rfl⟩;clear bY;cases sb
       .have HN:Hid (cw (gr A B X1 Y1 E1 n m T D g (e+1))=cz):=(by have h:=co.out;rw[Vm (λh9=>Bool.noConfusion h9.2.2)] at h;exact h)
        clear co;go_wp2;go_roundw
        case rel=>exact⟨e+1,g,by go_num,o_,o_,HN,aZ⟩
        case measure=>exact aJ
       .have hF:=co.out;rw[Vo (by simp [cM])] at hF;simp only[cw] at hF;have jP:=kP.next aZ
        have⟨p0,p1,p2⟩:=jP.q3;obtain⟨b1,b2,_,_⟩:=fH 10000 (x:=X1) (e:=e) o_ o_;obtain⟨b3,b4,_,_⟩:=fH 10000 (x:=x) (e:=E1) o_ o_;have b5:=aN (x:=n) (y:=X1*e*e - x*E1*E1) 2000000000 8000000 o_ o_;have b6:=aN (x:=n*(X1*e*e - x*E1*E1)) (y:=E1) 16000000000000000 20 o_ o_;have b7:=aN (x:=Y1) (y:=m) 3000000 8000 o_ o_;obtain⟨b8,b9,_,_⟩:=fH 24000000000 (x:=Y1*m) (e:=e) o_ o_;clear co;obtain⟨c1,d1⟩:∃b,decide (n*(X1*e*e - x*E1*E1)*E1 - Y1*m*e*e<0)=b:=⟨_,rfl⟩
        obtain⟨c2,d2⟩:∃b,decide (m<0)=b:=⟨_,rfl⟩
        rw[d1,d2] at hF;cases c1<;>cases c2
        .exact Ld
        .exact Lw
        .exact Lw
        .exact Ld
      .have HN:Hid (cw (gr A B X1 Y1 E1 n m T D g (e+1))=cz):=(by have h:=co.out;rw[Vm (λh9=>cM h9.2.1)] at h;exact h)
       clear co;go_wp2;go_roundw
       case rel=>exact⟨e+1,g,by go_num,o_,o_,HN,dd⟩
       case measure=>exact aJ
    .obtain rfl:f=0:=o_
     have aa:=HF.out;unfold gr cw at aa;subst aa;clear HF;go_upto_region 26 with fail
     have jR:=V.next ba
     have⟨z0,z1,z2⟩:=jR.f3;have⟨t0,t1,t2⟩:=jR.q3;have k9:=((jR.set 0 ()).set 1 ()).set 2 ();have ad:af rC w (((wr.setCell ⟨rR,0,none⟩ ()).setCell ⟨rR,1,none⟩ ()).setCell ⟨rR,2,none⟩ ()):=(((ag ba o_ F).setCell u_ _).setCell u_ _).setCell u_ _
     (repeat (first|go_skip|go_guarded|go_step))
     generalize (setCell (setCell (setCell _ _ _) _ _) _ _)=w9 at k9 ad ⊢;clear t0 t1 t2 z0 z1 z2;have⟨q0,q1,q2⟩:=k9.q3;refine Vk (v:=.tuple #[.agg #[(),(),()],false]) wy rfl ?_;exact⟨rfl,bv▸ad⟩
def Vh{K:List Int}(h:Hid (∀k,k<=K.length->(dg (pr (K.take k)).natAbs).length<=40000))(k)(hk:k<=K.length):(dg (pr (K.take k)).natAbs).length<=40000:=h.out k hk
def MS(K)(v)(bq:K.length<=1000)(hN:∀i (h:i<K.length),(dg K[i].natAbs).length<=40000)(hP:∀k,k<=K.length->(dg (pr (K.take k)).natAbs).length<=40000)(w)(hv:jF w v K):
 Kp 338 #[v] w (dP (pr K) w):=by
 have HN:=h_ hN;have HP:=h_ hP;have HV:=h_ hv;obtain⟨a,F,rfl,hc⟩:=hv;have HC:=h_ hc;go_enter func338,ntmps338;have⟨kS,J⟩:=ay w #[false,.slice none 0 0] 182;have a6:(w.alloc (.cells #[false,.slice none 0 0] 182)).heap.size=w.heap.size+1:=s_;go_upto_region 1 with fail
 generalize w.alloc _=W0 at *;go_wp2_with fail
 refine (fF 1 o_ W0).mono ?_;rintro e w1 ⟨v,rfl,ba,I⟩;obtain⟨lv,rfl,ax⟩:=ba;obtain⟨s1,c1,rfl,_⟩:=id ax.1;have a7:=I.size;have ac:Hid (w.heap.size+1<=w1.heap.size):=by show _<=_;omega
 have aZ:=(kS.next I).alloc (.cells #[false,.slice s1 (dg 1).length c1] 182);have⟨kC,a2⟩:=ay w1 #[false,.slice s1 (dg 1).length c1] 182;have U:af w w (w1.alloc (.cells #[false,.slice s1 (dg 1).length c1] 182)):=(ag I o_ J).alloc o_ _;have b3:Hid (aW (w1.alloc (.cells #[false,.slice s1 (dg 1).length c1] 182)) (w.heap.size+1) (.slice s1 (dg 1).length c1) (dg 1)):=⟨ax.1.below a2,λhn=>((ax.2 hn).below a2).le o_⟩
 go_upto_region 3 with fail
 generalize w1.alloc _=W,a1:w1.heap.size=G at *;go_loopw [9] (λiv wr=>∃(k:Nat) (V:Int) (sl:ck) (H:Nat),k<=K.length/\iv=.int .i64 k/\Hid (V=pr (K.take k))/\ah w #[false,.slice none 0 0] 182 wr/\ah G #[decide (V<0),.slice sl (dg V.natAbs).length H] 182 wr/\Hid (aW wr (w.heap.size+1) (.slice sl (dg V.natAbs).length H) (dg V.natAbs))/\af w w wr) (λiv _=>K.length - (intOf iv).toNat)
 case atStart=>exact⟨0,1,s1,c1,o_,rfl,rfl,aZ,kC,b3,U⟩
 case round=>
  obtain⟨k,V,sl,H,hk,rfl,hV,kS,kC,hR,hb⟩:=hrel;have bv:=kC.lt;by_cases aG:k<K.length
  .obtain⟨g,o,lv,rfl,q0,q1,hr,hg⟩:=HC.out k aG;have aM:=Vh HP k hk;have Z:=HN.out k aG;have bX:Hid (V*K[k]=pr (K.take (k+1))):=by
    show _=_;rw[VF aG,EX,<-hV.out]
   rw[<-hV.out] at aM;generalize K[k]=y at q0 q1 hr Z bX;have d0:=(hb.cell (p:=⟨g,o+k*2,none⟩) hg).trans q0;have d1:=(hb.cell (p:=⟨g,o+k*2+1,none⟩) hg).trans q1;obtain⟨s2,c2,rfl,_⟩:=id hr;have bo:=h_ hr;generalize cF:decide (y<0)=sy at d0;have a8:=h_ cF;go_upto_region 5 with fail
   have kE:=ah.new wr #[sy,.slice s2 (dg y.natAbs).length c2] 182;have a3:=kC.alloc (.cells #[sy,.slice s2 (dg y.natAbs).length c2] 182);have aZ:=kS.alloc (.cells #[sy,.slice s2 (dg y.natAbs).length c2] 182);have a2:af wr wr (wr.alloc (.cells #[sy,.slice s2 (dg y.natAbs).length c2] 182)):=(Vn _ _).alloc (Vj _) _;have I:af w w (wr.alloc (.cells #[sy,.slice s2 (dg y.natAbs).length c2] 182)):=hb.alloc hb.size _;have a5:=h_ (hR.out.1.below a2);have bx:=h_ (bo.out.below I);have bs:wr.heap.size<(wr.alloc (.cells #[sy,.slice s2 (dg y.natAbs).length c2] 182)).heap.size:=s_;generalize wr.alloc _=W5 at *;have⟨e0,e1⟩:=kE.q2;have⟨x0,x1⟩:=a3.q2;go_wp2_with fail
   refine (jo V y _ _ aM Z W5 ⟨_,rfl,a5.out⟩ ⟨_,by rw[a8.out],bx.out⟩).mono ?_;rintro e w1 ⟨v,rfl,ba,U⟩;obtain⟨lv,rfl,az⟩:=ba;obtain⟨s9,c9,rfl,_⟩:=id az.1;have aL:=a3.next U
   have a4:=aZ.next U
   have⟨x0,x1⟩:=aL.q2;have⟨z0,z1⟩:=aL.f2;have aF:=ag U I.size I;have k9:=(aL.set 0 (decide (V*y<0))).set 1 (.slice s9 (dg (V*y).natAbs).length c9);have bb:=ac.out;have aa:G≠w.heap.size:=o_;have ab:w.heap.size<=G:=o_;have aX:=(a4.other (p:=G) aa (decide (V*y<0))).other (p:=⟨G,1,none⟩) aa (.slice s9 (dg (V*y).natAbs).length c9);have ad:af w w ((w1.setCell G (decide (V*y<0))).setCell ⟨G,1,none⟩ (.slice s9 (dg (V*y).natAbs).length c9)):=(aF.setCell ab _).setCell ab _;have bi:=h_ ((az.set2 (S:=G) o_ (decide (V*y<0)) (.slice s9 (dg (V*y).natAbs).length c9)).le (base':=w.heap.size+1) o_);go_wp2;go_roundw
   case rel=>exact⟨k+1,V*y,s9,c9,o_,by go_num,bX,aX,k9,bi,ad⟩
   case measure=>exact aJ
  .obtain rfl:k=K.length:=o_
   have ae:=hV.out;rw[Wa] at ae;have⟨c0,c1⟩:=kC.q2;have⟨s0,s1⟩:=kS.q2;have⟨z0,z1⟩:=kS.f2;have a9:=h_ ae;have k9:=(kS.set 0 (decide (V<0))).set 1 (.slice sl (dg V.natAbs).length H);have ad:af w w ((wr.setCell w (decide (V<0))).setCell ⟨w,1,none⟩ (.slice sl (dg V.natAbs).length H)):=(hb.setCell (Vj _) _).setCell (Vj _) _;have bp:=(hR.out.set2 (S:=w.heap.size) o_ (decide (V<0)) (.slice sl (dg V.natAbs).length H)).le (base':=w.heap.size) o_;clear hR ae hV;go_wp2;generalize (setCell (setCell _ _ _) _ _)=w9 at ad k9 bp ⊢;have⟨q0,q1⟩:=k9.q2;refine Vk (v:=.agg #[decide (V<0),.slice sl (dg V.natAbs).length H]) (by simp [results,results338,go_sem,q0,q1]) rfl ?_;rw[<-a9.out];exact uX
def Aa(h:P:=by rw[VX];exact a1.out):=h
def Kh(h:P:=by
 go_roundw
 case rel=>exact⟨g,D,o_,by rw[<-HN.out],a1,Z,U⟩
 case measure=>exact aJ):=h
def JH(h:P:=by
 exact Kh):=h
def GO(h:P:=by
 exact⟨u3,rfl,Z.le (by rw[F.out];omega),F.out▸(J.trans (V.mono o_))⟩):=h
def nW(w:World)(L:List (Int×Int×Int))(e:Ending)(w':World):Prop:=∃v,e=.returned v/\bI w' w v L/\af w w w'
def Uw{y:Int}(hy:y≠0):y*y≠0:=λh=>by rcases WQ.1 h with h|h<;>exact hy h
def Nw(A B:Int)(hA:bh A)(hB:a_ B)(w):
 Kp 256 #[.agg #[A,B]] w (nW w (fw A B)):=by
 have aM:=pv A B;have⟨g1,g2,g3⟩:=lI hA hB;have bi:-7000000000<=aP A B/\aP A B<=7000000000:=by unfold aP;omega
 have⟨kC,J⟩:=ay w #[A,B] 42;have ad:Hid (ik A B 6001 (-3000)=fw A B):=rfl;have H:Hid ((fw A B).length<=12002):=aM 6001 (-3000);generalize fw A B=L at ad H ⊢;go_enter func256,ntmps256;go_upto_region 1 with fail
 generalize w.alloc _=W,bv:w.heap.size=rC at *;have F:Hid (w.heap.size=rC):=bv;have a6:=kC.lt;go_wp2;go_loopw [3,4] (λv x wr=>∃(f:Nat) (D:List (Int×Int×Int)),f<=6001/\x=.int .i64 (3001 - (f:Int))/\Hid (D++ik A B f (3001 - (f:Int))=L)/\bI wr (rC+1) v D/\af (rC+1) W wr) (λ_ x _=>(3001 - intOf x).toNat)
 case atStart=>exact⟨6001,[],o_,by go_num,h_ (by rw[WP];exact ad.out),bI.nil _ _,Vn _ _⟩
 case round=>
  obtain⟨f,D,hf,rfl,HD,Z,V⟩:=hrel;have aZ:=V.size;have jC:ah rC #[A,B] 42 wr:=(V.block rC (Nat.lt_succ_self _)).trans kC;by_cases cm:1<=f
  .obtain⟨g,rfl⟩:∃g,f=g+1:=⟨f - 1,o_⟩
   have hx:-10000<=3001 - ((g+1:Nat):Int)/\3001 - ((g+1:Nat):Int)<=10000:=o_;have b3:(3001 - ((g+1:Nat):Int))+1=3001 - (g:Int):=o_;have a2:3001 - ((g+1:Nat):Int)<=3000:=o_;have hD:=by have h:=HD.out;unfold ik at h;rw[b3] at h;exact h
   have a8:D.length<1000000000000:=by
    have h1:=H.out;rw[<-hD,VI] at h1;omega
   have a1:=h_ hD;have HN:=h_ b3;generalize 3001 - ((g+1:Nat):Int)=x at *;have dc:=h_ (tu A B x 1 hA hB hx o_);have a9:=lV hA hB hx (e:=1) o_;have bY:=h_ (xb (cvV A B x 1) a9);have db:=nN a9;have G:Hid (lY A B x=if cl (cvV A B x 1)=true then (if aq (cvV A B x 1)=0 then [(x,0,1)] else if (aP A B).tmod (aq (cvV A B x 1)*aq (cvV A B x 1))=0 then [(x,-aq (cvV A B x 1),1),(x,aq (cvV A B x 1),1)] else []) else []):=rfl;generalize lY A B x=la at G a1;generalize cvV A B x 1=q at dc bY a9 db G;generalize cl q=sb at bY G;generalize aq q=rt at bY db G;have⟨a7,aL,aG⟩:=jC.p2;go_wp2_with fail
   refine aj (dc.out _) λw1 I=>?_;go_wp2_with fail
   refine (bY.out _).mono ?_;rintro e _ ⟨rfl,rfl⟩;have U:=V.trans (I.mono o_);replace Z:=Z.below I;replace jC:=jC.next I
   have ba:=U.size;cases sb
   .have ax:la=[]:=G.out;subst ax;go_wp2;exact JH
   .by_cases bz:rt=0
    .subst bz;have ax:la=[(x,0,1)]:=G.out;subst ax;go_wp2_with (at_builtin;refine xd (p:=(x,0,1)) rfl _ _ rfl (rC+1) _ _ rfl Z rfl a8 o_ ?_;intro v' w4 bb K b0 _)
     have ae:=U.trans K;go_wp2;go_roundw
     case rel=>exact⟨g,D++[(x,0,1)],o_,by rw[<-HN.out],h_ Aa,bb,ae⟩
     case measure=>exact aJ
    .rw[Vo rfl,Vm bz] at G;have b4:(rt==0)=false:=by simpa using bz
     have bp:=Uw bz;have mm:=aN (x:=rt) (y:=rt) 2000001 2000001 o_ o_;have⟨a7,aL,aG⟩:=jC.p2;go_wp2_with fail
     refine aj ((h_ (oo A B hA hB)).out _) λw3 aF=>?_;have ab:=U.trans (aF.mono o_);replace Z:=Z.below aF;generalize aP A B=dd at bi G ⊢;by_cases hm:dd.tmod (rt*rt)=0
     .have ax:=by have h:=G.out;rw[Vo hm] at h;exact h
      subst ax;go_wp2_with (at_builtin;refine NG (p:=(x,-rt,1)) (q:=(x,rt,1)) rfl _ _ rfl (rC+1) _ _ rfl Z rfl a8 (by have:=ab.size;omega) ?_;intro v' w4 bb K b0 _)
      have ae:=ab.trans K;go_wp2;go_roundw
      case rel=>exact⟨g,D++[(x,-rt,1),(x,rt,1)],o_,by rw[<-HN.out],h_ Aa,bb,ae⟩
      case measure=>exact aJ
     .have ax:=by have h:=G.out;rw[Vm hm] at h;exact h
      subst ax;have cy:(dd.tmod (rt*rt)==0)=false:=by simpa using hm
      go_wp2;go_roundw
      case rel=>exact⟨g,D,o_,by rw[<-HN.out],a1,Z,ab⟩
      case measure=>exact aJ
  .obtain rfl:f=0:=o_
   have hD:=HD.out;unfold ik at hD;rw[V5] at hD;subst hD;go_wp2;exact Vk (v:=u3) (by simp [results,results256,go_sem]) rfl GO
abbrev P3:=Int×Int×Int
noncomputable def cD(A B:Int)(p:P3):Nat->P3->Option P3
 |0,now=>some now
 |k+1,now=>match er A B now p with
  |none=>none
  |some r=>cD A B p k r
theorem qX(A B)(p:P3):∀(k) (now:P3),cD A B p (k+1) now=(cD A B p k now).bind λr=>er A B r p
 |0,now=>by
  simp only[cD,Option.bind];cases er A B now p<;>rfl
 |k+1,now=>by
  rw[cD];cases h:er A B now p with
  |none=>simp only[cD,h];rfl
  |some r=>
   simp only;rw[qX A B p k r];simp only[cD,h]
def Mo(p:P3):P3:=(p.1,-p.2.1,p.2.2)
noncomputable def gK(A B:Int)(p:P3)(n:Int):Option P3:=if n<0 then cD A B (Mo p) n.natAbs (0,0,0) else cD A B p n.natAbs (0,0,0)
def cf(A B:Int)(p:P3):Prop:=jI A B p.1 p.2.1 p.2.2
def cf.zero(A B):cf A B (0,0,0):=.inl ⟨rfl,rfl,rfl⟩
def cf.neg{A B}{p:P3}(h:cf A B p):cf A B (Mo p):=by
 rcases h with ⟨h1,h2,h3⟩|⟨h1,h2,h3,h4,h5⟩
 .exact .inl ⟨h1,by show -p.2.1=0;omega,h3⟩
 .exact .inr ⟨h1,h2,h3,by show _<=-p.2.1/\-p.2.1<=_;omega,by show -p.2.1*-p.2.1=_;rw[V8];exact h5⟩
def cf.bd{A B}{p:P3}(h:cf A B p):(-10000<=p.1/\p.1<=10000)/\(-3000000<=p.2.1/\p.2.1<=3000000)/\(0<=p.2.2/\p.2.2<=20):=by
 rcases h with ⟨h1,h2,h3⟩|⟨h1,h2,_,h4,_⟩<;>omega
def Fw{A B}{p q r:P3}(hA:bh A)(hB:a_ B)(G:cf A B p)(hq:cf A B q)(h:er A B p q=some r):cf A B r:=Fx hA hB G hq h
theorem py{A B}{p:P3}(hA:bh A)(hB:a_ B)(G:cf A B p):∀(k) (now r:P3),cf A B now->cD A B p k now=some r->cf A B r
 |0,now,r,hn,h=>by rw[cD] at h;cases h;exact hn
 |k+1,now,r,hn,h=>by
  rw[cD] at h;cases ha:er A B now p with
  |none=>rw[ha] at h;cases h
  |some q=>
   rw[ha] at h;exact py hA hB G k q r (Fw hA hB hn G ha) h
def TL{A B n}{p r:P3}(hA:bh A)(hB:a_ B)(G:cf A B p)(h:gK A B p n=some r):cf A B r:=by
 unfold gK at h;split at h
 .exact py hA hB G.neg _ _ _ (.zero A B) h
 .exact py hA hB G _ _ _ (.zero A B) h
noncomputable def l_(A B:Int)(p:P3):Nat->Nat->Option Int
 |0,_=>none
 |f+1,n=>match cD A B p n (0,0,0) with
  |none=>none
  |some r=>if r.2.2=0 then some n else l_ A B p f (n+1)
theorem Eg{A B}{p:P3}:∀(f n) (now:P3),cD A B p n (0,0,0)=some now->l_ A B p f (n+1)=jb A B p f ((n+1:Nat):Int) now
 |0,n,now,h=>by unfold l_ jb;rfl
 |f+1,n,now,h=>by
  have hs:=qX A B p n (0,0,0);rw[h] at hs;have ad:cD A B p (n+1) (0,0,0)=er A B now p:=hs;unfold l_ jb;rw[ad];cases ha:er A B now p with
  |none=>rfl
  |some r=>
   simp only;split
   .rfl
   .have:=Eg (A:=A) (B:=B) (p:=p) f (n+1) r (by rw[ad,ha]);rw[this];push_cast;rfl
def SS(A B)(p:P3):l_ A B p 12 1=cg A B p:=by
 have:=Eg (A:=A) (B:=B) (p:=p) 12 0 (0,0,0) (by rw[cD]);exact this
noncomputable def Bi(A:Int)(p q:P3):Option P3:=if p.2.2=0 then some q else if q.2.2=0 then some p else oO A p.1 p.2.1 p.2.2 q.1 q.2.1 q.2.2
def Tc{A B}{p q:P3}(hA:bh A)(hB:a_ B)(G:cf A B p)(hq:cf A B q):Bi A p q=er A B p q:=by
 unfold Bi er;split
 .rfl
 .split
  .rfl
  .rename_i h1 h2;have fp:=G.resolve_left λh=>h1 h.2.2;have fq:=hq.resolve_left λh=>h2 h.2.2;split
   .rename_i h;have⟨e1,e2,e3⟩:=h;have hz:slD p.1 p.2.1 p.2.2 q.1 q.2.1 q.2.2=0:=by
     unfold slD;split
     .rename_i h;have:p.2.1=0:=o_
      rw[this];simp
     .rw[e1,e3,Int.sub_self,Ya]
    unfold oO;rw[Vo hz]
   .rename_i h;exact SC hA hB fp fq h
def Ag(h:P:=by simp [results,results141,go_sem]):=h
def I9(h:P:=by simp [results,results138,go_sem]):=h
def zh(A B X1 Y1 E1 X2 Y2 E2)(hA:bh A)(hB:a_ B)(G:jI A B X1 Y1 E1)(hq:jI A B X2 Y2 E2)(w):
 Rv 138 #[.agg #[A,B],.agg #[X1,Y1,E1],.agg #[X2,Y2,E2]] w (cw (er A B (X1,Y1,E1) (X2,Y2,E2))):=by
 unfold er;simp only;by_cases h1:E1=0
 .rw[Vo h1];subst h1;go_enter func138,ntmps138;go_wp2;refine Vk (v:=.tuple #[.agg #[X2,Y2,E2],true]) I9 rfl ⟨rfl,?_⟩;exact z_
 .rw[Vm h1];by_cases h2:E2=0
  .rw[Vo h2];subst h2;go_enter func138,ntmps138;go_wp2;refine Vk (v:=.tuple #[.agg #[X1,Y1,E1],true]) I9 rfl ⟨rfl,?_⟩;exact z_
  .rw[Vm h2];have fp:=G.resolve_left λh=>h1 h.2.2;have fq:=hq.resolve_left λh=>h2 h.2.2;by_cases h3:X1=X2/\Y1=-Y2/\E1=E2
   .rw[Vo h3];obtain⟨rfl,rfl,rfl⟩:=h3;have eB:=h_ (tD X1 Y2 E1 fq.2.2.2.1);clear G hq fp fq;obtain⟨-,kP,kQ,V,J⟩:=Bb w #[A,B] 42 #[X1,(-Y2:Int),E1] 46 #[X1,Y2,E1] 46 #[(),(),()] 46;have a6:=J.size;go_enter func138,ntmps138;go_upto_region 1 with fail
    generalize (((w.alloc _).alloc _).alloc _).alloc _=W at *;have e4:w.heap.size<=w.heap.size+1+1+1:=o_;generalize w.heap.size+1+1+1=rR at *;generalize w.heap.size+1+1=rQ at *;generalize w.heap.size+1=rP at *;generalize bv:w.heap.size=rC at *;have F:Hid (w.heap.size=rC):=bv;have lP:=kP.lt;have lQ:=kQ.lt;have⟨p0,p1,p2⟩:=kP.q3;have⟨q0,q1,q2⟩:=kQ.q3;go_upto_region 5 with fail
    (refine bR k_ k_ ?_;(repeat (go_big_quiet_step ((go_at_call 137;exact Calls.quiet_cls ao _ (eB.out _)))));refine wpQuiet_nil ?_;intro w8 ca)
    have jR:=V.next ca
    have⟨z0,z1,z2⟩:=jR.f3;have⟨t0,t1,t2⟩:=jR.q3;have k9:=((jR.set 0 ()).set 1 ()).set 2 ();have ad:af rC w (((w8.setCell rR ()).setCell ⟨rR,1,none⟩ ()).setCell ⟨rR,2,none⟩ ()):=(((ag ca a6 J).setCell u_ _).setCell u_ _).setCell u_ _;go_wp2;generalize (setCell (setCell (setCell _ _ _) _ _) _ _)=w9 at k9 ad ⊢;have⟨q0,q1,q2⟩:=k9.q3;exact Vk (v:=.tuple #[.agg #[(),(),()],true]) wy rfl ⟨rfl,F.out▸ad⟩
   .rw[Vm h3];exact Sl A B X1 Y1 E1 X2 Y2 E2 hA hB fp fq h3 w
def wY(A B X Y E)(hA:bh A)(hB:a_ B)(G:jI A B X Y E)(w):
 Rv 141 #[.agg #[A,B],.agg #[X,Y,E]] w (iG (cg A B (X,Y,E))):=by
 have HAdd:=h_ (λ(X1 Y1 E1:Int) (h:jI A B X1 Y1 E1) (W:World)=>zh A B X1 Y1 E1 X Y E hA hB h G W);have Z:=h_ (λ(p r:Int×Int×Int) (h:jI A B p.1 p.2.1 p.2.2) (hr:er A B p (X,Y,E)=some r)=>Fx hA hB h G hr);have⟨kC,kP,kN,J⟩:=fv w #[A,B] 42 #[X,Y,E] 46 #[(),(),()] 46;generalize aa:iG (cg A B (X,Y,E))=cz;have cb:Hid (iG (jb A B (X,Y,E) 12 1 (0,0,0))=cz):=h_ aa;go_enter func141,ntmps141;go_upto_region 2 with fail
 generalize ((w.alloc _).alloc _).alloc _=W at *;have e4:w.heap.size<=w.heap.size+1+1:=o_;have ad:w.heap.size+1<w.heap.size+1+1:=o_;have aF:w.heap.size<w.heap.size+1+1:=o_;generalize w.heap.size+1+1=rN at *;generalize w.heap.size+1=rP,bv:w.heap.size=rC at *;have F:Hid (w.heap.size=rC):=bv;clear bv;have a6:=kN.lt;go_wp2;go_loopw [7] (λx wr=>∃(n:Int) (f:Nat) (x1 y1 e1:Int),x=.int .i64 n/\(1<=n/\n<=13)/\n+f=13/\jI A B x1 y1 e1/\Hid (iG (jb A B (X,Y,E) f n (x1,y1,e1))=cz)/\ah rN #[x1,y1,e1] 46 wr/\ai [rN] W wr) (λx _=>(13 - intOf x).toNat)
 case atStart=>exact⟨1,12,0,0,0,rfl,o_,o_,.inl ⟨rfl,rfl,rfl⟩,cb,kN,ai.refl _ _⟩
 case round=>
  obtain⟨n,f,x1,y1,e1,rfl,hn,hf,hv,HF,H,hO⟩:=hrel;have a8:=hO.belowGe J o_ u_;by_cases cm:n<=12
  .obtain⟨g,rfl⟩:∃g,f=g+1:=⟨f - 1,o_⟩
   have jC:=kC.over hO u_;have jP:=kP.over hO u_;have⟨a7,aL,aG⟩:=jC.p2;have⟨b5,b2,b4,b8⟩:=jP.p3;have⟨U,ab,V,ae⟩:=H.p3;have hF:=HF.out;unfold jb at hF;go_wp2_with fail
   refine aj (HAdd.out x1 y1 e1 hv _) λw1 I=>?_;have bi:=hO.next I
   replace H:=H.next I
   have K:=bi.belowGe J o_ u_;cases ha:er A B (x1,y1,e1) (X,Y,E) with
   |none=>
    rw[ha] at hF;simp at hF;subst hF;simp only[cw];go_wp2;refine Vk (v:=.tuple #[(),false]) Ag rfl ⟨rfl,?_⟩;rw[F.out];refine (K.alloc ?_ _);have:=bi.size;omega
   |some r=>
    have hr:=Z.out (x1,y1,e1) r hv ha;rw[ha] at hF;have⟨x2,y2,e2⟩:=r;simp only at hF hr;simp only[cw];have kX:=ah.new w1 #[x2,y2,e2] 46;replace H:=H.alloc (.cells #[x2,y2,e2] 46);have bx:=bi.alloc (.cells #[x2,y2,e2] 46);have ac:=K.alloc (show rC<=w1.heap.size by have:=bi.size;omega) (.cells #[x2,y2,e2] 46);go_upto_region 6 with fail
    generalize w1.alloc _=W2 at *;have hne:rN≠w1.heap.size:=by have:=bi.size;omega
    generalize w1.heap.size=rX at *;have b7:=kX.lt;have az:=H.lt;have⟨b1,bz,bp,a2⟩:=kX.p3;by_cases he:e2=0
    .rw[Vo he] at hF;simp only[iG] at hF;subst hF;go_wp2;refine Vk (v:=.tuple #[n,true]) Ag rfl ⟨rfl,?_⟩;rw[F.out];exact ac
    .rw[Vm he] at hF;have co:Hid (iG (jb A B (X,Y,E) g (n+1) (x2,y2,e2))=cz):=hF;have⟨U,ab,V⟩:=H.q3;have⟨z0,z1,z2⟩:=H.f3;have ax:ai [rN] W (((W2.setCell rN x2).setCell ⟨rN,1,none⟩ y2).setCell ⟨rN,2,none⟩ e2):=((bx.setCell (.inr s_) _).setCell (.inr s_) _).setCell (.inr s_) _;go_wp2;go_roundw
     case rel=>exact⟨n+1,g,x2,y2,e2,by go_num,o_,o_,hr,co,(((H.set 0 x2).set 1 y2).set 2 e2),ax⟩
     case measure=>exact aJ
  .obtain rfl:f=0:=o_
   have aa:=HF.out;unfold jb iG at aa;subst aa;go_wp2;refine Vk (v:=.tuple #[(),false]) Ag rfl ⟨rfl,?_⟩;rw[F.out];exact a8
def Gc(h:P:=by simp [results,results116,go_sem,q0,q1,q2]):=h
def Hy(h:P:=by simp [results,results77,go_sem]):=h
def Jx(h:P:=by
 go_wp2
 go_meet
 case rel=>exact⟨by congr 1;omega,c9,k9,r9,aZ⟩):=h
def Dp{A B}{p now:P3}{j}(h:cD A B p j now=none):∀{k},j<=k->cD A B p k now=none:=by
 intro k hk
 induction k with
 |zero=>rw[show j=0 by omega] at h;exact h
 |succ k g=>
  by_cases e:j=k+1
  .rw[<-e];exact h
  .rw[qX,g o_];rfl
def Sw(A B X1 Y1 X2 Y2 E2:Int)(w):
 Rv 77 #[.agg #[A,B],.agg #[X1,Y1,()],.agg #[X2,Y2,E2]] w (cw (some (X2,Y2,E2))):=by
 go_enter func77,ntmps77;go_wp2;refine Vk (v:=.tuple #[.agg #[X2,Y2,E2],true]) Hy rfl ⟨rfl,?_⟩;exact z_
def SF(A B X1 Y1 E1 X2 Y2:Int)(h:E1≠0)(w):
 Rv 77 #[.agg #[A,B],.agg #[X1,Y1,E1],.agg #[X2,Y2,()]] w (cw (some (X1,Y1,E1))):=by
 have hh:(E1==0)=false:=by simpa using h
 go_enter func77,ntmps77;go_wp2;refine Vk (v:=.tuple #[.agg #[X1,Y1,E1],true]) Hy rfl ⟨rfl,?_⟩;exact z_
def Ti(r:Option P3):kY r=cw r:=by
 cases r with
 |none=>rfl
 |some r=>rfl
def EU(A B)(p q:P3)(hA:bh A)(hB:a_ B)(G:cf A B p)(hq:cf A B q)(w):
 Rv 77 #[.agg #[A,B],.agg #[p.1,p.2.1,p.2.2],.agg #[q.1,q.2.1,q.2.2]] w (cw (er A B p q)):=by
 rw[<-Tc hA hB G hq];have⟨X1,Y1,E1⟩:=p;have⟨X2,Y2,E2⟩:=q;unfold Bi;by_cases h1:E1=0
 .subst h1;rw[Vo rfl];exact Sw A B X1 Y1 X2 Y2 E2 w
 .rw[Vm h1];by_cases h2:E2=0
  .subst h2;rw[Vo rfl];exact SF A B X1 Y1 E1 X2 Y2 h1 w
  .rw[Vm h2,<-Ti];have fp:eN A B X1 Y1 E1:=G.resolve_left λh=>h1 h.2.2;have fq:eN A B X2 Y2 E2:=hq.resolve_left λh=>h2 h.2.2;exact Qh A B X1 Y1 E1 X2 Y2 E2 hA fp.ptIn fq.ptIn fp.2.1.1 fq.2.1.1 w
def CR(A B X Y E n:Int)(hA:bh A)(hB:a_ B)(G:cf A B (X,Y,E))(hn:-12<=n/\n<=12)(w):
 Rv 116 #[.agg #[A,B],.agg #[X,Y,E],n] w (cw (gK A B (X,Y,E) n)):=by
 have hY:-3000000<=Y/\Y<=3000000:=G.bd.2.1;have HM:=h_ (CV X Y E hY);have cZ:(n<0/\(if n<0 then -Y else Y)=-Y)\/(0<=n/\(if n<0 then -Y else Y)=Y):=by split<;>omega
 have a2:cf A B (X,(if n<0 then -Y else Y),E):=by split;exact G.neg;exact G
 have hV:gK A B (X,Y,E) n=cD A B (X,(if n<0 then -Y else Y),E) n.natAbs (0,0,0):=by unfold gK;split<;>rfl
 rw[hV];generalize (if n<0 then -Y else Y)=Z at *;have H:=h_ (λ(x y e:Int) (h:cf A B (x,y,e)) (W:World)=>EU A B (x,y,e) (X,Z,E) hA hB h a2 W);have ae:=h_ (λ(k:Nat) (x y e:Int) (h:cD A B (X,Z,E) k (0,0,0)=some (x,y,e))=>py hA hB a2 k (0,0,0) (x,y,e) (.zero A B) h);have⟨kC,kP,V,J⟩:=fv w #[A,B] 42 #[X,Y,E] 46 #[(),(),()] 46;generalize aa:cw (cD A B (X,Z,E) n.natAbs (0,0,0))=cz;have cb:Hid (cw (cD A B (X,Z,E) n.natAbs (0,0,0))=cz):=h_ aa;clear aa G a2 hY;go_enter func116,ntmps116;go_upto_region 1 with fail
 generalize ((w.alloc _).alloc _).alloc _=W at *;have h1:w.heap.size<w.heap.size+1:=o_;have h2:w.heap.size+1<w.heap.size+1+1:=o_;generalize w.heap.size+1+1=rR at *;generalize w.heap.size+1=rP at *;generalize a9:w.heap.size=rC at *;have bv:Hid (w.heap.size=rC):=a9;have lR:=V.lt;have⟨a4,a3,a5⟩:=kC.p2;have⟨bY,bZ,bX⟩:=kP.q3;have⟨bb,ba,bo⟩:=kP.f3;have b0:=kP.lt
 go_upto_if 12 with (fail)
 go_cut [2] from 8 (λs wc=>s=.int .i64 (n.natAbs:Int)/\ah rC #[A,B] 42 wc/\ah rP #[X,Z,E] 46 wc/\ah rR #[(),(),()] 46 wc/\af rC w wc)
 case first=>
  rcases cZ with ⟨aX,rfl⟩|⟨aX,rfl⟩
  .go_wp2_with fail
   refine aj (HM.out _) λw1 I=>?_;replace kC:=kC.next I
   replace kP:=kP.next I
   replace V:=V.next I
   have U:=ag I (Vl o_ (Vq lR)) J;have⟨bY,bZ,bX⟩:=kP.q3;have⟨bb,ba,bo⟩:=kP.f3;have k9:=((kP.set 0 X).set 1 (-Y:Int)).set 2 E;have c9:=((kC.far (p:=rP) u_ X).far (p:=⟨rP,1,none⟩) u_ (-Y:Int)).far (p:=⟨rP,2,none⟩) u_ E;have r9:=((V.far (p:=rP) u_ X).far (p:=⟨rP,1,none⟩) u_ (-Y:Int)).far (p:=⟨rP,2,none⟩) u_ E;have aZ:af rC w (((w1.setCell rP X).setCell ⟨rP,1,none⟩ (-Y:Int)).setCell ⟨rP,2,none⟩ E):=((U.setCell u_ _).setCell u_ _).setCell u_ _;exact Jx
  .go_wp2
   go_meet
   case rel=>exact⟨by congr 1;omega,kC,kP,V,J⟩
 case rest=>
  obtain⟨rfl,jC,jP,jR,hb⟩:=hcut;have kO:=ah.new wc #[(),(),()] 46;have aG:=jP.lt;have az:=jC.lt;have cv:rC<=rR:=o_;replace jC:=jC.alloc (.cells #[(),(),()] 46);replace jP:=jP.alloc (.cells #[(),(),()] 46);have g:=jR.lt;replace jR:=jR.alloc (.cells #[(),(),()] 46);replace hb:=hb.alloc (show rC<=wc.heap.size by omega) (.cells #[(),(),()] 46);have hK:n.natAbs<=12:=o_;generalize n.natAbs=K at *;go_upto_region 5 with fail
  have a6:(wc.alloc (.cells #[(),(),()] 46)).heap.size=wc.heap.size+1:=s_;generalize wc.alloc _=W5,wc.heap.size=F at *;go_loopw [2] (λs wr=>∃(m:Nat) (x y e:Int),s=.int .i64 (m:Int)/\m<=K/\Hid (cD A B (X,Z,E) (K - m) (0,0,0)=some (x,y,e))/\ah F #[x,y,e] 46 wr/\ai [F] W5 wr) (λs _=>(intOf s).toNat)
  case atStart=>exact⟨K,0,0,0,rfl,Vj _,(by show _=_;rw[XB];rfl),kO,ai.refl _ _⟩
  case round=>
   obtain⟨m,x,y,e,rfl,hm,HT,mO,hO⟩:=hrel;have mC:=jC.over hO u_;have mP:=jP.over hO u_;have mR:=jR.over hO u_;have a8:=hO.belowGe hb o_ u_;have cB:=hO.size;by_cases co:0<m
   .obtain⟨m',rfl⟩:∃m',m=m'+1:=⟨m - 1,o_⟩
    have⟨aM,aL,a1⟩:=mC.p2;have⟨b3,bq,b5,cc⟩:=mP.p3;have⟨b9,b4,b2,ca⟩:=mO.p3;have a7:Hid (cD A B (X,Z,E) (K - m') (0,0,0)=er A B (x,y,e) (X,Z,E)):=by
     show _=_;rw[show K - m'=(K - (m'+1))+1 by omega,qX,HT.out];rfl
    have hq:=ae.out _ _ _ _ HT.out;have ac:=h_ (H.out x y e hq);have cA:=h_ HT.out;go_wp2_with fail
    refine (ac.out _).mono ?_;rintro e' w1 ⟨rfl,I⟩;cases hs:er A B (x,y,e) (X,Z,E) with
    |none=>
     have h:cw none=cz:=by
      rw[<-cb.out,Dp (by rw[a7.out,hs]) (show K - m'<=K by omega)]
     simp only[cw] at h;subst h;simp only[cw];have bs:=(mR.next I).alloc (.cells #[(),(),()] 46);have aF:=(ag I (show rC<=wr.heap.size by omega) a8).alloc (show rC<=w1.heap.size by have:=I.size;omega) (.cells #[(),(),()] 46);go_upto_region 9 with fail
     generalize w1.alloc _=W8 at *;have⟨z0,z1,z2⟩:=bs.f3;have⟨t0,t1,t2⟩:=bs.q3;have k9:=((bs.set 0 ()).set 1 ()).set 2 ();have ad:af rC w (((W8.setCell rR ()).setCell ⟨rR,1,none⟩ ()).setCell ⟨rR,2,none⟩ ()):=((aF.setCell u_ _).setCell u_ _).setCell u_ _
     (repeat (first|go_skip|go_guarded|go_step))
     generalize (setCell (setCell (setCell _ _ _) _ _) _ _)=w9 at k9 ad ⊢;have⟨q0,q1,q2⟩:=k9.q3;exact Vk (v:=.tuple #[.agg #[(),(),()],false]) Gc rfl ⟨rfl,bv.out▸ad⟩
    |some r=>
     have⟨x2,y2,e2⟩:=r;have HN:Hid (cD A B (X,Z,E) (K - m') (0,0,0)=some (x2,y2,e2)):=by show _=_;rw[a7.out,hs]
     simp only[cw];have bi:=hO.next I
     have kX:=ah.new w1 #[x2,y2,e2] 46;have nO:=(mO.next I).alloc (.cells #[x2,y2,e2] 46);have bx:=bi.alloc (.cells #[x2,y2,e2] 46);go_upto_region 10 with fail
     have ab:F≠w1.heap.size:=by have:=bi.size;omega
     generalize w1.alloc _=W8,w1.heap.size=rX at *;have⟨b1,bz,bp⟩:=kX.q3;have⟨cy,cu,cm⟩:=nO.q3;have⟨b6,b7,b8⟩:=nO.f3;have k9:=((nO.set 0 x2).set 1 y2).set 2 e2;have ax:ai [F] W5 (((W8.setCell F x2).setCell ⟨F,1,none⟩ y2).setCell ⟨F,2,none⟩ e2):=((bx.setCell (.inr s_) _).setCell (.inr s_) _).setCell (.inr s_) _;go_wp2;go_roundw
     case rel=>exact⟨m',x2,y2,e2,by go_num,o_,HN,k9,ax⟩
     case measure=>simp [intOf]
   .obtain rfl:m=0:=o_
    have h:=cb.out;rw[show cD A B (X,Z,E) K (0,0,0)=some (x,y,e) from HT.out] at h;simp only[cw] at h;subst h;have⟨b9,b4,b2⟩:=mO.q3;go_upto_region 11 with fail
    have⟨z0,z1,z2⟩:=mR.f3;have⟨t0,t1,t2⟩:=mR.q3;have k9:=((mR.set 0 x).set 1 y).set 2 e;have ad:af rC w (((wr.setCell rR x).setCell ⟨rR,1,none⟩ y).setCell ⟨rR,2,none⟩ e):=((a8.setCell u_ _).setCell u_ _).setCell u_ _
    (repeat (first|go_skip|go_guarded|go_step))
    generalize (setCell (setCell (setCell _ _ _) _ _) _ _)=w9 at k9 ad ⊢;have⟨q0,q1,q2⟩:=k9.q3;exact Vk (v:=.tuple #[.agg #[x,y,e],true]) Gc rfl ⟨rfl,bv.out▸ad⟩
noncomputable def mM(K:Int):Bool:=decide ((dg K.natAbs).length<=400)
def Mp(h:P:=by
 have b9:=h_ hl;obtain⟨a',aX,aa,hf⟩:=hl.form;obtain⟨g,b3,q1,q2,q3,bq,_⟩:=hf k aG;obtain⟨rfl,rfl⟩:la=a'/\b2=aX:=by simp only[Ym] at aa;exact⟨aa.1,aa.2.2⟩
 subst b3;have b7:=bs.out L[k] (VC aG);have az:=h_ (N8 (P:=λp=>(cg A B p).isSome) aG);have ae:((0,0,0)::(L.take k).filter λp=>(cg A B p).isSome).length<1000000000000:=by
  have h1:=Yv (λp=>(cg A B p).isSome) (L.take k);have h2:=H.out;rw[VM] at h1;simp only[VA];omega
 clear hf aa hl;generalize L[k]=p at q1 q2 q3 b7 az;obtain⟨x,y,e⟩:=p;simp only at q1 q2 q3 b7 az;generalize hM:(0,0,0)::(L.take k).filter (λp=>(cg A B p).isSome)=M at Z ae;have HM:=h_ hM;clear hM;have⟨aM,aL,a1⟩:=mC.p2;obtain⟨kX,U⟩:=ay wr #[x,y,e] 46;go_upto_region 5 with fail
 replace mC:=mC.next U
 replace Z:=Z.below U;have b5:=h_ (b9.out.below U);have ad:af rS w1 (wr.alloc (.cells #[x,y,e] 46)):=V.trans (U.mono o_);have ba:(wr.alloc (.cells #[x,y,e] 46)).heap.size=wr.heap.size+1:=s_;clear aM aL a1 q1 q2 q3 bq b9 U V;generalize wr.alloc _=W2 at *;generalize wr.heap.size=rX at *;have⟨aM,aL,a1⟩:=mC.p2;have⟨b1,bz,bp,a2⟩:=kX.p3;go_wp2_with fail
 refine (b4.out x y e (.inr b7) _).mono ?_;rintro e' w3 ⟨rfl,aF⟩;have ab:af rS w1 w3:=ad.trans (aF.mono o_);replace Z:=Z.below aF;have b6:=h_ (b5.out.below aF);replace kX:=kX.next aF
 have cc:=aF.size;clear aM aL a1 b1 bz bp a2 b5 mC ad;cases bi:cg A B (x,y,e) with
 |none=>
  have HT:Hid ((0,0,0)::(L.take (k+1)).filter (λp=>(cg A B p).isSome)=M):=h_ (by rw[az.out,bi,<-HM.out];simp);simp only[iG];clear az HM bi;go_wp2;go_roundw
  case rel=>exact⟨k+1,o_,by go_num,by rw[HT.out];exact Z,hv,b6.out,ab⟩
  case measure=>exact aJ
 |some n=>
  have HT:Hid ((0,0,0)::(L.take (k+1)).filter (λp=>(cg A B p).isSome)=M++[(x,y,e)]):=h_ (by rw[az.out,bi,<-HM.out];simp);simp only[iG];clear az HM bi;have⟨b1,bz,bp,a2⟩:=kX.p3;have bX:rS<=w3.heap.size:=o_;have H3:=h_ Z;have HV:=h_ hv;have H4:=h_ ae;clear Z hv ae;go_wp2_with (at_builtin;refine xd (p:=(x,y,e)) rfl _ _ rfl rS _ _ rfl H3.out rfl H4.out bX ?_;intro v' w4 bb K b0 bY)
  have b8:af rS w1 w4:=ab.trans K;have cm:=P9 (bY.imp id λ⟨j,h1,h2⟩=>⟨j,h1,show w1.heap.size<=j by omega⟩) HV.out;have cb:bI w4 W.heap.size (.slice (some ⟨g,0,none⟩) L.length b2) L:=by
   refine World.ownsRow.kept (b6.out.below ((Vn _ _).alloc (Vj _) _)) b0 ?_;refine .inr λe'=>?_;have h1:=bo.out g rfl;have h2:=HV.out g e'.symm;have h3:=a7.out;omega
  clear b0 bY;go_wp2;go_roundw
  case rel=>exact⟨k+1,o_,by go_num,by rw[HT.out];exact bb,cm,cb,b8⟩
  case measure=>exact aJ):=h
def F9(h:P:=by
 exact⟨u3,rfl,Z.le (by rw[F.out];omega),F.out▸(J.trans ((I.mono o_).trans (V.mono o_)))⟩):=h
def P9{v' v:Value}{n m}(h:v'.ownBlock=v.ownBlock\/∃k,v'.ownBlock=some k/\m<=k)(hv:∀k,v.ownBlock=some k->k=n\/m<=k):∀k,v'.ownBlock=some k->k=n\/m<=k:=λk hk=>by
 rcases h with h|⟨j,h,hj⟩
 .exact hv k (h▸hk)
 .rw[h] at hk;cases hk;exact .inr hj
def N8{L:List (Int×Int×Int)}{P:Int×Int×Int->Bool}{k}(h:k<L.length):(L.take (k+1)).filter P=(L.take k).filter P++(if P L[k] then [L[k]] else []):=by
 rw[VF h,List.filter_append];congr 1;simp only[List.filter_cons,List.filter_nil]
def MQ(A B:Int)(hA:bh A)(hB:a_ B)(w):
 Kp 200 #[.agg #[A,B]] w (nW w (dL A B)):=by
 have a8:=h_ (Nw A B hA hB);have b4:=h_ (λ(X Y E:Int) (h:jI A B X Y E) (W:World)=>wY A B X Y E hA hB h W);have bs:=h_ (λ(p:Int×Int×Int) (h:p∈fw A B)=>zj hA hB h);have H:Hid ((fw A B).length<=12002):=pv A B 6001 (-3000);have ax:Hid (dL A B=(0,0,0)::(fw A B).filter λp=>(cg A B p).isSome):=rfl;generalize dL A B=R at ax ⊢;generalize fw A B=L at ax H bs a8;obtain⟨kC,-,-⟩:=nw w #[A,B] 42 #[(),(),()] 46;have kS:=bI.built (w.alloc (.cells #[A,B] 42)) (0,0,0);obtain⟨-,-,J⟩:=nw w #[A,B] 42 #[(),(),()] 46;have a9:((w.alloc (.cells #[A,B] 42)).alloc (.cells #[(),(),()] 46)).heap.size=w.heap.size+1+1:=s_;simp at kS;go_enter func200,ntmps200;go_upto_region 2 with fail
 generalize (w.alloc _).alloc _=W,bZ:w.heap.size+1=rS at *;generalize bv:w.heap.size=rC at *;have F:Hid (w.heap.size=rC):=bv;have a7:Hid (W.heap.size=rS+1):=a9;have bx:rC<rS:=o_;have ca:rS<W.heap.size:=o_;have⟨a4,a3,a5⟩:=kC.p2;go_wp2_with fail
 refine (a8.out _).mono ?_;rintro e w1 ⟨vl,rfl,ol,I⟩;have ac:=I.size;obtain⟨la,b2,rfl,G⟩:=id ol.form;have bo:=h_ ol.lt;go_wp2;go_loopw [3,13] (λv x wr=>∃k:Nat,k<=L.length/\x=.int .i64 (k:Int)/\bI wr rS v ((0,0,0)::(L.take k).filter λp=>(cg A B p).isSome)/\(∀j,v.ownBlock=some j->j=rS\/w1.heap.size<=j)/\bI wr W (.slice la L.length b2) L/\af rS w1 wr) (λ_ x _=>L.length - (intOf x).toNat)
 case atStart=>exact⟨0,VH _,rfl,(kS.below I),λj hj=>.inl (by simpa[Value.ownBlock] using hj.symm),ol,Vn _ _⟩
 case round=>
  obtain⟨k,hk,rfl,Z,hv,hl,V⟩:=hrel;have aZ:=V.size;have a6:=H.out;have mC:ah rC #[A,B] 42 wr:=(V.block rC bx).trans (kC.next I);by_cases aG:k<L.length
  .exact Mp
  .obtain rfl:k=L.length:=o_
   rw[Wa,<-ax.out] at Z;go_wp2;exact Vk (v:=u3) (by simp [results,results200,go_sem]) rfl F9
def Gy(h:P:=by
 rintro e w1 ⟨rfl,rfl⟩;exact vJ):=h
def TV{n lo hi}(h:lo<=n/\n<=hi):aw n lo hi=true:=by simp [aw];omega
def SY(L)(lo hi:Int)(v)(hL:∀x∈L,lo<=x/\x<=hi)(hl:L.length<=100000)(w)(h:cd w v L):
 Rw 357 #[v,lo,hi] w true:=by
 obtain⟨a,F,rfl,_,hc⟩:=h;have HC:Hid (∀i,i<L.length->∃g o x,a=some ⟨g,o,none⟩/\w.cell? ⟨g,o+i,none⟩=some (.int .i64 x)/\aw x lo hi=true):=λi hi=>by
  have⟨g,o,h1,h2,_⟩:=hc i hi;refine⟨g,o,_,h1,h2,TV (hL _ ?_)⟩;rw[Vv hi];exact VC hi
 generalize L.length=n at *;go_enter func357,ntmps357;go_wp2;go_loopw [11] (λiv wr=>∃i:Nat,i<=n/\iv=.int .i64 i/\w=wr) (λiv _=>n - (intOf iv).toNat)
 case atStart=>exact⟨0,o_,rfl,rfl⟩
 case round=>
  obtain⟨i,aX,rfl,rfl⟩:=hrel;by_cases aG:i<n
  .obtain⟨g,o,x,rfl,q,hx⟩:=HC.out i aG;have HQ:Hid (Rw 104 #[x,lo,hi] w true):=(cK x lo hi w).mono λe w' h=>⟨h.1.trans (by rw[hx]),h.2⟩
   go_wp2_with fail
   refine HQ.out.mono ?_;rintro e w1 ⟨rfl,rfl⟩;go_wp2;go_roundw
   case rel=>exact⟨i+1,o_,by go_num,trivial⟩
   case measure=>exact aJ
  .obtain rfl:i=n:=o_
   exact qe
def DX(K)(a)(hl:(dg K.natAbs).length<=100000)(w)(ha:br K a w):
 Rv 350 #[a] w (.bool (mM K)):=by
 obtain⟨la,rfl,hr⟩:=ha;have hD:=ke K.natAbs;have⟨kA,J⟩:=ay w #[decide (K<0),la] 182;have bz:=hr.below J;have V:Hid (∀W,cd W la (dg K.natAbs)->Rw 357 #[la,(),(9999:Int)] W true):=λW hW=>SY _ 0 9999 la hD.1 hl W hW;have ba:=h_ bz;obtain⟨I,F,rfl,_,hc⟩:=bz;by_cases h4:(dg K.natAbs).length<=400
 .have aa:mM K=true:=by simp [mM,h4]
  rw[aa];have ab:((dg K.natAbs).length:Int)<=400:=o_;have h0:(dg K.natAbs)=[]\/(dg K.natAbs)≠[]:=by by_cases h:dg K.natAbs=[]<;>simp [h]
  rcases h0 with h0|h0
  .have a8:K=0:=by have:=uH.1 h0;omega
   subst a8;have cz:((dg (Int.natAbs 0)).length:Int)=0:=by rw[h0];rfl
   have cA:decide ((0:Int)<0)=false:=rfl;rw[cA] at J kA ba ⊢;have G:(dg (Int.natAbs 0)).length=0:=o_;rw[G] at V ba kA J ⊢;go_enter func350,ntmps350;go_upto_region 1 with fail
   generalize w.alloc _=W at *;have⟨a0,a1⟩:=kA.q2;go_wp2_with fail
   refine (V.out W (by rw[h0];exact ba.out|>λh=>by rw[h0] at h;exact h)).mono ?_;exact Gy
  .have H:∃g o x,I=some ⟨g,o,none⟩/\(w.alloc (.cells #[decide (K<0),.slice I (dg K.natAbs).length F] 182)).cell? ⟨g,o+((dg K.natAbs).length - 1),none⟩=some (.int .i64 x)/\0<x:=by
    have aG:=Wm.2 h0;have⟨g,o,h1,h2,_⟩:=hc ((dg K.natAbs).length - 1) o_;refine⟨g,o,_,h1,h2,?_⟩;rw[Vv o_];have hx:=hD.2.1 h0;rw[Yi] at hx;have:=hD.1 _ (VC (show (dg K.natAbs).length - 1<(dg K.natAbs).length by omega));simp;omega
   obtain⟨g,o,x,rfl,Z,hx⟩:=H;have aG:=Wm.2 h0;have U:(1:Int)<=((dg K.natAbs).length:Int):=o_;have ae:(0:Int)<((dg K.natAbs).length:Int):=o_;have hne:¬((dg K.natAbs).length:Int)=0:=o_;have a5:=h_ (V.out _ ba.out);generalize hN:(dg K.natAbs).length=N at *;obtain⟨j,rfl⟩:∃j,N=j+1:=⟨N - 1,o_⟩
   have hj:((j+1:Nat):Int) - 1=(j:Int):=o_;rw[YS] at Z;generalize decide (K<0)=sg at *;go_enter func350,ntmps350;go_upto_region 1 with fail
   generalize w.alloc _=W at *;have⟨_,a1⟩:=kA.q2;go_wp2_with fail
   exact a5.out.mono Gy
 .have aa:mM K=false:=by simp [mM];omega
  rw[aa];have ab:¬((dg K.natAbs).length:Int)<=400:=o_;have ac:(400:Int)<((dg K.natAbs).length:Int):=o_;generalize (dg K.natAbs).length=N,decide (K<0)=sg at *;go_enter func350,ntmps350;go_upto_region 1 with fail
  generalize w.alloc _=W at *;have⟨_,a1⟩:=kA.q2;exact vJ
def gf:List (Bool×Value)->List Value
 |[]=>[]
 |p::L=>.bool p.1::p.2::gf L
theorem tk:∀(L:List (Bool×Value)),(gf L).length=L.length*2
 |[]=>rfl
 |p::L=>by simp only[gf,VA,tk L];omega
theorem xt:∀(L:List (Bool×Value)) (i) (h:i<L.length),(gf L)[i*2]?=some (.bool L[i].1)/\(gf L)[i*2+1]?=some L[i].2
 |[],i,h=>by simp at h
 |p::L,0,_=>by simp [gf]
 |p::L,i+1,h=>by
  have:=xt L i kH;rw[show (i+1)*2=i*2+2 by omega];simpa[gf] using this
def mD(w:World)(G:Nat)(v:Value)(L:List (Bool×Value)):Prop:=w.ownsRow G 182 2 v L.length (gf L)
def aW.below{w w1}{G}{v}{L}(h:aW w G v L)(hb:af w w w1):aW w1 G v L:=⟨h.1.below hb,λhn=>(h.2 hn).below hb⟩
def aW.far{w w1}{b g}{v}{L}{cs}{T}{x:Nat×Nat}(h:aW w b v L)(hT:T≠3)(hg:w.heap[g]?=some (.cells cs T x))(Z:ai [g] w w1):aW w1 b v L:=by
 by_cases hn:L=[]
 .exact AI
 .have G:=h.2 hn;have h3:=ar.over G Z (λg' H hm=>by
   rw[VE] at hm;subst hm;rcases G.2 with ⟨_,h0⟩|⟨g2,J,I,ae,_,ax,_⟩
   .exact hn (VY.1 h0)
   .rw[ae] at H;have:=by simpa[Value.ownBlock] using H
    subst this;rw[hg] at ax;injection ax with e;injection e with _ e2 _;exact hT e2)
  exact⟨h3.rdL,λ_=>h3⟩
def mD.form{w}{G}{v}{L:List (Bool×Value)}(h:mD w G v L):
 ∃(a:ck) (F:Nat),v=.slice a L.length F/\L.length<=F/\∀i (_:i<L.length),∃g,a=some ⟨g,0,none⟩/\w.cell? ⟨g,i*2,none⟩=some (.bool L[i].1)/\w.cell? ⟨g,i*2+1,none⟩=some L[i].2/\
  (∀o,w.frozen? ⟨g,o,none⟩=false)/\g<w.heap.size/\G<=g:=by
 rcases h.2 with ⟨hv,hn⟩|⟨g,F,cur,hv,hg,hh,aL,_,_,ht⟩
 .exact AC
 .refine⟨some ⟨g,0,none⟩,F,hv,aL,λi hi=>⟨g,rfl,?_,?_,?_,(Vz.1 hh).1,hg⟩⟩
  .have h4:(cur.toList.take (L.length*2))[i*2]?=cur.toList[i*2]?:=VU o_;rw[ht,(xt L i hi).1] at h4;exact AA
  .have h4:(cur.toList.take (L.length*2))[i*2+1]?=cur.toList[i*2+1]?:=VU o_;rw[ht,(xt L i hi).2] at h4;exact AA
  .intro o;simp [World.frozen?,hh]
def mD.rds{w}{G}{v}{L:List (Bool×Value)}{K}(h1:mD w G v L)(hl:L.length=K.length)(h2:∀i (h:i<L.length) (J:i<K.length),L[i].1=decide (K[i]<0)/\cd w L[i].2 (dg K[i].natAbs)):jF w v K:=by
 have⟨a,F,hv,_,hc⟩:=h1.form;refine⟨a,F,by rw[hv,hl],λi hi=>?_⟩;have⟨g,ha,q1,q2,_,hg,_⟩:=hc i o_;have⟨e1,e2⟩:=h2 i o_ hi;refine⟨g,0,L[i].2,ha,?_,?_,e2,hg⟩
 .rw[V9,q1,e1]
 .rw[V9,q2]
def mD.new(w:World)(G)(L:List (Bool×Value))(hb:G<=w.heap.size)(hl:L.length<=1000)(hL:L≠[]):mD (w.alloc (.cells (gf L).toArray 182)) G (.slice w L.length L.length) L:=by
 have:=Wm.2 hL;refine⟨by rw[tk],.inr ⟨w,L.length,_,rfl,hb,ah.new w _ _,Vj _,by unfold maxLen;omega,by simp [tk],?_⟩⟩;exact VO (by simp [tk])
def Wh.cell{b}{N}{v}{w}(h:Wh b N v w):∃lv,v=.agg #[decide (N<0),lv]/\aW w b lv (dg N.natAbs)/\lv.oneCell'=true:=by
 have⟨lv,h1,h2⟩:=h;have⟨a,F,h3,_⟩:=id h2.1;exact⟨lv,h1,h2,by rw[h3];rfl⟩
def jF.below{w w1}{v}{K}(h:jF w v K)(hb:af w w w1):jF w1 v K:=by
 have⟨a,F,hv,hc⟩:=h;refine⟨a,F,hv,λi hi=>?_⟩;have⟨g,o,lv,ha,q1,q2,q3,q4⟩:=hc i hi;exact⟨g,o,lv,ha,(hb.cell (p:=⟨g,o+i*2,none⟩) q4).trans q1,(hb.cell (p:=⟨g,o+i*2+1,none⟩) q4).trans q2,q3.below hb,Vp q4 hb.size⟩
theorem AL{n}:∀(K),(∀x∈K,Sz n x)->Sz (n*K.length+1) (pr K)
 |[],_=>by rw[pr];exact (Sz.of1 o_ o_).mono o_
 |x::K,h=>by
  have:=AL K λy hy=>h y (by simp [hy]);have:=(h x s_).mul this;rw[pr];exact this.mono (by rw[VA,Nat.mul_add];omega)
def Us{s}{K:List Int}(hl:s*K.length+1<=40000)(h:∀x∈K,Sz s x):∀k,k<=K.length->(dg (pr (K.take k)).natAbs).length<=40000:=λk hk=>by
 have h1:=(AL (K.take k) λx hx=>h x (Xc hx)).len;have h2:(K.take k).length<=K.length:=u_;have h3:=YD s h2;omega
theorem Ho{n}:∀(K),(∀x∈K,Sz n x)->Sz (n+K.length) (sm K)
 |[],_=>by rw[sm];show (0:Int).natAbs<_;exact Nat.pow_pos o_
 |x::K,h=>by
  rw[sm];exact (((h x s_).mono o_).add (Ho K λy hy=>h y (by simp [hy]))).mono u_
def UA{K:List Int}(hl:K.length<=10)(h:∀x∈K,Sz 40000 x):∀k,k<=K.length->(dg (sm (K.take k)).natAbs).length<=100000:=λk hk=>by
 have h1:=(Ho (K.take k) λx hx=>h x (Xc hx)).len;have h2:(K.take k).length<=10:=u_;omega
def AH(h:P:=by simp [results,results151,go_sem,q0,q1,q2]):=h
def JM(h:P:=by
 generalize (setCell (setCell (setCell _ _ _) _ _) _ _)=w9 at k9 ad ⊢;have⟨q0,q1,q2⟩:=k9.q3;refine Vk (v:=.tuple #[.agg #[(),(),()],false]) AH rfl ?_;exact⟨rfl,bv.out▸ad⟩):=h
def bI.over{ex:List Nat}{W w}{G}{v}{L:List P3}(h:bI W G v L)(Z:ai ex W w)(hx:∀k∈ex,k<G):bI w G v L:=by
 refine⟨h.1,?_⟩;rcases h.2 with h0|⟨g,F,cur,hv,hg,hh,r⟩
 .exact .inl h0
 .exact .inr ⟨g,F,cur,hv,hg,(Z.block g (Vz.1 hh).1 (λhm=>by have:=hx g hm;omega)).trans hh,r⟩
noncomputable def jh(A B:Int)(p:P3)(n:Nat):List P3:=(List.range n).map λi=>(cD A B p (i+1) (0,0,0)).getD (0,0,0)
def yA(A B)(p:P3)(n):(jh A B p n).length=n:=by simp [jh]
def Rd(A B)(p:P3)(n):jh A B p (n+1)=jh A B p n++[(cD A B p (n+1) (0,0,0)).getD (0,0,0)]:=by
 unfold jh;rw[List.range_succ,Xi];rfl
def TG(A B)(p:P3)(n i)(h:i<(jh A B p n).length):(jh A B p n)[i]=(cD A B p (i+1) (0,0,0)).getD (0,0,0):=by
 simp [jh]
def Bk(A B:Int)(p:P3)(n:Nat)(w:World)(e:Ending)(w':World):Prop:=
 ((cD A B p n (0,0,0)).isSome=true->∃v,e=.returned (.tuple #[v,true])/\bI w' w v (jh A B p n))/\
 ((cD A B p n (0,0,0)).isSome=false->e=.returned (.tuple #[.slice none 0 0,false]))/\af w w w'
def N_(A B X Y E)(n:Nat)(hA:bh A)(hB:a_ B)(G:cf A B (X,Y,E))(hn:n<=12)(w):
 Kp 208 #[.agg #[A,B],.agg #[X,Y,E],.int .i64 (n)] w (Bk A B (X,Y,E) n w):=by
 obtain⟨kC,kP,kO,J⟩:=fv w #[A,B] 42 #[X,Y,E] 46 #[(),(),()] 46;have a6:(((w.alloc (.cells #[A,B] 42)).alloc (.cells #[X,Y,E] 46)).alloc (.cells #[(),(),()] 46)).heap.size=w.heap.size+1+1+1:=s_;go_enter func208,ntmps208;go_upto_region 3 with fail
 generalize ((w.alloc _).alloc _).alloc _=W at *;have h1:w.heap.size<w.heap.size+1:=o_;have h2:w.heap.size+1<w.heap.size+1+1:=o_;have aX:w.heap.size+1+1<W.heap.size:=o_;have H:w.heap.size<=W.heap.size:=o_;generalize g:w.heap.size+1+1=F at *;generalize U:w.heap.size+1=rP,a9:w.heap.size=rC at *;have bv:Hid (w.heap.size=rC):=a9;go_wp2;go_loopw [8,14] (λv s wr=>∃(k:Nat) (x y e:Int),s=.int .i64 (k:Int)/\k<=n/\Hid (cD A B (X,Y,E) k (0,0,0)=some (x,y,e))/\ah F #[x,y,e] 46 wr/\bI wr W v (jh A B (X,Y,E) k)/\ai [F] W wr) (λ_ s _=>n - (intOf s).toNat)
 case atStart=>exact⟨0,0,0,0,rfl,VH _,rfl,kO,bI.nil _ _,ai.refl _ _⟩
 case round=>
  obtain⟨k,x,y,e,rfl,hk,HT,mO,Z,hO⟩:=hrel;have mC:=kC.over hO u_;have mP:=kP.over hO u_;have a8:=hO.belowGe J o_ u_;by_cases aG:k<n
  .have⟨aM,aL,a1⟩:=mC.p2;have⟨b3,bq,b5,cc⟩:=mP.p3;have⟨b9,b4,b2,ca⟩:=mO.p3;have a7:Hid (cD A B (X,Y,E) (k+1) (0,0,0)=er A B (x,y,e) (X,Y,E)):=by
    show _=_;rw[qX,HT.out];rfl
   have hq:=(h_ (λ(k:Nat) (x y e:Int) (h:cD A B (X,Y,E) k (0,0,0)=some (x,y,e))=>py hA hB G k (0,0,0) (x,y,e) (.zero A B) h)).out _ _ _ _ HT.out;have ac:=h_ ((h_ (λ(x y e:Int) (h:cf A B (x,y,e)) (W:World)=>zh A B x y e X Y E hA hB h G W)).out x y e hq);go_wp2_with fail
   refine (ac.out _).mono ?_;rintro e' w1 ⟨rfl,I⟩;cases hs:er A B (x,y,e) (X,Y,E) with
   |none=>
    have h:=h_ (Dp (by rw[a7.out,hs]) (show k+1<=n by omega));simp only[cw];have aF:=(ag I (show rC<=wr.heap.size by omega) a8).alloc (show rC<=w1.heap.size by have:=I.size;omega) (.cells #[(),(),()] 46);go_wp2;go_ret2;unfold Bk;rw[h.out];exact⟨λh=>mA,λ_=>rfl,bv.out▸aF⟩
   |some r=>
    have⟨x2,y2,e2⟩:=r;have HN:Hid (cD A B (X,Y,E) (k+1) (0,0,0)=some (x2,y2,e2)):=by show _=_;rw[a7.out,hs]
    have HL:Hid (jh A B (X,Y,E) (k+1)=jh A B (X,Y,E) k++[(x2,y2,e2)]):=by show _=_;rw[Rd,HN.out];rfl
    have ae:(jh A B (X,Y,E) k).length<1000000000000:=by rw[yA];omega
    simp only[cw];have bi:=hO.next I
    have kX:=ah.new w1 #[x2,y2,e2] 46;have nO:=(mO.next I).alloc (.cells #[x2,y2,e2] 46);have bx:=bi.alloc (.cells #[x2,y2,e2] 46);have bs:=(Z.below I).below (w1:=w1.alloc (.cells #[x2,y2,e2] 46)) ((Vn _ _).alloc (Vj _) _);go_upto_region 8 with fail
    have ab:F≠w1.heap.size:=by have:=bi.size;omega
    generalize w1.alloc _=W8,w1.heap.size=rX at *;have⟨b1,bz,bp,a2⟩:=kX.p3;have⟨cy,cu,cm⟩:=nO.q3;have⟨b6,b7,b8⟩:=nO.f3;have aa:=nO.lt;have k9:=((nO.set 0 x2).set 1 y2).set 2 e2;have ax:ai [F] W (((W8.setCell F x2).setCell ⟨F,1,none⟩ y2).setCell ⟨F,2,none⟩ e2):=((bx.setCell (.inr s_) _).setCell (.inr s_) _).setCell (.inr s_) _;have az:bI (((W8.setCell F x2).setCell ⟨F,1,none⟩ y2).setCell ⟨F,2,none⟩ e2) W u8 (jh A B (X,Y,E) k):=bs.over ((((ai.refl [F] W8).setCell (.inr s_) _).setCell (.inr s_) _).setCell (.inr s_) _) u_;go_upto_region 9 with fail
    generalize (setCell (setCell (setCell _ _ _) _ _) _ _)=W9 at k9 ax az ⊢;simp at k9;have⟨cz,cv,ad⟩:=k9.q3;have V:=ax.size;go_wp2_with (at_builtin;refine xd (p:=(x2,y2,e2)) rfl _ _ rfl W _ _ rfl az rfl ae V ?_;intro v' w4 bb K b0 _)
    have bo:ai [F] W w4:=⟨K.os.trans ax.os,K.tape.trans ax.tape,K.output.trans ax.output,Vl V K.size,λj hj hn=>(K.block j hj).trans (ax.block j hj hn)⟩
    have k4:ah F #[x2,y2,e2] 46 w4:=(K.block F aX).trans k9;go_wp2;go_roundw
    case rel=>exact⟨k+1,x2,y2,e2,by go_num,o_,HN,k4,by rw[HL.out];exact bb,bo⟩
    case measure=>exact aJ
  .obtain rfl:k=n:=o_
   have h:Hid ((cD A B (X,Y,E) k (0,0,0)).isSome=true):=h_ (by rw[HT.out];rfl);go_wp2;go_ret2;unfold Bk;rw[h.out];exact⟨λ_=>⟨_,rfl,Z.le (by rw[bv.out];exact H)⟩,λh=>mA,bv.out▸a8⟩
def Be{A B}{p:P3}(h:cf A B p):dS A B p.1 p.2.1 p.2.2=true:=by
 unfold dS;rcases h with ⟨h1,h2,h3⟩|⟨h1,h2,h3,h4,h5⟩
 .rw[h1,h2,h3];rfl
 .unfold kf;rw[gv h1.1 h1.2,gv h2.1 h2.2,h3,gv h4.1 h4.2,h5];simp
def NX(A B X Y E n:Int)(hC:be A B=true)(G:cf A B (X,Y,E))(w:World):
 Rv 151 #[.agg #[A,B],.agg #[X,Y,E],n] w (cw (if aw n (-12) 12 then gK A B (X,Y,E) n else none)):=by
 obtain⟨hA,hB⟩:=fs hC;have h0:=λW=>tN A B X Y E hC W;rw[Be G] at h0;have HP:=h_ h0;clear h0 hC;obtain⟨kC,kP,V,J⟩:=fv w #[A,B] 42 #[X,Y,E] 46 #[(),(),()] 46;cases hn:aw n (-12) 12
 .simp;go_enter func151,ntmps151;go_upto_region 1 with fail
  generalize ((w.alloc _).alloc _).alloc _=W at *;have h2:w.heap.size<w.heap.size+1+1:=o_;generalize w.heap.size+1+1=rR at *;generalize w.heap.size+1=rP at *;generalize a9:w.heap.size=rC at *;have bv:Hid (w.heap.size=rC):=a9;clear a9;have⟨a4,a3,a5⟩:=kC.p2;have⟨bY,bZ,bX,b0⟩:=kP.p3;go_wp2_with fail
  refine aj (HP.out _) λw1 I=>?_;have bi:=V.lt;have H:=ag I o_ J;replace V:=V.next I
  clear I kC kP a4 a3 a5 bY bZ bX b0;go_upto_region 2 with ((go_at_call 63;refine aA (dh _ _ _ _) ?_))
  have⟨bx,bz,b3⟩:=V.q3;have⟨aM,a1,ae⟩:=V.f3;have ax:=V.lt;have k9:=((V.set 0 ()).set 1 ()).set 2 ();have ad:af rC w (((w1.setCell ⟨rR,0,none⟩ ()).setCell ⟨rR,1,none⟩ ()).setCell ⟨rR,2,none⟩ ()):=((H.setCell u_ _).setCell u_ _).setCell u_ _
  (repeat (first|go_skip|go_guarded|go_step))
  exact JM
 .have cy:=bO hn;have hY:-3000000<=Y/\Y<=3000000:=G.bd.2.1;have HM:=h_ (tD X Y E hY);have cZ:(n<0/\(if n<0 then -Y else Y)=-Y)\/(0<=n/\(if n<0 then -Y else Y)=Y):=by split<;>omega
  have a2:cf A B (X,(if n<0 then -Y else Y),E):=by split;exact G.neg;exact G
  have hV:gK A B (X,Y,E) n=cD A B (X,(if n<0 then -Y else Y),E) n.natAbs (0,0,0):=by unfold gK;split<;>rfl
  rw[Vo rfl,hV];generalize (if n<0 then -Y else Y)=Z at *;have h1:=λW=>N_ A B X Z E n.natAbs hA hB a2 o_ W;have b6:=h_ h1;generalize aa:cw (cD A B (X,Z,E) n.natAbs (0,0,0))=cz;have cb:=h_ aa;clear aa G a2 hY h1;go_enter func151,ntmps151;go_upto_region 1 with fail
  generalize ((w.alloc _).alloc _).alloc _=W at *;have h1:w.heap.size<w.heap.size+1:=o_;have h2:w.heap.size+1<w.heap.size+1+1:=o_;generalize w.heap.size+1+1=rR at *;generalize w.heap.size+1=rP at *;generalize a9:w.heap.size=rC at *;have bv:Hid (w.heap.size=rC):=a9;clear a9;have⟨a4,a3,a5⟩:=kC.p2;have⟨bY,bZ,bX,b0⟩:=kP.p3;go_wp2_with fail
  refine aj (HP.out _) λw1 I=>?_;have H:=ag I o_ J;replace V:=V.next I
  replace kC:=kC.next I
  replace kP:=kP.next I
  have⟨a4,a3,a5⟩:=kC.p2;have⟨bY,bZ,bX⟩:=kP.q3;have⟨bb,ba,bo⟩:=kP.f3;have b0:=kP.lt
  go_upto_if 21 with ((go_at_call 63;refine aA (dh _ _ _ _) ?_))
  go_cut [2] from 8 (λs wc=>s=.int .i64 (n.natAbs:Int)/\ah rC #[A,B] 42 wc/\ah rP #[X,Z,E] 46 wc/\ah rR #[(),(),()] 46 wc/\af rC w wc)
  case first=>
   rcases cZ with ⟨aX,rfl⟩|⟨aX,rfl⟩
   .go_wp2_with fail
    refine aj (HM.out _) λw2 U=>?_;replace kC:=kC.next U
    replace kP:=kP.next U
    replace V:=V.next U
    have⟨bY,bZ,bX⟩:=kP.q3;have⟨bb,ba,bo⟩:=kP.f3;have b0:=kP.lt;have k9:=((kP.set 0 X).set 1 (-Y:Int)).set 2 E;have c9:=((kC.far (p:=⟨rP,0,none⟩) u_ X).far (p:=⟨rP,1,none⟩) u_ (-Y:Int)).far (p:=⟨rP,2,none⟩) u_ E;have r9:=((V.far (p:=rP) u_ X).far (p:=⟨rP,1,none⟩) u_ (-Y:Int)).far (p:=⟨rP,2,none⟩) u_ E;have aZ:af rC w (((w2.setCell rP X).setCell ⟨rP,1,none⟩ (-Y:Int)).setCell ⟨rP,2,none⟩ E):=(((ag U o_ H).setCell u_ _).setCell u_ _).setCell u_ _;exact Jx
   .go_wp2
    go_meet
    case rel=>exact⟨by congr 1;omega,kC,kP,V,H⟩
  case rest=>
   obtain⟨rfl,jC,jP,jR,hb⟩:=hcut;have hK:n.natAbs<=12:=o_;generalize n.natAbs=K at *;have⟨a7,aL,aG⟩:=jC.p2;have⟨b5,b2,b4,b8⟩:=jP.p3;go_wp2_with fail
   refine (b6.out _).mono ?_;rintro e w3 ⟨m1,m2,aF⟩;have az:=ag aF o_ hb;replace jR:=jR.next aF
   cases hs:cD A B (X,Z,E) K (0,0,0) with
   |none=>
    obtain rfl:=m2 (by rw[hs];rfl);have h:=cb.out;rw[hs] at h;simp only[cw] at h;subst h;go_upto_region 7 with fail
    have⟨b1,bp,bs⟩:=jR.q3;have⟨a6,ac,ab⟩:=jR.f3;have k9:=((jR.set 0 ()).set 1 ()).set 2 ();have ad:af rC w (((w3.setCell rR ()).setCell ⟨rR,1,none⟩ ()).setCell ⟨rR,2,none⟩ ()):=((az.setCell u_ _).setCell u_ _).setCell u_ _
    (repeat (first|go_skip|go_guarded|go_step))
    exact JM
   |some r=>
    obtain⟨v,rfl,ov⟩:=m1 (by rw[hs];rfl);have⟨x,y,e⟩:=r;have h:=cb.out;rw[hs] at h;simp only[cw] at h;subst h;by_cases a8:K=0
    .subst a8;rw[cD] at hs;cases hs;go_upto_region 7 with fail
     have⟨b1,bp,bs⟩:=jR.q3;have⟨a6,ac,ab⟩:=jR.f3;have k9:=((jR.set 0 ()).set 1 ()).set 2 ();have ad:af rC w (((w3.setCell rR ()).setCell ⟨rR,1,none⟩ ()).setCell ⟨rR,2,none⟩ ()):=((az.setCell u_ _).setCell u_ _).setCell u_ _
     (repeat (first|go_skip|go_guarded|go_step))
     generalize (setCell (setCell (setCell _ _ _) _ _) _ _)=w9 at k9 ad ⊢;have⟨q0,q1,q2⟩:=k9.q3;exact Vk (v:=.tuple #[.agg #[(),(),()],true]) AH rfl ⟨rfl,bv.out▸ad⟩
    .obtain⟨k,rfl⟩:∃k,K=k+1:=⟨K - 1,o_⟩
     obtain⟨a,F,rfl,hf⟩:=ov.form;obtain⟨g,rfl,q1,q2,q3,bq,cc⟩:=hf k (by rw[yA];omega);rw[TG,hs] at q1 q2 q3;simp at q1 q2 q3;rw[yA];go_upto_region 8 with fail
     have⟨b1,bp,bs⟩:=jR.q3;have⟨a6,ac,ab⟩:=jR.f3;have k9:=((jR.set 0 x).set 1 y).set 2 e;have ad:af rC w (((w3.setCell rR x).setCell ⟨rR,1,none⟩ y).setCell ⟨rR,2,none⟩ e):=((az.setCell u_ _).setCell u_ _).setCell u_ _
     (repeat (first|go_skip|go_guarded|go_step))
     generalize (setCell (setCell (setCell _ _ _) _ _) _ _)=w9 at k9 ad ⊢;have⟨q0,q1,q2⟩:=k9.q3;exact Vk (v:=.tuple #[.agg #[x,y,e],true]) AH rfl ⟨rfl,bv.out▸ad⟩
def Hw(h:P:=by simp [results,results322,go_sem,q0,q1]):=h
def GE(h:P:=by simp [results,results340,go_sem,q0,q1]):=h
def LC(h:P:=by
 obtain rfl:i=(j:Int):=o_
 have hl:=h_ hI.out.len;have cG:j<A.length:=o_;have aF:=cB.adi j;obtain⟨_,_,e1,_,b9⟩:=HA.out;injection e1 with e1 _ e2;subst e1 e2;obtain⟨ga,oa,rfl,q1,b3⟩:=b9 j cG;have d1:=(hb.cell (p:=⟨ga,oa+j,none⟩) (HG.out▸b3)).trans q1;have s1:=Z.cell (i:=j) (by rw[hl.out];exact cG);have f1:=Z.frozen j;have c9:G<wr.heap.size:=(Z.lt G rfl).2;have c7:wr.cell? ⟨w.heap.size,1,none⟩=some (.slice (some ⟨ga,oa,none⟩) A.length ca):=F.cell 1;generalize ex:A[j]?.getD 0=x at d1 aF;have bZ:=h_ (hI.out.step cG ex aF hr);have bi:0<=r*10000+x:=o_;have c8:r*10000+x<=20000000000000000:=o_;have co:=VS (r*10000+x) (show n≠0 by omega);have cy:=VN (r*10000+x) (show 0<n by omega);clear ex q1 b9 hI;go_wp2;go_roundw
 case rel=>exact⟨j,(r*10000+x) % n,(j:Int) - 1,S.set j ((r*10000+x) / n),o_,by first|rfl|go_num,by go_num,o_,o_,bZ,Z.setG hl.out.symm j _,hb.setCell (Vj _) _⟩
 case measure=>simp [intOf]):=h
def GU(h:P:=by
 go_wp2;generalize (setCell (setCell _ _ _) _ _)=w9 at ad k9 bp ⊢;have⟨q0,q1⟩:=k9.q2;refine Vk (v:=.tuple #[.agg #[decide (K0<0),.slice sl (dg K0.natAbs).length H],r]) Hw rfl ?_;exact⟨_,rfl,⟨_,rfl,bp⟩,ad⟩):=h
def F_(h:P:=by
 go_wp2;generalize (setCell (setCell _ _ _) _ _)=w9 at ad k9 bp ⊢;have⟨q0,q1⟩:=k9.q2;refine Vk (v:=.tuple #[.agg #[decide (K0<0),.slice sl (dg K0.natAbs).length H],r]) GE rfl ?_;exact⟨_,rfl,⟨_,rfl,bp⟩,ad⟩):=h
def I1(h:P:=by
 have e:tr S=dg K0.natAbs:=by rw[sC hI.out.dg,bv];rfl
 rw[<-e];have h1:(tr S).length<=S.length:=by
  unfold tr;rw[List.length_reverse];exact Vl (List.dropWhile_sublist _).length_le s_
 omega):=h
def Jn(h:P:=by
 rw[<-bX.out,<-a8];by_cases hM:M<0
 .by_cases h0:vl S=0
  .right;simp [h0]
  .left;simp [hM];omega
 .left;simp [hM];omega):=h
def FU(h:P:=by
 have:=hI.out.val;simp only[V1] at this;rw[<-HV.out];exact this):=h
structure Dw (A:List Int)(n:Int)(i:Nat)(r:Int)(S:List Int):Prop where
 len:S.length=A.length
 dg:Dg S
 val:vl (A.drop i)=n*vl (S.drop i)+r
def Dw.start(A:List Int)(n:Int):Dw A n A.length 0 (List.replicate A.length 0):=
 ⟨s_,λx hx=>by rw[List.eq_of_mem_replicate hx];omega,by simp [vl]⟩
def Dw.step{A S:List Int}{n r x:Int}{i:Nat}(h:Dw A n (i+1) r S)(hi:i<A.length)(hx:A[i]?.getD 0=x)(dq:0<=x/\x<=9999)(hr:0<=r/\r<=n - 1):Dw A n i ((r*10000+x) % n) (S.set i ((r*10000+x) / n)):=by
 have hS:i<S.length:=by rw[h.len];exact hi
 refine⟨by simp [h.len],λy hy=>?_,?_⟩
 .rcases XZ hy with hy|rfl
  .exact h.dg y hy
  .have h0:=Xh (a:=r*10000+x) (b:=n) o_ o_;have h1:(r*10000+x) / n<10000:=Int.ediv_lt_of_lt_mul o_ o_;omega
 .have e1:A.drop i=x::A.drop (i+1):=by
   rw[WG hi,<-hx,Vv hi];rfl
  have e2:(S.set i ((r*10000+x) / n)).drop i=((r*10000+x) / n)::S.drop (i+1):=by
   rw[WG (by simpa using hS),List.getElem_set_self,List.drop_set_of_lt o_]
  rw[e1,e2];show x+10000*vl (A.drop (i+1))=n*((r*10000+x) / n+10000*vl (S.drop (i+1)))+_;rw[h.val];have e3:=XN (r*10000+x) n;have e4:n*((r*10000+x) / n+10000*vl (S.drop (i+1)))=n*((r*10000+x) / n)+10000*(n*vl (S.drop (i+1))):=by
   rw[Wn,Xj]
  rw[e4];omega
def Dw.nn{A S:List Int}{n r:Int}{i:Nat}(h:Dw A n i r S):0<=vl S:=h.dg.nn
def Ey{M n r V:Int}(hn:1<=n)(hr:0<=r/\r<=n - 1)(h:(M.natAbs:Int)=n*V+r)(hs:¬(M<0/\0<r)):(if M<0 then -V else V)=M / n/\r=M % n:=by
 by_cases hM:M<0
 .rw[Vo hM];have bz:r=0:=o_;subst bz;have e:M=n*(-V):=by rw[XV];omega
  rw[e,Wk _ o_,Int.mul_emod_right];exact⟨rfl,rfl⟩
 .rw[Vm hM];have e:M=r+n*V:=o_;rw[e,XQ _ _ o_,Int.add_mul_emod_self_left,XJ hr.1 o_,Xx hr.1 o_];omega
def D9{M n r V:Int}(hn:1<=n)(hr:0<=r/\r<=n - 1)(h:(M.natAbs:Int)=n*V+r)(hs:M<0/\0<r):(if M<0 then -V else V)+-1=M / n/\n - r=M % n:=by
 rw[Vo hs.1];have e:M=(n - r)+n*(-V+-1):=by rw[Wn,XV];omega
 rw[e,XQ _ _ o_,Int.add_mul_emod_self_left,XJ o_ o_,Xx o_ o_];omega
def qr(K r:Int)(w:World)(e:Ending)(w':World):Prop:=∃v,e=.returned (.tuple #[v,r])/\Wh w.heap.size K v w'/\af w w w'
def tG(M n:Int)(a:Value)(hM:(dg M.natAbs).length<=40000)(hn:1<=n/\n<=1000000000000)(w:World)(ha:br M a w):
 Kp 340 #[a,n] w (qr (M / n) (M % n) w):=by
 obtain⟨la,rfl,a3⟩:=ha;obtain⟨kA,kS,J⟩:=cO w #[decide (M<0),la] 182 #[false,.slice none 0 0] 182;have a5:=h_ a3;generalize a9:decide (M<0)=sa at *;have bX:=h_ a9;clear a9;obtain⟨K,hK⟩:∃K,M / n=K:=⟨_,rfl⟩
 obtain⟨R,hR⟩:∃R,M % n=R:=⟨_,rfl⟩
 rw[hK,hR];have HQ:Hid (∀(V r:Int),0<=r/\r<=n - 1->(M.natAbs:Int)=n*V+r->(¬(M<0/\0<r)->(if M<0 then -V else V)=K/\r=R)/\(M<0/\0<r->(if M<0 then -V else V)+-1=K/\n - r=R)):=h_ λV r hr h=>⟨λhs=>hK▸hR▸Ey hn.1 hr h hs,λhs=>hK▸hR▸D9 hn.1 hr h hs⟩
 clear hK hR;have HV:Hid (vl (dg M.natAbs)=M.natAbs):=h_ (eI _);have cB:=eF M.natAbs;generalize dg M.natAbs=A at *;have a6:=J.size;obtain⟨aa,ca,rfl,_,_⟩:=a3;have nz:(n==0)=false:=u_;go_enter func340,ntmps340;go_upto_region 1 with fail
 generalize (w.alloc _).alloc _=W at *;generalize b7:w.heap.size+1=rs at *;have HA:=h_ (a5.out.below J);obtain⟨wm,b2,bs,b8⟩:=rm W A.length o_;have a1:W.cell? ⟨w.heap.size,1,none⟩=some (.slice aa A.length ca):=kA.cell 1;go_upto_region 2 with fail
 clear b2;have cM:wm.cell? ⟨w.heap.size,1,none⟩=some (.slice aa A.length ca):=(kA.next b8).cell 1;generalize hG:W.heap.size=G at *;have HG:=h_ hG;clear hG;have cu:rs<G:=by rw[<-HG.out];exact kS.lt
 have bo:w.heap.size<G:=by rw[<-HG.out];exact kA.lt
 go_upto_region 4 with fail
 go_loopw [7,8] (λrv iv wr=>∃(k:Nat) (r i:Int) (S:List Int),k<=A.length/\rv=.int .i64 r/\iv=.int .i64 i/\i+1=k/\(0<=r/\r<=n - 1)/\Hid (Dw A n k r S)/\ar wr G (.slice (some ⟨G,0,none⟩) A.length A.length) S/\af G W wr) (λ_ iv _=>(intOf iv+1).toNat)
 case atStart=>exact⟨A.length,0,(A.length:Int) - 1,List.replicate A.length 0,Vj _,rfl,by go_num,o_,o_,h_ (Dw.start A n),bs,b8⟩
 case round=>
  clear bs b8 cM;obtain⟨k,r,i,S,hk,rfl,rfl,cm,hr,hI,Z,hb⟩:=hrel;have F:=kA.next (HG.out▸hb)
  have aZ:=kS.next (HG.out▸hb)
  cases k with
  |succ j=>
   exact LC
  |zero=>
   obtain rfl:i=-1:=o_
   have hl:=h_ hI.out.len;have cN:(M.natAbs:Int)=n*vl S+r:=by
    exact FU
   have bY:=h_ (HQ.out (vl S) r hr cN);obtain⟨K0,a8⟩:∃K0,(if M<0 then -(vl S) else vl S)=K0:=⟨_,rfl⟩
   rw[a8] at bY;have cA:=hI.out.nn;have c5:=hI.out.len;have cT:=aZ.lt;have b5:sa=decide (K0<0)\/K0=0:=by
    exact Jn
   have bv:vl S=K0.natAbs:=by
    rw[<-a8];split<;>omega
   have HT:=h_ ((mg sa _ S o_ wr Z.rdL).mono λe w' h=>h.whole (N:=K0) b5 (by rw[sC hI.out.dg,bv];rfl));have cZ:(dg K0.natAbs).length<=40000:=by
    exact I1
   have HM:Hid (sa=decide (M<0)):=h_ bX.out.symm;clear hI cN HQ a8 b5 bv hl cA;have a0:wr.cell? ⟨w.heap.size,0,none⟩=some (.bool sa):=F.cell 0;have U:af w w wr:=ag (HG.out▸hb) a6 J;have ax:=U.size;have c6:=hb.size;go_wp2_with fail
   refine HT.out.mono ?_;rintro e w1 ⟨v,rfl,ba,I⟩;obtain⟨lv,rfl,az⟩:=ba;obtain⟨sl,H,rfl,_⟩:=id az.1;have bq:=(F.next I).alloc (.cells #[decide (K0<0),.slice sl (dg K0.natAbs).length H] 182);have a4:=(aZ.next I).alloc (.cells #[decide (K0<0),.slice sl (dg K0.natAbs).length H] 182);obtain⟨kQ,ab⟩:=ay w1 #[decide (K0<0),.slice sl (dg K0.natAbs).length H] 182;have aL:af w w w1:=ag I ax U;have cQ:=aL.size;replace aL:=ag ab cQ aL;have bx:aW (w1.alloc (.cells #[decide (K0<0),.slice sl (dg K0.natAbs).length H] 182)) wr.heap.size (.slice sl (dg K0.natAbs).length H) (dg K0.natAbs):=⟨az.1.below ab,λh=>(az.2 h).below ab⟩
   have c2:=I.size;clear ab az;go_upto_region 10 with fail
   generalize w1.alloc _=W3 at *;generalize w1.heap.size=rQ at *;have a2:W3.cell? ⟨w.heap.size,0,none⟩=some (.bool sa):=bq.cell 0;have⟨b0,b1,c4⟩:=kQ.p2;have c3:rs<rQ:=o_;have cz:=aL.size;have b4:=h_ bx;clear bx;by_cases hc:sa=true/\0<r
   .obtain⟨rfl,bz⟩:=hc;have cW:M<0:=by have:=HM.out;simpa using this.symm
    obtain⟨cF,cP⟩:=bY.out.2 ⟨cW,bz⟩;have HK:=h_ cF;have cX:=h_ cP;clear cP;have cc:rQ∉[rs]:=u_;have cb:(dg (Int.natAbs (-1))).length<=40000:=Vl (ft (k:=5) d_) o_;clear cF bY;go_upto_region 11 with fail
    refine bw [rs] (λ_=>false) (λ_=>True) (ah rs #[false,.slice none 0 0] 182) k_ a4 ?_;refine aE ⟨W3,ai.refl _ _,a4⟩ [ae,ac,ac,ae,ae,ae] 4 aK aB ?_;refine aD 1 ?_;refine bN (some 49) (λu=>λw'=>ah rs #[false,.slice none 0 0] 182 w'/\Wh W3.heap.size (-1) u w') (λu=>aK.and bV) (λw' hO hD=>(fF (-1) o_ w').mono λe w2 ⟨v,h1,h2,h3⟩=>⟨v,h1,.of_below h3,hD.next h3,h2.le hO.size⟩) (λu hne=>?_);refine ap ?_;refine aD 2 ?_;refine bN (some 50) (λu2=>λw'=>ah rs #[false,.slice none 0 0] 182 w'/\Wh W3.heap.size K u2 w') (λu2=>aK.and bV) (λw' hO hD=>(xg K0 (-1) _ _ o_ o_ _ ⟨_,rfl,(b4.out.over hO u_).1⟩ hD.2.rd).mono λe w2 ⟨v,h1,h2,h3⟩=>⟨v,h1,.of_below h3,hD.1.next h3,HK.out▸h2.le hO.size⟩) (λu2 hne=>?_);refine ap ?_;obtain⟨w9,_,_,b6,rfl,az⟩:=id hne;obtain⟨aG,g,rfl,_⟩:=id az.1;refine aD 6 ?_;refine fC (v:=.agg #[decide (K<0),.slice aG (dg K.natAbs).length g]) rs (#[false,.slice none 0 0]) (λw'=>ah rs #[decide (K<0),.slice aG (dg K.natAbs).length g] 182 w'/\aW w' W3.heap.size (.slice aG (dg K.natAbs).length g) (dg K.natAbs)) (.inr s_) (λ_ hd=>hd.1) (aK.and (λ_ _ h hb=>⟨h.1.below hb,λhn=>(h.2 hn).below hb⟩)) (λw1 w2 hd Z hb=>⟨hb,hd.2.rdO.over Z u_⟩) (λhne=>?_)
    try simp only[Value.cells]
    refine aE hne (bk 7 1) 0 (aK.and (λ_ _ h hb=>⟨h.1.below hb,λhn=>(h.2 hn).below hb⟩)) aB ?_;refine dn λWz a7 aX=>?_
    try dsimp only
    have aM:af w w Wz:=a7.belowGe (B:=w.heap.size) aL cz u_;obtain⟨q0,q1⟩:=aX.1.q2;have cv:aW Wz w.heap.size (.slice aG (dg K.natAbs).length g) (dg K.natAbs):=aX.2.le cz;clear a7 aX hne az;go_wp2;refine Vk (v:=.tuple #[.agg #[decide (K<0),.slice aG (dg K.natAbs).length g],(n - r:Int)]) GE rfl ?_;exact⟨_,by rw[cX.out],⟨_,rfl,cv⟩,aM⟩
   .have bb:¬(M<0/\0<r):=λh=>hc ⟨by rw[HM.out];simpa using h.1,h.2⟩;obtain⟨e1,e2⟩:=bY.out.1 bb;subst e1 e2;have⟨c0,c1⟩:=a4.q2;have⟨z0,z1⟩:=a4.f2;have k9:=(a4.set 0 (decide (K0<0))).set 1 (.slice sl (dg K0.natAbs).length H);have ad:af w w ((W3.setCell ⟨rs,0,none⟩ (decide (K0<0))).setCell ⟨rs,1,none⟩ (.slice sl (dg K0.natAbs).length H)):=(aL.setCell u_ _).setCell u_ _;have bp:=b4.out.set2 (S:=rs) cT (decide (K0<0)) (.slice sl (dg K0.natAbs).length H);replace bp:aW _ w.heap.size _ _:=bp.le ax;clear b4 bY HT bq a4;cases sa
    .exact F_
    .have bz:¬0<r:=λh=>hc ⟨rfl,h⟩;exact F_
def nV(M n:Int)(a:Value)(hM:(dg M.natAbs).length<=40000)(hn:1<=n/\n<=1000000000000)(w:World)(ha:br M a w):
 Kp 322 #[a,n] w (qr (M / n) (M % n) w):=by
 obtain⟨la,rfl,a3⟩:=ha;obtain⟨kA,kS,J⟩:=cO w #[decide (M<0),la] 182 #[false,.slice none 0 0] 182;have a5:=h_ a3;generalize a9:decide (M<0)=sa at *;have bX:=h_ a9;clear a9;obtain⟨K,hK⟩:∃K,M / n=K:=⟨_,rfl⟩
 obtain⟨R,hR⟩:∃R,M % n=R:=⟨_,rfl⟩
 rw[hK,hR];have HQ:Hid (∀(V r:Int),0<=r/\r<=n - 1->(M.natAbs:Int)=n*V+r->(¬(M<0/\0<r)->(if M<0 then -V else V)=K/\r=R)/\(M<0/\0<r->(if M<0 then -V else V)+-1=K/\n - r=R)):=h_ λV r hr h=>⟨λhs=>hK▸hR▸Ey hn.1 hr h hs,λhs=>hK▸hR▸D9 hn.1 hr h hs⟩
 clear hK hR;have HV:Hid (vl (dg M.natAbs)=M.natAbs):=h_ (eI _);have cB:=eF M.natAbs;generalize dg M.natAbs=A at *;have a6:=J.size;obtain⟨aa,ca,rfl,_,_⟩:=a3;have nz:(n==0)=false:=u_;go_enter func322,ntmps322;go_upto_region 1 with fail
 generalize (w.alloc _).alloc _=W at *;generalize b7:w.heap.size+1=rs at *;have HA:=h_ (a5.out.below J);obtain⟨wm,b2,bs,b8⟩:=rm W A.length o_;have a1:W.cell? ⟨w.heap.size,1,none⟩=some (.slice aa A.length ca):=kA.cell 1;go_upto_region 2 with fail
 clear b2;have cM:wm.cell? ⟨w.heap.size,1,none⟩=some (.slice aa A.length ca):=(kA.next b8).cell 1;generalize hG:W.heap.size=G at *;have HG:=h_ hG;clear hG;have cu:rs<G:=by rw[<-HG.out];exact kS.lt
 have bo:w.heap.size<G:=by rw[<-HG.out];exact kA.lt
 go_upto_region 4 with fail
 go_loopw [7,8] (λrv iv wr=>∃(k:Nat) (r i:Int) (S:List Int),k<=A.length/\rv=.int .i64 r/\iv=.int .i64 i/\i+1=k/\(0<=r/\r<=n - 1)/\Hid (Dw A n k r S)/\ar wr G (.slice (some ⟨G,0,none⟩) A.length A.length) S/\af G W wr) (λ_ iv _=>(intOf iv+1).toNat)
 case atStart=>exact⟨A.length,0,(A.length:Int) - 1,List.replicate A.length 0,Vj _,rfl,by go_num,o_,o_,h_ (Dw.start A n),bs,b8⟩
 case round=>
  clear bs b8 cM;obtain⟨k,r,i,S,hk,rfl,rfl,cm,hr,hI,Z,hb⟩:=hrel;have F:=kA.next (HG.out▸hb)
  have aZ:=kS.next (HG.out▸hb)
  cases k with
  |succ j=>
   exact LC
  |zero=>
   obtain rfl:i=-1:=o_
   have hl:=h_ hI.out.len;have cN:(M.natAbs:Int)=n*vl S+r:=by
    exact FU
   have bY:=h_ (HQ.out (vl S) r hr cN);obtain⟨K0,a8⟩:∃K0,(if M<0 then -(vl S) else vl S)=K0:=⟨_,rfl⟩
   rw[a8] at bY;have cA:=hI.out.nn;have c5:=hI.out.len;have cT:=aZ.lt;have b5:sa=decide (K0<0)\/K0=0:=by
    exact Jn
   have bv:vl S=K0.natAbs:=by
    rw[<-a8];split<;>omega
   have HT:=h_ ((mq sa _ S o_ wr Z.rdL).mono λe w' h=>h.whole (N:=K0) b5 (by rw[sC hI.out.dg,bv];rfl));have cZ:(dg K0.natAbs).length<=40000:=by
    exact I1
   have HM:Hid (sa=decide (M<0)):=h_ bX.out.symm;clear hI cN HQ a8 b5 bv hl cA;have a0:wr.cell? ⟨w.heap.size,0,none⟩=some (.bool sa):=F.cell 0;have U:af w w wr:=ag (HG.out▸hb) a6 J;have ax:=U.size;have c6:=hb.size;go_wp2_with fail
   refine HT.out.mono ?_;rintro e w1 ⟨v,rfl,ba,I⟩;obtain⟨lv,rfl,az⟩:=ba;obtain⟨sl,H,rfl,_⟩:=id az.1;have bq:=(F.next I).alloc (.cells #[decide (K0<0),.slice sl (dg K0.natAbs).length H] 182);have a4:=(aZ.next I).alloc (.cells #[decide (K0<0),.slice sl (dg K0.natAbs).length H] 182);obtain⟨kQ,ab⟩:=ay w1 #[decide (K0<0),.slice sl (dg K0.natAbs).length H] 182;have aL:af w w w1:=ag I ax U;have cQ:=aL.size;replace aL:=ag ab cQ aL;have bx:aW (w1.alloc (.cells #[decide (K0<0),.slice sl (dg K0.natAbs).length H] 182)) wr.heap.size (.slice sl (dg K0.natAbs).length H) (dg K0.natAbs):=⟨az.1.below ab,λh=>(az.2 h).below ab⟩
   have c2:=I.size;clear ab az;go_upto_region 10 with fail
   generalize w1.alloc _=W3 at *;generalize w1.heap.size=rQ at *;have a2:W3.cell? ⟨w.heap.size,0,none⟩=some (.bool sa):=bq.cell 0;have⟨b0,b1,c4⟩:=kQ.p2;have c3:rs<rQ:=o_;have cz:=aL.size;have b4:=h_ bx;clear bx;by_cases hc:sa=true/\0<r
   .obtain⟨rfl,bz⟩:=hc;have cW:M<0:=by have:=HM.out;simpa using this.symm
    obtain⟨cF,cP⟩:=bY.out.2 ⟨cW,bz⟩;have HK:=h_ cF;have cX:=h_ cP;clear cP;have cc:rQ∉[rs]:=u_;have cb:(dg (Int.natAbs (1))).length<=40000:=Vl (ft (k:=5) d_) o_;clear cF bY;go_upto_region 11 with fail
    refine bw [rs] (λ_=>false) (λ_=>True) (ah rs #[false,.slice none 0 0] 182) k_ a4 ?_;refine aE ⟨W3,ai.refl _ _,a4⟩ [ae,ac,ac,ae,ae,ae] 4 aK aB ?_;refine aD 1 ?_;refine bN (some 50) (λu=>λw'=>ah rs #[false,.slice none 0 0] 182 w'/\Wh W3.heap.size (1) u w') (λu=>aK.and bV) (λw' hO hD=>(rL (1) o_ w').mono λe w2 ⟨v,h1,h2,h3⟩=>⟨v,h1,.of_below h3,hD.next h3,h2.le hO.size⟩) (λu hne=>?_);refine ap ?_;refine aD 2 ?_;refine bN (some 51) (λu2=>λw'=>ah rs #[false,.slice none 0 0] 182 w'/\Wh W3.heap.size K u2 w') (λu2=>aK.and bV) (λw' hO hD=>(Ex K0 (1) _ _ o_ o_ _ ⟨_,rfl,(b4.out.over hO u_).1⟩ hD.2.rd).mono λe w2 ⟨v,h1,h2,h3⟩=>⟨v,h1,.of_below h3,hD.1.next h3,HK.out▸h2.le hO.size⟩) (λu2 hne=>?_);refine ap ?_;obtain⟨w9,_,_,b6,rfl,az⟩:=id hne;obtain⟨aG,g,rfl,_⟩:=id az.1;refine aD 6 ?_;refine fC (v:=.agg #[decide (K<0),.slice aG (dg K.natAbs).length g]) rs (#[false,.slice none 0 0]) (λw'=>ah rs #[decide (K<0),.slice aG (dg K.natAbs).length g] 182 w'/\aW w' W3.heap.size (.slice aG (dg K.natAbs).length g) (dg K.natAbs)) (.inr s_) (λ_ hd=>hd.1) (aK.and (λ_ _ h hb=>⟨h.1.below hb,λhn=>(h.2 hn).below hb⟩)) (λw1 w2 hd Z hb=>⟨hb,hd.2.rdO.over Z u_⟩) (λhne=>?_)
    try simp only[Value.cells]
    refine aE hne (bk 7 1) 0 (aK.and (λ_ _ h hb=>⟨h.1.below hb,λhn=>(h.2 hn).below hb⟩)) aB ?_;refine dn λWz a7 aX=>?_
    try dsimp only
    have aM:af w w Wz:=a7.belowGe (B:=w.heap.size) aL cz u_;obtain⟨q0,q1⟩:=aX.1.q2;have cv:aW Wz w.heap.size (.slice aG (dg K.natAbs).length g) (dg K.natAbs):=aX.2.le cz;clear a7 aX hne az;go_wp2;refine Vk (v:=.tuple #[.agg #[decide (K<0),.slice aG (dg K.natAbs).length g],(n - r:Int)]) Hw rfl ?_;exact⟨_,by rw[cX.out],⟨_,rfl,cv⟩,aM⟩
   .have bb:¬(M<0/\0<r):=λh=>hc ⟨by rw[HM.out];simpa using h.1,h.2⟩;obtain⟨e1,e2⟩:=bY.out.1 bb;subst e1 e2;have⟨c0,c1⟩:=a4.q2;have⟨z0,z1⟩:=a4.f2;have k9:=(a4.set 0 (decide (K0<0))).set 1 (.slice sl (dg K0.natAbs).length H);have ad:af w w ((W3.setCell ⟨rs,0,none⟩ (decide (K0<0))).setCell ⟨rs,1,none⟩ (.slice sl (dg K0.natAbs).length H)):=(aL.setCell u_ _).setCell u_ _;have bp:=b4.out.set2 (S:=rs) cT (decide (K0<0)) (.slice sl (dg K0.natAbs).length H);replace bp:aW _ w.heap.size _ _:=bp.le ax;clear b4 bY HT bq a4;cases sa
    .exact GU
    .have bz:¬0<r:=λh=>hc ⟨rfl,h⟩;exact GU
def aV(c:Value):Value->av:=λv _=>v=c
def aV.closed(c v):aQ (aV c v):=λ_ _ h _=>h
def du(K:List Int):Value->av:=λv w=>jF w v K
def du.closed(K)(v):aQ (du K v):=λ_ _ h hb=>jF.below h hb
def bG(b r:Nat)(N:Int)(w:World):Prop:=∃lv,ah r #[decide (N<0),lv] 182 w/\aW w b lv (dg N.natAbs)/\lv.oneCell'=true
def bG.closed(b r)(N):aQ (bG b r N):=λ_ _ ⟨lv,h1,h2,h3⟩ hb=>⟨lv,h1.next hb,h2.below hb,h3⟩
def bG.next{b r}{N}{w w'}(h:bG b r N w)(hb:af w w w'):bG b r N w':=bG.closed b r N _ _ h hb
def bG.lt{b r}{N}{w}(h:bG b r N w):r<w.heap.size:=by
 have⟨lv,h1,_⟩:=h;exact h1.lt
def kt(w)(r)(x y):ai [r] w ((w.setCell r x).setCell ⟨r,1,none⟩ y):=((ai.refl [r] w).setCell (p:=r) (.inr s_) x).setCell (p:=⟨r,1,none⟩) (.inr s_) y
def bG.put{b r}{cs}{w}{M}{lv}(hk:ah r cs 182 w)(hc:cs.size=2)(hv:aW w b lv (dg M.natAbs))(h1:lv.oneCell'=true):bG b r M ((w.setCell r (decide (M<0))).setCell ⟨r,1,none⟩ lv):=by
 refine⟨lv,?_,hv.far d_ hk (kt w r _ _),h1⟩
 match cs,hc with
 |⟨[x,y]⟩,_=>simpa using ((hk.set 0 (decide (M<0))).set 1 lv)
def bG.far{b r r'}{N}{w}{cs}(h:bG b r N w)(hne:r≠r')(hk:ah r' cs 182 w)(x y):bG b r N ((w.setCell r' x).setCell ⟨r',1,none⟩ y):=by
 have⟨lv,h1,h2,h3⟩:=h;exact⟨lv,(h1.far (p:=r') hne x).far (p:=⟨r',1,none⟩) hne y,h2.far d_ hk (kt w r' x y),h3⟩
def lN{o}{ρ:Operand->Value}{w}{b r:Nat}{N}(x)(Z:o.op=.load 182 x)(hx:ρ x=.pointer r)(h:bG b r N w):bn prog o ρ w (Wh b N):=by
 have⟨lv,h1,h2,_⟩:=h;refine .value (.agg #[decide (N<0),lv]) ?_ ⟨lv,rfl,h2⟩;have⟨q0,q1⟩:=h1.q2;unfold execOp;rw[Z];simp [go_sem,hx,q0,q1]
def PZ{o}{ρ:Operand->Value}{w}{r:Nat}(x)(Z:o.op=.fieldAddr 42 x 0)(hx:ρ x=.pointer r):bn prog o ρ w (aV (.pointer r)):=by
 refine .value _ ?_ rfl;unfold execOp;rw[Z];simp [go_sem,hx]
def Qy{o}{ρ:Operand->Value}{w}{r:Nat}(x)(Z:o.op=.fieldAddr 42 x 1)(hx:ρ x=.pointer r):bn prog o ρ w (aV (.pointer (some ⟨r,1,none⟩))):=by
 refine .value _ ?_ rfl;unfold execOp;rw[Z];simp [go_sem,hx]
def jx{o}{ρ:Operand->Value}{w}{r i}{A:Int}(x)(Z:o.op=.load 3 x)(hx:ρ x=.pointer (some ⟨r,i,none⟩))(h:w.cell? ⟨r,i,none⟩=some (.int .i64 A)):bn prog o ρ w (aV A):=by
 refine .value _ ?_ rfl;unfold execOp;rw[Z];simp [go_sem,hx,h]
def nZ{o}{ρ:Operand->Value}{w}{a c}(x y)(Z:o.op=.binOp .mul 3 x y 3)(hx:ρ x=.int .i64 a)(hy:ρ y=.int .i64 c)(h:-1000000000000000000<=a*c/\a*c<=1000000000000000000):bn prog o ρ w (aV (a*c:Int)):=by
 refine .value _ ?_ rfl;have G:IntKind.i64.wrap (a*c)=a*c:=by rw[XE];unfold wrap64;omega
 unfold execOp;rw[Z];simp [go_sem,hx,hy,G]
def Ft{o}{ρ:Operand->Value}{w}{b}(x0 x1 x2)(G F g)(Z:o.op=.buildSlice 285 3 #[(0,x0),(1,x1),(2,x2)])(h0:Wh b G (ρ x0) w)(h1:Wh b F (ρ x1) w)(h2:Wh b g (ρ x2) w):
 bn prog o ρ w (du [G,F,g]):=by
 have⟨l0,e0,r0,_⟩:=h0.cell;have⟨l1,e1,r1,_⟩:=h1.cell;have⟨l2,e2,r2,_⟩:=h2.cell;have hb:af w w (w.alloc (.cells (gf [(decide (G<0),l0),(decide (F<0),l1),(decide (g<0),l2)]).toArray 182)):=(Vn _ _).alloc (Vj _) _;refine bn.make (.slice w 3 3) (w.alloc (.cells (gf [(decide (G<0),l0),(decide (F<0),l1),(decide (g<0),l2)]).toArray 182)) ?_ hb ((mD.new w w [(decide (G<0),l0),(decide (F<0),l1),(decide (g<0),l2)] (Vj _) s_ s_).rds rfl ?_)
 .unfold execOp;rw[Z];simp [go_sem,gf,e0,e1,e2]
 .intro i h J
  match i,h,J with
  |0,_,_=>exact⟨rfl,r0.1.below hb⟩
  |1,_,_=>exact⟨rfl,r1.1.below hb⟩
  |2,_,_=>exact⟨rfl,r2.1.below hb⟩
def uO{o}{ρ:Operand->Value}{w}{b}(x0 x1 x2 x3)(G F g N3)(Z:o.op=.buildSlice 285 4 #[(0,x0),(1,x1),(2,x2),(3,x3)])(h0:Wh b G (ρ x0) w)(h1:Wh b F (ρ x1) w)(h2:Wh b g (ρ x2) w)(h3:Wh b N3 (ρ x3) w):
 bn prog o ρ w (du [G,F,g,N3]):=by
 have⟨l0,e0,r0,_⟩:=h0.cell;have⟨l1,e1,r1,_⟩:=h1.cell;have⟨l2,e2,r2,_⟩:=h2.cell;have⟨l3,e3,r3,_⟩:=h3.cell;have hb:af w w (w.alloc (.cells (gf [(decide (G<0),l0),(decide (F<0),l1),(decide (g<0),l2),(decide (N3<0),l3)]).toArray 182)):=(Vn _ _).alloc (Vj _) _;refine bn.make (.slice w 4 4) (w.alloc (.cells (gf [(decide (G<0),l0),(decide (F<0),l1),(decide (g<0),l2),(decide (N3<0),l3)]).toArray 182)) ?_ hb ((mD.new w w [(decide (G<0),l0),(decide (F<0),l1),(decide (g<0),l2),(decide (N3<0),l3)] (Vj _) s_ s_).rds rfl ?_)
 .unfold execOp;rw[Z];simp [go_sem,gf,e0,e1,e2,e3]
 .intro i h J
  match i,h,J with
  |0,_,_=>exact⟨rfl,r0.1.below hb⟩
  |1,_,_=>exact⟨rfl,r1.1.below hb⟩
  |2,_,_=>exact⟨rfl,r2.1.below hb⟩
  |3,_,_=>exact⟨rfl,r3.1.below hb⟩
def yY{o}{ρ:Operand->Value}{w}{b}(x0 x1 x2 x3 x4)(G F g N3 H)(Z:o.op=.buildSlice 285 5 #[(0,x0),(1,x1),(2,x2),(3,x3),(4,x4)])(h0:Wh b G (ρ x0) w)(h1:Wh b F (ρ x1) w)(h2:Wh b g (ρ x2) w)(h3:Wh b N3 (ρ x3) w)(h4:Wh b H (ρ x4) w):
 bn prog o ρ w (du [G,F,g,N3,H]):=by
 have⟨l0,e0,r0,_⟩:=h0.cell;have⟨l1,e1,r1,_⟩:=h1.cell;have⟨l2,e2,r2,_⟩:=h2.cell;have⟨l3,e3,r3,_⟩:=h3.cell;have⟨I,e4,r4,_⟩:=h4.cell;have hb:af w w (w.alloc (.cells (gf [(decide (G<0),l0),(decide (F<0),l1),(decide (g<0),l2),(decide (N3<0),l3),(decide (H<0),I)]).toArray 182)):=(Vn _ _).alloc (Vj _) _;refine bn.make (.slice w 5 5) (w.alloc (.cells (gf [(decide (G<0),l0),(decide (F<0),l1),(decide (g<0),l2),(decide (N3<0),l3),(decide (H<0),I)]).toArray 182)) ?_ hb ((mD.new w w [(decide (G<0),l0),(decide (F<0),l1),(decide (g<0),l2),(decide (N3<0),l3),(decide (H<0),I)] (Vj _) s_ s_).rds rfl ?_)
 .unfold execOp;rw[Z];simp [go_sem,gf,e0,e1,e2,e3,e4]
 .intro i h J
  match i,h,J with
  |0,_,_=>exact⟨rfl,r0.1.below hb⟩
  |1,_,_=>exact⟨rfl,r1.1.below hb⟩
  |2,_,_=>exact⟨rfl,r2.1.below hb⟩
  |3,_,_=>exact⟨rfl,r3.1.below hb⟩
  |4,_,_=>exact⟨rfl,r4.1.below hb⟩
def J0(h:P:=by simp [results,results78,go_sem,q0,q1,q2]):=h
def GF(h:P:=by
 generalize (setCell (setCell (setCell _ _ _) _ _) _ _)=w9 at k9 ad ⊢;have⟨q0,q1,q2⟩:=k9.q3;refine Vk (v:=.tuple #[.agg #[(),(),()],false]) J0 rfl ?_;exact⟨rfl,bv.out▸ad⟩):=h
def BG(A B X Y E:Int)(hC:be A B=true)(w):
 Kp 115 #[.agg #[A,B],.agg #[X,Y,E]] w λr w'=>r=.returned (.bool (dS A B X Y E))/\af w w w':=by
 have⟨hA,hB⟩:=fs hC;have h0:=λW=>f_ A B W;rw[hC] at h0;have HC:=h_ h0;have HP:=h_ (Fu A B X Y E hA hB);have⟨kC,kP,J⟩:=cO w #[A,B] 42 #[X,Y,E] 46;generalize dS A B X Y E=r at *;go_enter func115,ntmps115;go_upto_region 1 with fail
 generalize (w.alloc _).alloc _=W at *;have⟨a4,a3,a5⟩:=kC.p2;go_wp2_with fail
 refine aj (HC.out _) λw1 I=>?_;have H:=ag I J.size J;replace kC:=kC.next I
 replace kP:=kP.next I
 have⟨a4,a3⟩:=kC.q2;have⟨bY,bZ,bX⟩:=kP.q3;go_wp2_with fail
 refine aj (HP.out _) λw2 U=>?_;go_wp2;go_ret;exact⟨rfl,(ag U H.size H)⟩
def OC(A B X Y E n:Int)(hC:be A B=true)(G:cf A B (X,Y,E))(w:World):
 Rv 78 #[.agg #[A,B],.agg #[X,Y,E],n] w (cw (if aw n (-12) 12 then gK A B (X,Y,E) n else none)):=by
 obtain⟨hA,hB⟩:=fs hC;have h0:=λW=>BG A B X Y E hC W;rw[Be G] at h0;have HP:=h_ h0;obtain⟨kC,kP,V,J⟩:=fv w #[A,B] 42 #[X,Y,E] 46 #[(),(),()] 46;cases hn:aw n (-12) 12
 .simp;go_enter func78,ntmps78;go_upto_region 1 with fail
  generalize ((w.alloc _).alloc _).alloc _=W at *;have h2:w.heap.size<w.heap.size+1+1:=o_;generalize w.heap.size+1+1=rR at *;generalize w.heap.size+1=rP at *;generalize a9:w.heap.size=rC at *;have bv:Hid (w.heap.size=rC):=a9;have⟨a4,a3,a5⟩:=kC.p2;have⟨bY,bZ,bX,b0⟩:=kP.p3;go_wp2_with fail
  refine aj (HP.out _) λw1 I=>?_;have bi:=V.lt;have H:=ag I o_ J;replace V:=V.next I
  replace kC:=kC.next I
  replace kP:=kP.next I
  have⟨_,_⟩:=kC.q2;have⟨_,_,_⟩:=kP.q3;go_upto_region 2 with ((go_at_call 104;refine aA (cK _ _ _ _) ?_))
  have⟨bx,bz,b3⟩:=V.q3;have⟨aM,a1,ae⟩:=V.f3;have k9:=((V.set 0 ()).set 1 ()).set 2 ();have ad:af rC w (((w1.setCell ⟨rR,0,none⟩ ()).setCell ⟨rR,1,none⟩ ()).setCell ⟨rR,2,none⟩ ()):=((H.setCell u_ _).setCell u_ _).setCell u_ _
  (repeat (first|go_skip|go_guarded|go_step))
  exact GF
 .have HT:=h_ (CR A B X Y E n hA hB G (bO hn));rw[Vo rfl];cases hv:gK A B (X,Y,E) n with
  |none=>
   rw[hv] at HT;simp only[cw];go_enter func78,ntmps78;go_upto_region 1 with fail
   generalize ((w.alloc _).alloc _).alloc _=W at *;have h2:w.heap.size<w.heap.size+1+1:=o_;generalize w.heap.size+1+1=rR at *;generalize w.heap.size+1=rP at *;generalize a9:w.heap.size=rC at *;have bv:Hid (w.heap.size=rC):=a9;have⟨a4,a3,a5⟩:=kC.p2;have⟨bY,bZ,bX,b0⟩:=kP.p3;go_wp2_with fail
   refine aj (HP.out _) λw1 I=>?_;have bi:=V.lt;have H:=ag I o_ J;replace V:=V.next I
   replace kC:=kC.next I
   replace kP:=kP.next I
   have⟨a4,a3,a5⟩:=kC.p2;have⟨bY,bZ,bX,b0⟩:=kP.p3;go_wp2_with ((go_at_call 104;refine aA (cK _ _ _ _) ?_))
   refine aj (HT.out _) λw2 U=>?_;simp only[cw];have ax:=ag U o_ H;replace V:=V.next U
   have⟨bx,bz,b3⟩:=V.q3;have⟨aM,a1,ae⟩:=V.f3;have k9:=((V.set 0 ()).set 1 ()).set 2 ();have ad:af rC w (((w2.setCell ⟨rR,0,none⟩ ()).setCell ⟨rR,1,none⟩ ()).setCell ⟨rR,2,none⟩ ()):=((ax.setCell u_ _).setCell u_ _).setCell u_ _
   (repeat (first|go_skip|go_guarded|go_step))
   exact GF
  |some r=>
   obtain⟨x,y,z⟩:=r;rw[hv] at HT;simp only[cw];go_enter func78,ntmps78;go_upto_region 1 with fail
   generalize ((w.alloc _).alloc _).alloc _=W at *;have h2:w.heap.size<w.heap.size+1+1:=o_;generalize w.heap.size+1+1=rR at *;generalize w.heap.size+1=rP at *;generalize a9:w.heap.size=rC at *;have bv:Hid (w.heap.size=rC):=a9;have⟨a4,a3,a5⟩:=kC.p2;have⟨bY,bZ,bX,b0⟩:=kP.p3;go_wp2_with fail
   refine aj (HP.out _) λw1 I=>?_;have bi:=V.lt;have H:=ag I o_ J;replace V:=V.next I
   replace kC:=kC.next I
   replace kP:=kP.next I
   have⟨a4,a3,a5⟩:=kC.p2;have⟨bY,bZ,bX,b0⟩:=kP.p3;go_wp2_with ((go_at_call 104;refine aA (cK _ _ _ _) ?_))
   refine aj (HT.out _) λw2 U=>?_;simp only[cw];have ax:=ag U o_ H;replace V:=V.next U
   have⟨bx,bz,b3⟩:=V.q3;have⟨aM,a1,ae⟩:=V.f3;have k9:=((V.set 0 x).set 1 y).set 2 z;have ad:af rC w (((w2.setCell ⟨rR,0,none⟩ x).setCell ⟨rR,1,none⟩ y).setCell ⟨rR,2,none⟩ z):=((ax.setCell u_ _).setCell u_ _).setCell u_ _
   (repeat (first|go_skip|go_guarded|go_step))
   generalize (setCell (setCell (setCell _ _ _) _ _) _ _)=w9 at k9 ad ⊢;have⟨q0,q1,q2⟩:=k9.q3;exact Vk (v:=.tuple #[.agg #[x,y,z],true]) J0 rfl ⟨rfl,bv.out▸ad⟩
end Go.Proofs.YtaamhakdhaolmaaGreatDoor
