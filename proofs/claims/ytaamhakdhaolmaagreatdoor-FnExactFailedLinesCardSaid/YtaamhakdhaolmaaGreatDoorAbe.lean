/- Part 30. -/
import Derived.Test.YtaamhakdhaolmaaGreatDoorAbd
namespace Go.Proofs.YtaamhakdhaolmaaGreatDoor
open Go.RowKit
set_option maxHeartbeats 8000000
set_option maxRecDepth 100000
variable {P:Prop}
set_option linter.all false
def Jj(h:P:=by simp [results,Tryz.results284,go_sem,q0,q1,q2,q3]):=h
def Li(h:P:=by
 obtain⟨lT,c6,rT,_⟩:=kF;obtain⟨lU,cF,rU,_⟩:=kG;obtain⟨sT,pT,rfl⟩:=rT.form;obtain⟨sU,pU,rfl⟩:=rU.form;obtain⟨c0,c1⟩:=kC.q2;obtain⟨f0,f1⟩:=c6.q2;obtain⟨g0,g1⟩:=cF.q2;go_wp2_with fail
 refine ai (c9.out W3 (.agg #[decide (T<0),.slice sT (dg T.natAbs).length pT]) (.agg #[decide (U<0),.slice sU (dg U.natAbs).length pU]) ⟨_,rfl,rT.1⟩ ⟨_,rfl,rU.1⟩) λw4 K=>?_;replace aL:=af K (HS.out▸aL.size) aL;replace V:=V.next K
 replace c6:=c6.next K
 replace cF:=cF.next K
 replace rT:=rT.below K;replace rU:=rU.below K;clear c0 c1 f0 f1 g0 g1 K c9 kC;obtain⟨f0,f1⟩:=c6.q2;go_upto_region 8 with fail
 go_wp2_with fail
 refine (c3.out w4 (.agg #[decide (T<0),.slice sT (dg T.natAbs).length pT]) ⟨_,rfl,rT.1⟩).mono ?_;rintro e w5 ⟨v5,rfl,a8,ac⟩;replace a8:=a8.le (Ui hb (HS.out▸aL.size));obtain⟨lP,rfl,rP,cP⟩:=a8.cell;obtain⟨sP,pP,rfl⟩:=rP.form;obtain⟨k8,ab⟩:=aw w5 #[decide (X<0),.slice sP (dg X.natAbs).length pP] 182;replace aL:=af ac (HS.out▸aL.size) aL;replace aL:=af ab (HS.out▸aL.size) aL;replace V:=(V.next ac).next ab
 replace cF:=(cF.next ac).next ab
 replace rU:=(rU.below ac).below ab;replace rP:=rP.below ab;clear ac ab c3 a8 f0 f1 c6 rT cP;go_upto_region 9 with fail
 generalize w5.alloc _=W6 at *;generalize w5.heap.size=r8 at *;obtain⟨g0,g1⟩:=cF.q2;go_wp2_with fail
 refine (bp.out W6 (.agg #[decide (U<0),.slice sU (dg U.natAbs).length pU]) ⟨_,rfl,rU.1⟩).mono ?_;rintro e w7 ⟨v7,rfl,a8,a7⟩;replace a8:=a8.le (Ui hb (HS.out▸aL.size));obtain⟨lQ,rfl,rQ,cQ⟩:=a8.cell;obtain⟨sQ,pQ,rfl⟩:=rQ.form;obtain⟨b3,ab⟩:=aw w7 #[decide (Z<0),.slice sQ (dg Z.natAbs).length pQ] 182;replace aL:=af a7 (HS.out▸aL.size) aL;replace aL:=af ab (HS.out▸aL.size) aL;replace V:=(V.next a7).next ab
 replace k8:=(k8.next a7).next ab
 replace rP:=(rP.below a7).below ab;replace rQ:=rQ.below ab;clear a7 ab bp a8 g0 g1 cF rU cQ;go_upto_region 10 with fail
 generalize w7.alloc _=W8 at *;generalize w7.heap.size=bo at *;replace k8:bt b r8 X W8:=⟨_,k8,rP,rfl⟩
 replace b3:bt b bo Z W8:=⟨_,b3,rQ,rfl⟩
 clear rP rQ;have cB:=dc.out;obtain⟨lX,cA,rX,_⟩:=k8;obtain⟨lZ,bi,rZ,_⟩:=b3;obtain⟨sX,pX,rfl⟩:=rX.form;obtain⟨sZ,pZ,rfl⟩:=rZ.form;have cm:decide (Z<0)=false:=Vb (XX.2 (U_ cB));rw[cm] at bi co;obtain⟨e0,e1⟩:=cA.q2;obtain⟨e2,e3⟩:=bi.q2;obtain⟨kQ,ab⟩:=aw W8 #[decide (X<0),.slice sX (dg X.natAbs).length pX,false,.slice sZ (dg Z.natAbs).length pZ] 209;replace V:=V.next ab
 replace rX:=rX.below ab;replace rZ:=rZ.below ab;replace aL:=af ab (HS.out▸aL.size) aL;go_upto_region 11 with fail
 clear e0 e1 e2 e3 ab cA bi;generalize World.alloc _ _=db at *;generalize W8.heap.size=cs at *;have HI:=h_ (co.out db _ _ rX.1 rZ.1);obtain⟨e0,e1,e2,e3⟩:=kQ.q4;go_wp2_with fail
 refine HI.out.mono ?_;rintro e cv ⟨rfl,a5⟩;replace kQ:=kQ.next a5
 replace V:=V.next a5
 replace rX:=rX.below a5;replace rZ:=rZ.below a5;replace aL:=af a5 (HS.out▸aL.size) aL;clear e0 e1 e2 e3 a5 HI co;obtain⟨ok,aa⟩:∃ok,ik X Z=ok:=⟨_,rfl⟩
 rw[aa];have aX:=h_ aa;have dq:=h_ cm;clear aa cm;cases ok
 .
   obtain⟨r0,r1,r2,r3⟩:=V.q4;have g0:=V.frozen 0;have g1:=V.frozen 1;have g2:=V.frozen 2;have g3:=V.frozen 3;have g4:=V.lt;have k9:=(((V.set 0 false).set 1 (.slice none 0 0)).set 2 false).set 3 (.slice none 0 0);have ad:Below S w (((cv.setCell ⟨S+2,0,none⟩ false).setCell ⟨S+2,1,none⟩ (.slice none 0 0)).setCell ⟨S+2,2,none⟩ false |>.setCell ⟨S+2,3,none⟩ (.slice none 0 0)):=(((aL.setCell s_ _).setCell s_ _).setCell s_ _).setCell s_ _;go_wp2;generalize World.setCell _ _ _=w9 at ad k9 ⊢;obtain⟨q0,q1,q2,q3⟩:=k9.q4;refine Uh (v:=.tuple #[.agg #[false,.slice none 0 0,false,.slice none 0 0],false]) Jj rfl ?_;exact⟨⟨.nilFunc,.nilFunc,.inr ⟨aX.out,rfl⟩⟩,HS.out▸ad⟩
 .obtain⟨e0,e1,e2,e3⟩:=kQ.q4;obtain⟨r0,r1,r2,r3⟩:=V.q4;have g0:=V.frozen 0;have g1:=V.frozen 1;have g2:=V.frozen 2;have g3:=V.frozen 3;have g4:=V.lt;have k9:=(((V.set 0 (decide (X<0))).set 1 (.slice sX (dg X.natAbs).length pX)).set 2 false).set 3 (.slice sZ (dg Z.natAbs).length pZ);have ad:Below S w (((cv.setCell ⟨S+2,0,none⟩ (decide (X<0))).setCell ⟨S+2,1,none⟩ (.slice sX (dg X.natAbs).length pX)).setCell ⟨S+2,2,none⟩ false |>.setCell ⟨S+2,3,none⟩ (.slice sZ (dg Z.natAbs).length pZ)):=(((aL.setCell s_ _).setCell s_ _).setCell s_ _).setCell s_ _;have x9:=rX.far d_ V (oL cv (S+2) (decide (X<0)) (.slice sX (dg X.natAbs).length pX) false (.slice sZ (dg Z.natAbs).length pZ));have z9:=rZ.far d_ V (oL cv (S+2) (decide (X<0)) (.slice sX (dg X.natAbs).length pX) false (.slice sZ (dg Z.natAbs).length pZ));go_wp2;generalize World.setCell _ _ _=w9 at ad k9 x9 z9 ⊢;obtain⟨q0,q1,q2,q3⟩:=k9.q4;refine Uh (v:=.tuple #[.agg #[decide (X<0),.slice sX (dg X.natAbs).length pX,false,.slice sZ (dg Z.natAbs).length pZ],true]) Jj rfl ?_;exact⟨⟨_,_,.inl ⟨aX.out,by rw[dq.out],x9,z9⟩⟩,HS.out▸ad⟩):=h
def Kf(h:P:=by
 refine aS.q _ r_ r_ λρ w' H=>?_;obtain⟨v3,e3,p3⟩:=H.dep 3 17 k_;obtain rfl:v3=.agg #[.int .i64 A,.int .i64 B]:=p3;obtain⟨v4,e4,p4⟩:=H.dep 4 18 k_;obtain rfl:v4=.agg #[.bool sx,.slice ax (dg x.natAbs).length cx,.bool sz,.slice az (dg z.natAbs).length cz]:=p4;exact bl.call 283 #[.agg #[A,B],.agg #[sx,.slice ax (dg x.natAbs).length cx,sz,.slice az (dg z.natAbs).length cz]] _ _ _ rfl (H.fn 283) (enters_of Tryz.func283 k_ rfl) (by simp [e3,e4]) ((b7.out w' (af H.bel a9 J)).mono λe w2 ⟨v,h1,h2,h3⟩=>⟨v,h1,h3,h2⟩)):=h
def KV(h:P:=by
 refine aS.q _ r_ r_ λρ w' H=>?_;obtain⟨v0,e0,p0⟩:=H.dep 0 14 k_;obtain rfl:v0=.agg #[.int .i64 A,.int .i64 B]:=p0;obtain⟨v1,e1,p1⟩:=H.dep 1 15 k_;obtain rfl:v1=.agg #[.bool sx,.slice ax (dg x.natAbs).length cx,.bool sz,.slice az (dg z.natAbs).length cz]:=p1;exact bl.call 319 #[.agg #[A,B],.agg #[sx,.slice ax (dg x.natAbs).length cx,sz,.slice az (dg z.natAbs).length cz]] _ _ _ rfl (H.fn 319) (enters_of Tryz.func319 k_ rfl) (by simp [e0,e1]) ((HF.out w' (af H.bel a9 J)).mono λe w2 ⟨v,h1,h2,h3⟩=>⟨v,h1,h3,h2⟩)):=h
def uK(h:P:=by
 refine aS.q _ r_ r_ λρ w' H=>?_;exact Ts _ rfl (H.bas 3 k_) ((kT.next H.bel).cell 0) ((kT.next H.bel).cell 1) ((kT.next H.bel).cell 2) ((kT.next H.bel).cell 3)):=h
def uX(h:P:=by
 refine aS.q _ r_ r_ λρ w' H=>?_;exact Tk _ rfl (H.bas 2 k_) ((kC.next H.bel).cell 0) ((kC.next H.bel).cell 1)):=h
def Tk{o:Oper}{ρ:Operand->Value}{w:World}{r:Nat}{A B:Int}(x:Operand)(Z:o.op=.load 42 x)(hx:ρ x=.pointer (some ⟨r,0,none⟩))(q0:w.cell? ⟨r,0,none⟩=some (.int .i64 A))(q1:w.cell? ⟨r,1,none⟩=some (.int .i64 B)):bl Tryz.prog o ρ w (aV (.agg #[A,B])):=by
 refine .value _ ?_ rfl;unfold execOp;rw[Z];simp [go_sem,hx,q0,q1]
def Ts{o:Oper}{ρ:Operand->Value}{w:World}{r:Nat}{a b c d:Value}(x:Operand)(Z:o.op=.load 209 x)(hx:ρ x=.pointer (some ⟨r,0,none⟩))(q0:w.cell? ⟨r,0,none⟩=some a)(q1:w.cell? ⟨r,1,none⟩=some b)(q2:w.cell? ⟨r,2,none⟩=some c)(q3:w.cell? ⟨r,3,none⟩=some d):bl Tryz.prog o ρ w (aV (.agg #[a,b,c,d])):=by
 refine .value _ ?_ rfl;unfold execOp;rw[Z];simp [go_sem,hx,q0,q1,q2,q3]
def NU(A B x z:Int)(b:Nat)(lx lz:Value)(hA:bj A)(hB:a_ B)(hd:aP A B≠0)(zx:Sz 80 x)(zz:Sz 80 z)(ca:aT A B x z≠0)(w:World)(hb:b<=w.heap.size)(aZ:aW w b lx (dg x.natAbs))(ba:aW w b lz (dg z.natAbs)):
 Kp 284 #[.agg #[A,B],.agg #[decide (x<0),lx,decide (z<0),lz]] w (Lu b (eE A B x z) (ei A B x z) w):=by
 obtain⟨kC,kT,V,J⟩:=fh w #[A,B] 42 #[decide (x<0),lx,decide (z<0),lz] 209 #[false,.slice none 0 0,false,.slice none 0 0] 209;have cb:=h_ aZ;have cc:=h_ ba;obtain⟨ax,cx,rfl⟩:=aZ.form;obtain⟨az,cz,rfl⟩:=ba.form;clear aZ ba;obtain⟨zF,zG⟩:=yt hA hB zx zz;have HF:=h_ (λW (hW:Below w.heap.size w W)=>Rm A B x z b _ _ hA hB zx zz W (Ui hb hW.size) (cb.out.below hW) (cc.out.below hW));have b7:=h_ (λW (hW:Below w.heap.size w W)=>BK A B x z b _ _ hA hB zx zz W (Ui hb hW.size) (cb.out.below hW) (cc.out.below hW));have b8:=(yu x z hA hB hd).2;obtain⟨cy,b1⟩:=Ex hA hB hd ca;by_cases ae:aT A B x z<0
 .have hX:eE A B x z=-bk A B x z / bU A B x z:=by unfold eE;rw[Um ae,D8 b8.1 (uD A B x z)]
  have hZ:ei A B x z=-aT A B x z / bU A B x z:=by unfold ei;rw[Um ae,D8 b8.1 (pC A B x z)]
  rw[hZ] at b1;rw[hX,hZ];have zX:=zF.neg.div b8.1 (Yn.2 (uD A B x z));have zZ:=zG.neg.div b8.1 (Yn.2 (pC A B x z));have co:=h_ (λW lx lz aZ ba=>C5 (-bk A B x z / bU A B x z) (-aT A B x z / bU A B x z) lx lz zX.len zZ.len (U_ b1) W aZ ba);have dc:=h_ b1;have c9:=h_ (λW v u hv hu=>Bg A B (-bk A B x z) (-aT A B x z) v u hA hB hd zF.neg zG.neg W hv hu);rw[show ar (ar (cL A B) (-bk A B x z)) (-aT A B x z)=bU A B x z from by rw[C_,C_];rfl] at c9;have c3:=h_ (λW v h=>nJ (-bk A B x z) (bU A B x z) v (Ui zF.neg.len o_) o_ W h);have bp:=h_ (λW v h=>nJ (-aT A B x z) (bU A B x z) v (Ui zG.neg.len o_) o_ W h);have bv:=h_ (λW v h=>xj (bk A B x z) v (Ui zF.len o_) W h);have bZ:=h_ (λW v h=>xj (aT A B x z) v (Ui zG.len o_) W h);have bq:(((dg (aT A B x z).natAbs).length:Int)==0)=false:=by
   exact zN
  have c7:decide (aT A B x z<0)=true:=V2 ae;have dp:=h_ c7;clear hX hZ b1 cy ae c7 ca zX zZ;generalize -bk A B x z / bU A B x z=X at *;generalize -aT A B x z / bU A B x z=Z at *;generalize -bk A B x z % bU A B x z=d2 at *;generalize -aT A B x z % bU A B x z=dz at *;generalize bU A B x z=D at *;generalize -bk A B x z=T at *;generalize -aT A B x z=U at *;generalize bk A B x z=F at *;generalize aT A B x z=G at *;generalize decide (x<0)=sx at *;generalize decide (z<0)=sz at *;obtain⟨S,hS⟩:∃S,w.heap.size=S:=⟨_,rfl⟩
  go_enter Tryz.func284,Tryz.ntmps284;go_upto_region 1 with fail
  generalize ((w.alloc _).alloc _).alloc _=W at *;rw[hS] at kC kT V J hb HF b7;have HS:=h_ hS;clear hS;have a9:S<=W.heap.size:=Uo kC.lt;have cu:=V.lt;have aG:b<=W.heap.size:=Ui hb a9;refine iZ 8 [6,7] [(6,6),(7,7),(0,14),(1,15),(2,16),(3,17),(4,18),(5,19)] [aV (.agg #[A,B]),aV (.agg #[sx,.slice ax (dg x.natAbs).length cx,sz,.slice az (dg z.natAbs).length cz]),Wh b F,aV (.agg #[A,B]),aV (.agg #[sx,.slice ax (dg x.natAbs).length cx,sz,.slice az (dg z.natAbs).length cz]),Wh b G,PA W.heap.size #[false,.slice none 0 0] 182,PA W.heap.size #[false,.slice none 0 0] 182] k_ k_ k_ ⟨⟨_,_,_,rfl⟩,⟨_,_,_,rfl⟩,trivial⟩ ⟨aV.closed _,aV.closed _,Wh.closed _ _,aV.closed _,aV.closed _,Wh.closed _ _,PA.closed _ _ _,PA.closed _ _ _,trivial⟩ ⟨?_,?_,?_,?_,?_,?_,?_,?_,trivial⟩ ?_
  .exact uX
  .exact uK
  .exact KV
  .exact uX
  .exact uK
  .exact Kf
  .exact kl
  .exact kl
  intro vs Wt aM bb;have b2:(Wh b F) (vs 2) Wt:=bb.1 2 o_;have cX:(Wh b G) (vs 5) Wt:=bb.1 5 o_;have dy:(PA W.heap.size #[false,.slice none 0 0] 182) (vs 6) Wt:=bb.1 6 o_;have c2:(PA W.heap.size #[false,.slice none 0 0] 182) (vs 7) Wt:=bb.1 7 o_;obtain⟨r6,c8,b0,a1⟩:=dy;obtain⟨r7,b6,a3,a2⟩:=c2;have bs:r7≠r6:=λh=>bb.2 7 6 o_ o_ o_ s_ s_ (by rw[b6,c8,h]);clear bb;simp only[ew,Nat.reduceBEq,VK,VD,Nat.reduceAdd,UI,U0,c8,b6];obtain⟨d0,c5,cM,da⟩:=b2.cell;obtain⟨bY,bX,rfl,_⟩:=id cM.1;simp only[c5];obtain⟨dd,b5,bz,b4⟩:=cX.cell;obtain⟨a6,a4,rfl,_⟩:=id bz.1;simp only[b5];obtain⟨x0,x1⟩:=a1.q2;have x2:=a1.frozen 0;have x3:=a1.frozen 1;have x4:=a1.lt;obtain⟨y0,y1⟩:=a2.q2;have y2:=a2.frozen 0;have y3:=a2.frozen 1;have y4:=a2.lt;have kF:bt b r6 F ((Wt.setCell ⟨r6,0,none⟩ (decide (F<0))).setCell ⟨r6,1,none⟩ (.slice bY (dg F.natAbs).length bX)):=bt.put a1 rfl cM da;have kk:=(a2.far (p:=⟨r6,0,none⟩) bs (decide (F<0))).far (p:=⟨r6,1,none⟩) bs (.slice bY (dg F.natAbs).length bX);have bx:Below W.heap.size W ((Wt.setCell ⟨r6,0,none⟩ (decide (F<0))).setCell ⟨r6,1,none⟩ (.slice bY (dg F.natAbs).length bX)):=(aM.setCell b0 _).setCell b0 _;have b9:aW ((Wt.setCell ⟨r6,0,none⟩ (decide (F<0))).setCell ⟨r6,1,none⟩ (.slice bY (dg F.natAbs).length bX)) b (.slice a6 (dg G.natAbs).length a4) (dg G.natAbs):=bz.far d_ a1 (ke _ _ _ _);replace kF:=kF.far (Ne.symm bs) kk (decide (G<0)) (.slice a6 (dg G.natAbs).length a4);have kG:bt b r7 G ((((Wt.setCell ⟨r6,0,none⟩ (decide (F<0))).setCell ⟨r6,1,none⟩ (.slice bY (dg F.natAbs).length bX)).setCell ⟨r7,0,none⟩ (decide (G<0))).setCell ⟨r7,1,none⟩ (.slice a6 (dg G.natAbs).length a4)):=bt.put kk rfl b9 b4;have g:Below W.heap.size W ((((Wt.setCell ⟨r6,0,none⟩ (decide (F<0))).setCell ⟨r6,1,none⟩ (.slice bY (dg F.natAbs).length bX)).setCell ⟨r7,0,none⟩ (decide (G<0))).setCell ⟨r7,1,none⟩ (.slice a6 (dg G.natAbs).length a4)):=(bx.setCell (p:=⟨r7,0,none⟩) a3 _).setCell (p:=⟨r7,1,none⟩) a3 _;replace V:=V.next g
  replace kC:=kC.next g
  replace J:Below S w _:=af g a9 J;replace aG:=Ui aG g.size;replace a9:=Ui a9 g.size;clear b2 cX aM a1 a2 c5 cM da b5 bz b4 kk bx b9;clear kT;go_upto_region 2 with fail
  generalize (World.setCell (World.setCell (World.setCell (World.setCell _ _ _) _ _) _ _) _ _)=W2 at *;clear x0 x1 x2 x3 x4 y0 y1 y2 y3 y4 g;have d4:S+2<r6:=Un cu b0;have d1:S+2<r7:=Un cu a3;clear b0 a3 cu;have gU:=kG;obtain⟨d3,cG,c4,_⟩:=gU;obtain⟨dx,dl,rfl⟩:=c4.form;have y0:W2.cell? ⟨r7,0,none⟩=some (.bool true):=dp.out▸cG.cell 0;have y1:W2.cell? ⟨r7,1,none⟩=some (.slice dx (dg G.natAbs).length dl):=cG.cell 1;have aL:=J;clear J cG c4;go_upto_region 5 with fail
  clear y0 y1;obtain⟨lF,I,rF,_⟩:=kF;obtain⟨sF,pF,rfl⟩:=rF.form;obtain⟨f0,f1⟩:=I.q2;go_wp2_with fail
  refine (bv.out W2 (.agg #[decide (F<0),.slice sF (dg F.natAbs).length pF]) ⟨_,rfl,rF.1⟩).mono ?_;rintro e w3 ⟨v3,rfl,a8,aF⟩;replace a8:=a8.le (Ui hb (HS.out▸aL.size));obtain⟨lT,rfl,rT,cT⟩:=a8.cell;obtain⟨sT,pT,rfl⟩:=rT.form;have cZ:S<=r6:=o_;replace aL:=af aF (HS.out▸aL.size) aL;replace I:=I.next aF
  replace kG:=kG.next aF
  replace V:=V.next aF
  replace kC:=kC.next aF
  clear f0 f1 aF a8 rF;obtain⟨x0,x1⟩:=I.q2;have x2:=I.frozen 0;have x3:=I.frozen 1;have x4:=I.lt;have k1:bt b r6 T ((w3.setCell ⟨r6,0,none⟩ (decide (T<0))).setCell ⟨r6,1,none⟩ (.slice sT (dg T.natAbs).length pT)):=bt.put I rfl rT cT;have k2:=kG.far o_ I (decide (T<0)) (.slice sT (dg T.natAbs).length pT);replace V:=(V.far (p:=⟨r6,0,none⟩) (by show S+2≠r6;omega) (decide (T<0))).far (p:=⟨r6,1,none⟩) (by show S+2≠r6;omega) (.slice sT (dg T.natAbs).length pT);replace kC:=(kC.far (p:=⟨r6,0,none⟩) (by show S≠r6;omega) (decide (T<0))).far (p:=⟨r6,1,none⟩) (by show S≠r6;omega) (.slice sT (dg T.natAbs).length pT);replace aL:Below S w _:=(aL.setCell (p:=⟨r6,0,none⟩) cZ (decide (T<0))).setCell (p:=⟨r6,1,none⟩) cZ (.slice sT (dg T.natAbs).length pT);clear rT cT I cZ;replace kG:=k2;replace kF:=k1;clear k1 k2;go_upto_region 6 with fail
  generalize (World.setCell (World.setCell _ _ _) _ _)=W4 at *;obtain⟨lF,I,rF,_⟩:=kG;obtain⟨sF,pF,rfl⟩:=rF.form;obtain⟨f0,f1⟩:=I.q2;go_wp2_with fail
  refine (bZ.out W4 (.agg #[decide (G<0),.slice sF (dg G.natAbs).length pF]) ⟨_,rfl,rF.1⟩).mono ?_;rintro e w5 ⟨v3,rfl,a8,aF⟩;replace a8:=a8.le (Ui hb (HS.out▸aL.size));obtain⟨lT,rfl,rT,cT⟩:=a8.cell;obtain⟨sT,pT,rfl⟩:=rT.form;have cZ:S<=r7:=o_;replace aL:=af aF (HS.out▸aL.size) aL;replace I:=I.next aF
  replace kF:=kF.next aF
  replace V:=V.next aF
  replace kC:=kC.next aF
  clear f0 f1 aF a8 rF;obtain⟨x0,x1⟩:=I.q2;have x2:=I.frozen 0;have x3:=I.frozen 1;have x4:=I.lt;have k1:bt b r7 U ((w5.setCell ⟨r7,0,none⟩ (decide (U<0))).setCell ⟨r7,1,none⟩ (.slice sT (dg U.natAbs).length pT)):=bt.put I rfl rT cT;have k2:=kF.far o_ I (decide (U<0)) (.slice sT (dg U.natAbs).length pT);replace V:=(V.far (p:=⟨r7,0,none⟩) (by show S+2≠r7;omega) (decide (U<0))).far (p:=⟨r7,1,none⟩) (by show S+2≠r7;omega) (.slice sT (dg U.natAbs).length pT);replace kC:=(kC.far (p:=⟨r7,0,none⟩) (by show S≠r7;omega) (decide (U<0))).far (p:=⟨r7,1,none⟩) (by show S≠r7;omega) (.slice sT (dg U.natAbs).length pT);replace aL:Below S w _:=(aL.setCell (p:=⟨r7,0,none⟩) cZ (decide (U<0))).setCell (p:=⟨r7,1,none⟩) cZ (.slice sT (dg U.natAbs).length pT);clear rT cT I cZ;replace kF:=k2;replace kG:=k1;clear k1 k2;go_upto_region 7 with fail
  generalize (World.setCell (World.setCell _ _ _) _ _)=W3 at *;exact Li
 .have hX:eE A B x z=bk A B x z / bU A B x z:=by unfold eE;rw[Uj ae]
  have hZ:ei A B x z=aT A B x z / bU A B x z:=by unfold ei;rw[Uj ae]
  rw[hZ] at b1;rw[hX,hZ];have zX:=zF.div b8.1 (uD A B x z);have zZ:=zG.div b8.1 (pC A B x z);have co:=h_ (λW lx lz aZ ba=>C5 (bk A B x z / bU A B x z) (aT A B x z / bU A B x z) lx lz zX.len zZ.len (U_ b1) W aZ ba);have dc:=h_ b1;have c9:=h_ (λW v u hv hu=>Bg A B (bk A B x z) (aT A B x z) v u hA hB hd zF zG W hv hu);rw[show ar (ar (cL A B) (bk A B x z)) (aT A B x z)=bU A B x z from rfl] at c9;have c3:=h_ (λW v h=>nJ (bk A B x z) (bU A B x z) v (Ui zF.len o_) o_ W h);have bp:=h_ (λW v h=>nJ (aT A B x z) (bU A B x z) v (Ui zG.len o_) o_ W h);have bq:(((dg (aT A B x z).natAbs).length:Int)==0)=false:=by
   exact zN
  have c7:decide (aT A B x z<0)=false:=Vb ae;have dp:=h_ c7;clear hX hZ b1 cy ae c7 ca;generalize bk A B x z / bU A B x z=X at *;generalize aT A B x z / bU A B x z=Z at *;generalize bk A B x z % bU A B x z=d2 at *;generalize aT A B x z % bU A B x z=dz at *;generalize bU A B x z=D at *;generalize bk A B x z=T at *;generalize aT A B x z=U at *;generalize decide (x<0)=sx at *;generalize decide (z<0)=sz at *;obtain⟨S,hS⟩:∃S,w.heap.size=S:=⟨_,rfl⟩
  go_enter Tryz.func284,Tryz.ntmps284;go_upto_region 1 with fail
  generalize ((w.alloc _).alloc _).alloc _=W at *;rw[hS] at kC kT V J hb HF b7;have HS:=h_ hS;clear hS;have a9:S<=W.heap.size:=Uo kC.lt;have cu:=V.lt;have aG:b<=W.heap.size:=Ui hb a9;refine iZ 8 [6,7] [(6,6),(7,7),(0,14),(1,15),(2,16),(3,17),(4,18),(5,19)] [aV (.agg #[A,B]),aV (.agg #[sx,.slice ax (dg x.natAbs).length cx,sz,.slice az (dg z.natAbs).length cz]),Wh b T,aV (.agg #[A,B]),aV (.agg #[sx,.slice ax (dg x.natAbs).length cx,sz,.slice az (dg z.natAbs).length cz]),Wh b U,PA W.heap.size #[false,.slice none 0 0] 182,PA W.heap.size #[false,.slice none 0 0] 182] k_ k_ k_ ⟨⟨_,_,_,rfl⟩,⟨_,_,_,rfl⟩,trivial⟩ ⟨aV.closed _,aV.closed _,Wh.closed _ _,aV.closed _,aV.closed _,Wh.closed _ _,PA.closed _ _ _,PA.closed _ _ _,trivial⟩ ⟨?_,?_,?_,?_,?_,?_,?_,?_,trivial⟩ ?_
  .exact uX
  .exact uK
  .exact KV
  .exact uX
  .exact uK
  .exact Kf
  .exact kl
  .exact kl
  intro vs Wt aM bb;have b2:(Wh b T) (vs 2) Wt:=bb.1 2 o_;have cX:(Wh b U) (vs 5) Wt:=bb.1 5 o_;have dy:(PA W.heap.size #[false,.slice none 0 0] 182) (vs 6) Wt:=bb.1 6 o_;have c2:(PA W.heap.size #[false,.slice none 0 0] 182) (vs 7) Wt:=bb.1 7 o_;obtain⟨r6,c8,b0,a1⟩:=dy;obtain⟨r7,b6,a3,a2⟩:=c2;have bs:r7≠r6:=λh=>bb.2 7 6 o_ o_ o_ s_ s_ (by rw[b6,c8,h]);clear bb;simp only[ew,Nat.reduceBEq,VK,VD,Nat.reduceAdd,UI,U0,c8,b6];obtain⟨d0,c5,cM,da⟩:=b2.cell;obtain⟨bY,bX,rfl,_⟩:=id cM.1;simp only[c5];obtain⟨dd,b5,bz,b4⟩:=cX.cell;obtain⟨a6,a4,rfl,_⟩:=id bz.1;simp only[b5];obtain⟨x0,x1⟩:=a1.q2;have x2:=a1.frozen 0;have x3:=a1.frozen 1;have x4:=a1.lt;obtain⟨y0,y1⟩:=a2.q2;have y2:=a2.frozen 0;have y3:=a2.frozen 1;have y4:=a2.lt;have kF:bt b r6 T ((Wt.setCell ⟨r6,0,none⟩ (decide (T<0))).setCell ⟨r6,1,none⟩ (.slice bY (dg T.natAbs).length bX)):=bt.put a1 rfl cM da;have kk:=(a2.far (p:=⟨r6,0,none⟩) bs (decide (T<0))).far (p:=⟨r6,1,none⟩) bs (.slice bY (dg T.natAbs).length bX);have bx:Below W.heap.size W ((Wt.setCell ⟨r6,0,none⟩ (decide (T<0))).setCell ⟨r6,1,none⟩ (.slice bY (dg T.natAbs).length bX)):=(aM.setCell b0 _).setCell b0 _;have b9:aW ((Wt.setCell ⟨r6,0,none⟩ (decide (T<0))).setCell ⟨r6,1,none⟩ (.slice bY (dg T.natAbs).length bX)) b (.slice a6 (dg U.natAbs).length a4) (dg U.natAbs):=bz.far d_ a1 (ke _ _ _ _);replace kF:=kF.far (Ne.symm bs) kk (decide (U<0)) (.slice a6 (dg U.natAbs).length a4);have kG:bt b r7 U ((((Wt.setCell ⟨r6,0,none⟩ (decide (T<0))).setCell ⟨r6,1,none⟩ (.slice bY (dg T.natAbs).length bX)).setCell ⟨r7,0,none⟩ (decide (U<0))).setCell ⟨r7,1,none⟩ (.slice a6 (dg U.natAbs).length a4)):=bt.put kk rfl b9 b4;have g:Below W.heap.size W ((((Wt.setCell ⟨r6,0,none⟩ (decide (T<0))).setCell ⟨r6,1,none⟩ (.slice bY (dg T.natAbs).length bX)).setCell ⟨r7,0,none⟩ (decide (U<0))).setCell ⟨r7,1,none⟩ (.slice a6 (dg U.natAbs).length a4)):=(bx.setCell (p:=⟨r7,0,none⟩) a3 _).setCell (p:=⟨r7,1,none⟩) a3 _;replace V:=V.next g
  replace kC:=kC.next g
  replace J:Below S w _:=af g a9 J;replace aG:=Ui aG g.size;replace a9:=Ui a9 g.size;clear b2 cX aM a1 a2 c5 cM da b5 bz b4 kk bx b9;clear kT;go_upto_region 2 with fail
  generalize (World.setCell (World.setCell (World.setCell (World.setCell _ _ _) _ _) _ _) _ _)=W2 at *;clear x0 x1 x2 x3 x4 y0 y1 y2 y3 y4 g;have d4:S+2<r6:=Un cu b0;have d1:S+2<r7:=Un cu a3;clear b0 a3 cu;have gU:=kG;obtain⟨d3,cG,c4,_⟩:=gU;obtain⟨dx,dl,rfl⟩:=c4.form;have y0:W2.cell? ⟨r7,0,none⟩=some (.bool false):=dp.out▸cG.cell 0;have y1:W2.cell? ⟨r7,1,none⟩=some (.slice dx (dg U.natAbs).length dl):=cG.cell 1;have aL:=J;go_upto_region 7 with fail
  clear y0 y1 cG c4 J;generalize W2=W3 at *;exact Li
def vN(h:P:=by simp [results,Tryz.results236,go_sem]):=h
def Tryz.infoRt:(Tryz.prog.info? 209).map (λi=>(i.zero,i.size,i.bytes))=some (some (.agg #[false,.slice none 0 0,false,.slice none 0 0]),4,64):=by kernel_rfl
def pK(w:World)(G:Nat)(v:Value)(k:Nat)(x z:Int):Prop:=∃L lx lz,w.ownsRow G 209 4 v (k+1) (L++[.bool (decide (x<0)),lx,.bool (decide (z<0)),lz])/\L.length=k*4/\aW w G lx (dg x.natAbs)/\aW w G lz (dg z.natAbs)
def pK.form{w}{G k}{v}{x z}(h:pK w G v k x z):∃g F ax cx az cz,v=.slice (some ⟨g,0,none⟩) (k+1) F/\g<w.heap.size/\G<=g/\w.cell? ⟨g,k*4,none⟩=some (.bool (decide (x<0)))/\w.cell? ⟨g,k*4+1,none⟩=some (.slice ax (dg x.natAbs).length cx)/\w.cell? ⟨g,k*4+2,none⟩=some (.bool (decide (z<0)))/\w.cell? ⟨g,k*4+3,none⟩=some (.slice az (dg z.natAbs).length cz)/\aW w G (.slice ax (dg x.natAbs).length cx) (dg x.natAbs)/\aW w G (.slice az (dg z.natAbs).length cz) (dg z.natAbs):=by
 have⟨L,lx,lz,h1,h2,h3,h4⟩:=h;obtain⟨ax,cx,rfl⟩:=h3.form;obtain⟨az,cz,rfl⟩:=h4.form;obtain⟨a,F,rfl,_,hc⟩:=nD h1;obtain⟨g,rfl,hl,dd,_,hk⟩:=hc k o_;have e:∀j,j<4->(L++[Value.bool (decide (x<0)),.slice ax (dg x.natAbs).length cx,.bool (decide (z<0)),.slice az (dg z.natAbs).length cz])[k*4+j]?=[Value.bool (decide (x<0)),.slice ax (dg x.natAbs).length cx,.bool (decide (z<0)),.slice az (dg z.natAbs).length cz][j]?:=λj _=>by
  rw[Vk o_,h2];congr 1;omega
 exact⟨g,F,ax,cx,az,cz,rfl,hl,dd,hk 0 _ o_ (e 0 o_),hk 1 _ o_ (e 1 o_),hk 2 _ o_ (e 2 o_),hk 3 _ o_ (e 3 o_),h3,h4⟩
def S5(x z:Int)(hx:-1000000<=x/\x<=1000000)(hz:-1000000<=z/\z<=1000000)(w):
 Kp 282 #[x,z] w λe w'=>∃v,e=.returned v/\oD w x z v w'/\Below w w w':=by
 have⟨V,J⟩:=aw w #[false,.slice none 0 0,false,.slice none 0 0] 209;obtain⟨S,hS⟩:∃S,w.heap.size=S:=⟨_,rfl⟩
 go_enter Tryz.func282,Tryz.ntmps282;go_upto_region 1 with fail
 generalize w.alloc _=W at *;rw[hS] at V J;have HS:=h_ hS;have a9:=HS.out▸J.size;go_wp2_with fail
 refine ((h_ (rf x o_)).out _).mono ?_;rintro e w1 ⟨v1,rfl,cQ,I⟩;obtain⟨l1,rfl,q1,_⟩:=(cQ.le a9).cell;obtain⟨a1,c1,rfl⟩:=q1.form;have H:=af I a9 J;have bz:=Ui a9 I.size;replace V:=V.next I
 go_wp2_with fail
 refine ((h_ (rf z o_)).out _).mono ?_;rintro e w2 ⟨v2,rfl,a8,U⟩;obtain⟨l2,rfl,q2,_⟩:=(a8.le bz).cell;obtain⟨a2,c2,rfl⟩:=q2.form;replace V:=V.next U
 replace q1:=q1.below U;have⟨x0,x1,x2,x3⟩:=V.q4;have y0:=V.frozen 0;have y1:=V.frozen 1;have y2:=V.frozen 2;have y3:=V.frozen 3;have k9:=qb.put V rfl q1 q2;have ad:Below S w _:=(((((af U bz H).setCell (p:=S) (Ug _) (decide (x<0))).setCell (p:=⟨S,1,none⟩) (Ug _) (.slice a1 (dg x.natAbs).length c1)).setCell (p:=⟨S,2,none⟩) (Ug _) (decide (z<0))).setCell (p:=⟨S,3,none⟩) (Ug _) (.slice a2 (dg z.natAbs).length c2))
 go_wp2;generalize World.setCell _ _ _=w9 at ad k9 ⊢;have⟨m1,m2,k9,q3,q4⟩:=k9;obtain⟨a3,c3,rfl⟩:=q3.form;obtain⟨a4,c4,rfl⟩:=q4.form;have⟨z0,z1,z2,z3⟩:=k9.q4;refine Uh (v:=.agg #[decide (x<0),.slice a3 (dg x.natAbs).length c3,decide (z<0),.slice a4 (dg z.natAbs).length c4]) (by simp [results,Tryz.results282,go_sem,HS.out,z0,z1,z2,z3]) rfl ?_;rw[HS.out];exact⟨_,rfl,⟨_,_,rfl,q3,q4⟩,ad⟩
def ag.ne{r r'}{I F}{T g}{w}(h:ag r I T w)(J:ag r' F g w)(hT:T≠g):r≠r':=by
 rintro rfl;unfold ag at h J;rw[h] at J;injection J with J;injection J with _ h2;exact hT h2
def PS{w:World}{G e k:Nat}{v c0 c1 c2 c3:Value}{L}(h:w.ownsRow G e 4 v (k+1) (L++[c0,c1,c2,c3]))(hL:L.length=k*4):∃g F,v=.slice (some ⟨g,0,none⟩) (k+1) F/\g<w.heap.size/\G<=g/\w.cell? ⟨g,k*4,none⟩=some c0/\w.cell? ⟨g,k*4+1,none⟩=some c1/\w.cell? ⟨g,k*4+2,none⟩=some c2/\w.cell? ⟨g,k*4+3,none⟩=some c3:=by
 obtain⟨a,F,rfl,_,hc⟩:=nD h;obtain⟨g,rfl,hl,dd,_,hk⟩:=hc k o_;have e:∀j,j<4->(L++[c0,c1,c2,c3])[k*4+j]?=[c0,c1,c2,c3][j]?:=λj _=>by
  rw[Vk o_,hL];congr 1;omega
 exact⟨g,F,rfl,hl,dd,hk 0 _ o_ (e 0 o_),hk 1 _ o_ (e 1 o_),hk 2 _ o_ (e 2 o_),hk 3 _ o_ (e 3 o_)⟩
def Uf(r:Option (Option (Int×Int)))(n:Nat)(w:World)(e:Ending)(w':World):Prop:=∃v K,e=.returned (.tuple #[v,.bool K])/\Below w w w'/\(match r with|none=>K=false/\∃a m c,v=.slice a m c/\m<=n|some none=>K=true|some (some p)=>K=false/\pK w' w v n p.1 p.2)
def Ov(A B X Y E:Int)(n:Nat)(hA:bj A)(hB:a_ B)(hd:aP A B≠0)(hX:a_ X)(hE:0<=E/\E<=20)(hn:n<=5)(w):
 Kp 236 #[.agg #[A,B],.agg #[X,Y,E],n] w (Uf (jz A B X E n) n w):=by
 have⟨kC,kP,J⟩:=cr w #[A,B] 42 #[X,Y,E] 46;have HV:Hid (jz A B X E n=if E=0 then some none else dQ A B n X (E*E)):=rfl;rw[HV.out];by_cases ae:E=0
 .subst ae;rw[Um rfl];go_enter Tryz.func236,Tryz.ntmps236;go_upto_region 1 with fail
  generalize (w.alloc _).alloc _=W at *;have⟨_,_,bX⟩:=kP.q3;go_wp2;exact Uh (v:=.tuple #[.slice none 0 0,true]) vN rfl ⟨_,_,rfl,J,rfl⟩
 .rw[Uj ae];have ba:(E==0)=false:=by simpa using ae
  have b7:=aJ (x:=E) (y:=E) 20 20 o_ o_;have b8:-9223372036854775808<=E*E/\E*E<=9223372036854775807:=o_;have HO:=h_ (S5 X (E*E) o_ o_);obtain⟨S,hS⟩:∃S,w.heap.size=S:=⟨_,rfl⟩
  go_enter Tryz.func236,Tryz.ntmps236;go_upto_region 1 with fail
  generalize (w.alloc _).alloc _=W at *;rw[hS] at kC kP J;have HS:=h_ hS;have⟨bY,bZ,bX⟩:=kP.q3;have b0:=kP.lt;have a9:=HS.out▸J.size;go_upto_region 3 with fail
  go_wp2_with fail
  refine (HO.out _).mono ?_;rintro e w1 ⟨v1,rfl,⟨l1,l2,rfl,q1,q2⟩,I⟩;obtain⟨a1,c1,rfl⟩:=q1.form;obtain⟨a2,c2,rfl⟩:=q2.form;have H:=af I a9 J;have bz:=Ui a9 I.size;have ab:Below w1 w1 (w1.alloc (.cells #[decide (X<0),.slice a1 (dg X.natAbs).length c1,decide (E*E<0),.slice a2 (dg (E*E).natAbs).length c2] 209)):=(Uk _ _).alloc (Ug _) _;have ob:=ur (Cz w1 209 4 [.bool (decide (X<0)),.slice a1 (dg X.natAbs).length c1,.bool (decide (E*E<0)),.slice a2 (dg (E*E).natAbs).length c2] rfl) bz;have aL:=af ab bz H;replace kC:=(kC.next I).next ab
  have kO:pK (w1.alloc (.cells #[decide (X<0),.slice a1 (dg X.natAbs).length c1,decide (E*E<0),.slice a2 (dg (E*E).natAbs).length c2] 209)) S (.slice w1 1 1) 0 X (E*E):=⟨[],_,_,ob,rfl,(q1.le a9).below ab,(q2.le a9).below ab⟩
  go_upto_region 4 with fail
  generalize w1.alloc _=W4,w1.heap.size=g0 at *;have ca:Sz 80 X:=by unfold Sz;omega
  have b5:Sz 80 (E*E):=by unfold Sz;omega
  have HG:=h_ (λW x z lx lz (zx:Sz 80 x) (zz:Sz 80 z) (h0:S<=W.heap.size) h1 h2=>BK A B x z S lx lz hA hB zx zz W h0 h1 h2);have HD:=h_ (λW x z lx lz (zx:Sz 80 x) (zz:Sz 80 z) (hg:aT A B x z≠0) (h0:S<=W.heap.size) h1 h2=>NU A B x z S lx lz hA hB hd zx zz hg W h0 h1 h2);generalize b6:E*E=EE at *;have HQ:=h_ b6;go_loopw [2,8] (λiv v wr=>∃(i k:Nat) (x z:Int),i+k=n/\iv=.int .i64 i/\pK wr S v k x z/\ag S #[A,B] 42 wr/\Sz 80 x/\Sz 80 z/\Hid (dQ A B n X EE=dQ A B i x z)/\Below S w wr) (λiv _ _=>(intOf iv).toNat)
  case atStart=>exact⟨n,0,X,EE,by omega,rfl,kO,kC,ca,b5,rfl,aL⟩
  case round=>
   obtain⟨i,k,x,z,hi,rfl,⟨L,lx,lz,V,hL,rx,rz⟩,kC,zx,zz,HE,aL⟩:=hrel;obtain⟨ax,cx,rfl⟩:=rx.form;obtain⟨az,cz,rfl⟩:=rz.form
   rename World=>wr
   have ad:=HS.out▸aL.size;obtain⟨g,F,rfl,bq,b9,g0,g1,g2,g3⟩:=PS V hL;by_cases aG:0<i
   .have cy:((k+1:Nat):Int) - 1=(k:Int):=o_;have cc:=CI;obtain⟨m,hm⟩:∃m,i=m+1:=⟨i - 1,by omega⟩
    have bv:Hid (dQ A B n X EE=if aT A B x z=0 then some none else if ik (eE A B x z) (ei A B x z)=true then dQ A B m (eE A B x z) (ei A B x z) else none):=h_ (by rw[HE.out,hm];rfl);have⟨k9,ab⟩:=aw wr #[decide (x<0),.slice ax (dg x.natAbs).length cx,decide (z<0),.slice az (dg z.natAbs).length cz] 209;replace aL:=af ab ad aL;replace kC:=kC.next ab
    replace rx:=rx.below ab;replace rz:=rz.below ab;replace V:=qv V ab;have K:=Ui ad ab.size;go_upto_region 7 with fail
    generalize wr.alloc _=W5 at *;generalize wr.heap.size=r9 at *;have H1:=h_ (HG.out W5 x z _ _ zx zz K rx rz);obtain⟨d0,d1,d2,d3⟩:=k9.q4;obtain⟨a4,a3⟩:=kC.q2;have a5:=kC.lt;by_cases hg:aT A B x z=0
    .have HV:Hid (dQ A B n X EE=some none):=h_ (by rw[bv.out,Um hg]);have bi:(((dg (aT A B x z).natAbs).length:Int)==0)=true:=by rw[hg,Yg,iB];rfl
     clear bv HD HG hg V;generalize aT A B x z=G at *;generalize decide (x<0)=sx at *;generalize decide (z<0)=sz at *;go_wp2_with fail
     refine H1.out.mono ?_;rintro e w2 ⟨v,rfl,a8,U⟩;obtain⟨lG,rfl,rG,cG⟩:=a8.cell;obtain⟨sG,pG,rfl⟩:=rG.form;go_wp2;refine Uh (v:=.tuple #[.slice (some ⟨g,0,none⟩) (k+1) F,true]) vN rfl ?_;refine⟨_,_,rfl,HS.out▸af U K aL,?_⟩;rw[HV.out]
    .have H2:=h_ (λW=>HD.out W x z (.slice ax (dg x.natAbs).length cx) (.slice az (dg z.natAbs).length cz) zx zz hg);have bi:(((dg (aT A B x z).natAbs).length:Int)==0)=false:=by
      exact Jb
     have b4:Hid (dQ A B n X EE=if ik (eE A B x z) (ei A B x z)=true then dQ A B m (eE A B x z) (ei A B x z) else none):=h_ (by rw[bv.out,Uj hg]);have a6:=yk (x:=eE A B x z) (z:=ei A B x z);clear bv HD HG hg zx zz;generalize eE A B x z=X1 at *;generalize ei A B x z=Z1 at *;generalize aT A B x z=G at *;generalize decide (x<0)=sx at *;generalize decide (z<0)=sz at *;generalize (dg x.natAbs).length=nx at *;generalize (dg z.natAbs).length=nz at *;go_wp2_with fail
     refine H1.out.mono ?_;rintro e w2 ⟨v,rfl,a8,U⟩;obtain⟨lG,rfl,rG,cG⟩:=a8.cell;obtain⟨sG,pG,rfl⟩:=rG.form;replace aL:=af U K aL;replace K:=Ui K U.size;replace kC:=kC.next U
     replace k9:=k9.next U
     replace rx:=rx.below U;replace rz:=rz.below U;replace V:=qv V U;clear a4 a3 a5 d0 d1 d2 d3 U H1 a8 rG cG;obtain⟨a4,a3⟩:=kC.q2;have a5:=kC.lt;obtain⟨d0,d1,d2,d3⟩:=k9.q4;go_upto_region 9 with fail
     go_wp2_with fail
     refine (H2.out w2 K rx rz).mono ?_;rintro e w3 ⟨⟨lX,lZ,b2⟩,aF⟩;clear rx rz H2 d0 d1 d2 d3 a4 a3 a5 k9;replace aL:=af aF K aL;replace K:=Ui K aF.size;replace kC:=kC.next aF
     replace V:=qv V aF;rcases b2 with ⟨aa,rfl,rX,rZ⟩|⟨aa,rfl⟩
     .obtain⟨aX,cX,rfl⟩:=rX.form;obtain⟨aZ,cZ,rfl⟩:=rZ.form;have cb:Hid (dQ A B n X EE=dQ A B m X1 Z1):=h_ (by rw[b4.out,Um aa]);have⟨zx,zz⟩:=a6 aa;have⟨b3,ab⟩:=aw w3 #[decide (X1<0),.slice aX (dg X1.natAbs).length cX,decide (Z1<0),.slice aZ (dg Z1.natAbs).length cZ] 209;replace aL:=af ab K aL;replace K:=Ui K ab.size;replace kC:=kC.next ab
      replace rX:=rX.below ab;replace rZ:=rZ.below ab;replace V:=qv V ab;go_upto_region 12 with fail
      generalize w3.alloc _=W6,w3.heap.size=bo at *;have⟨e0,e1,e2,e3⟩:=b3.q4;have⟨aM,kg⟩:=qM V g rfl;have ac:=ag.ne kC kg d_;go_wp2_with (at_builtin;refine Bw 209 203 4 64 _ rfl _ _ rfl Tryz.infoRt Tryz.underlying203 rfl d_ d_ S _ (k+1) (L++[.bool sx,.slice ax nx cx,.bool sz,.slice az nz cz]) rfl V [.bool (decide (X1<0)),.slice aX (dg X1.natAbs).length cX,.bool (decide (Z1<0)),.slice aZ (dg Z1.natAbs).length cZ] rfl (by intro u hu;simp at hu;rcases hu with rfl|rfl|rfl|rfl<;>rfl) rfl o_ K ?_;intro v' w7 bx bs a7 _)
      have b1:ah [g] W6 w7:=bs;replace kC:=kC.over b1 (by simpa using ac);replace rX:=rX.far d_ kg b1;replace rZ:=rZ.far d_ kg b1;replace aL:=b1.belowGe aL (HS.out▸K) (λk' Z=>by simp at Z;rw[Z];exact b9);go_wp2;go_roundw
      case rel=>exact⟨m,k+1,X1,Z1,by omega,by go_num,⟨_,_,_,bx,by simp [hL];omega,rX,rZ⟩,kC,zx,zz,cb,aL⟩
      case measure=>exact aO
     .have HV:Hid (dQ A B n X EE=none):=h_ Ho;have ab:Below w3 w3 (w3.alloc (.cells #[false,.slice none 0 0,false,.slice none 0 0] 209)):=(Uk _ _).alloc (Ug _) _;replace aL:=af ab K aL;go_upto_region 10 with fail
      generalize w3.alloc _=W6 at *;go_wp2;refine Uh (v:=.tuple #[.slice (some ⟨g,0,none⟩) (k+1) F,false]) vN rfl ⟨_,_,rfl,HS.out▸aL,?_⟩;rw[HV.out];exact⟨rfl,_,_,_,rfl,by omega⟩
   .have bp:¬(0:Int)<(i:Int):=o_;have bb:i=0:=o_;obtain rfl:k=n:=by omega
    have HV:Hid (dQ A B k X EE=some (some (x,z))):=h_ (by rw[HE.out,bb];rfl);have kO:pK wr S (.slice g (k+1) F) k x z:=⟨L,_,_,V,hL,rx,rz⟩
    go_wp2;refine Uh (v:=.tuple #[.slice (some ⟨g,0,none⟩) (k+1) F,false]) vN rfl ⟨_,_,rfl,HS.out▸aL,?_⟩;rw[HV.out];exact⟨rfl,HS.out▸kO⟩
end Go.Proofs.YtaamhakdhaolmaaGreatDoor
