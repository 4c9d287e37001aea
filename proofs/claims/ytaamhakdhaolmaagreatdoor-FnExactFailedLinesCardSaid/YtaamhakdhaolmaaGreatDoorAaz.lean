/- Part 25. -/
import Derived.Test.YtaamhakdhaolmaaGreatDoorAay
namespace Go.Proofs.YtaamhakdhaolmaaGreatDoor
open Go.RowKit
set_option maxHeartbeats 8000000
set_option maxRecDepth 100000
variable {P:Prop}
set_option linter.all false
def Fw(h:P:=by simp [results,Tryz.results116,go_sem,q0,q1,q2]):=h
def GP(h:P:=by simp [results,Tryz.results77,go_sem]):=h
def IT(h:P:=by
 go_wp2
 go_meet
 case rel=>exact⟨by congr 1;omega,c9,k9,r9,aZ⟩):=h
def CO{A B}{p now:P3}{j}(h:cl A B p j now=none):∀{k},j<=k->cl A B p k now=none:=by
 intro k hk
 induction k with
 |zero=>rw[show j=0 by omega] at h;exact h
 |succ k g=>
  by_cases e:j=k+1
  .rw[<-e];exact h
  .rw[qE,g o_];rfl
def Rr(A B X1 Y1 X2 Y2 E2:Int)(w):
 Rv 77 #[.agg #[A,B],.agg #[X1,Y1,()],.agg #[X2,Y2,E2]] w (cj (some (X2,Y2,E2))):=by
 go_enter Tryz.func77,Tryz.ntmps77;go_wp2;refine Uh (v:=.tuple #[.agg #[X2,Y2,E2],true]) GP rfl ⟨rfl,?_⟩;exact z_
def RB(A B X1 Y1 E1 X2 Y2:Int)(h:E1≠0)(w):
 Rv 77 #[.agg #[A,B],.agg #[X1,Y1,E1],.agg #[X2,Y2,()]] w (cj (some (X1,Y1,E1))):=by
 have hh:(E1==0)=false:=by simpa using h
 go_enter Tryz.func77,Tryz.ntmps77;go_wp2;refine Uh (v:=.tuple #[.agg #[X1,Y1,E1],true]) GP rfl ⟨rfl,?_⟩;exact z_
def Sk(r:Option P3):ku r=cj r:=by
 cases r with
 |none=>rfl
 |some r=>rfl
def Eb(A B)(p q:P3)(hA:bj A)(hB:a_ B)(G:bW A B p)(hq:bW A B q)(w):
 Rv 77 #[.agg #[A,B],.agg #[p.1,p.2.1,p.2.2],.agg #[q.1,q.2.1,q.2.2]] w (cj (dZ A B p q)):=by
 rw[<-Se hA hB G hq];have⟨X1,Y1,E1⟩:=p;have⟨X2,Y2,E2⟩:=q;unfold AM;by_cases h1:E1=0
 .subst h1;rw[Um rfl];exact Rr A B X1 Y1 X2 Y2 E2 w
 .rw[Uj h1];by_cases h2:E2=0
  .subst h2;rw[Um rfl];exact RB A B X1 Y1 E1 X2 Y2 h1 w
  .rw[Uj h2,<-Sk];have fp:eC A B X1 Y1 E1:=G.resolve_left λh=>h1 h.2.2;have fq:eC A B X2 Y2 E2:=hq.resolve_left λh=>h2 h.2.2;exact Pq A B X1 Y1 E1 X2 Y2 E2 hA fp.ptIn fq.ptIn fp.2.1.1 fq.2.1.1 w
def Ck(A B X Y E n:Int)(hA:bj A)(hB:a_ B)(G:bW A B (X,Y,E))(hn:-12<=n/\n<=12)(w):
 Rv 116 #[.agg #[A,B],.agg #[X,Y,E],n] w (cj (gy A B (X,Y,E) n)):=by
 have hY:-3000000<=Y/\Y<=3000000:=G.bd.2.1;have HM:=h_ (Co X Y E hY);have c3:(n<0/\(if n<0 then -Y else Y)=-Y)\/(0<=n/\(if n<0 then -Y else Y)=Y):=by split<;>omega
 have ac:bW A B (X,(if n<0 then -Y else Y),E):=by split;exact G.neg;exact G
 have hV:gy A B (X,Y,E) n=cl A B (X,(if n<0 then -Y else Y),E) n.natAbs (0,0,0):=by unfold gy;split<;>rfl
 rw[hV];generalize (if n<0 then -Y else Y)=Z at *;have az:=h_ (λ(x y e:Int) (h:bW A B (x,y,e)) (W:World)=>Eb A B (x,y,e) (X,Z,E) hA hB h ac W);have a8:=h_ (λ(k:Nat) (x y e:Int) (h:cl A B (X,Z,E) k (0,0,0)=some (x,y,e))=>pj hA hB ac k (0,0,0) (x,y,e) (.zero A B) h);have⟨kC,kP,V,J⟩:=fh w #[A,B] 42 #[X,Y,E] 46 #[(),(),()] 46;generalize aa:cj (cl A B (X,Z,E) n.natAbs (0,0,0))=cz;have cb:Hid (cj (cl A B (X,Z,E) n.natAbs (0,0,0))=cz):=h_ aa;clear aa G ac hY;go_enter Tryz.func116,Tryz.ntmps116;go_upto_region 1 with fail
 generalize ((w.alloc _).alloc _).alloc _=W at *;have h1:w.heap.size<w.heap.size+1:=o_;have h2:w.heap.size+1<w.heap.size+1+1:=o_;generalize w.heap.size+1+1=rR at *;generalize w.heap.size+1=rP at *;generalize bs:w.heap.size=rC at *;have bx:Hid (w.heap.size=rC):=bs;have lR:=V.lt;have⟨a4,a3⟩:=kC.q2;have a5:=kC.lt;have⟨bY,bZ,bX⟩:=kP.q3;have bo:=kP.frozen 0;have bb:=kP.frozen 1;have b4:=kP.frozen 2;have b0:=kP.lt
 go_upto_if 12 with (fail)
 go_cut [2] from 8 (λs wc=>s=.int .i64 (n.natAbs:Int)/\ag rC #[A,B] 42 wc/\ag rP #[X,Z,E] 46 wc/\ag rR #[(),(),()] 46 wc/\Below rC w wc)
 case first=>
  rcases c3 with ⟨ae,rfl⟩|⟨ae,rfl⟩
  .go_wp2_with fail
   refine ai (HM.out _) λw1 I=>?_;replace kC:=kC.next I
   replace kP:=kP.next I
   replace V:=V.next I
   have U:=af I (Ui o_ (Uo lR)) J;have⟨bY,bZ,bX⟩:=kP.q3;have bo:=kP.frozen 0;have bb:=kP.frozen 1;have b4:=kP.frozen 2;have k9:=((kP.set 0 X).set 1 (-Y:Int)).set 2 E;have c9:=((kC.far (p:=rP) u_ X).far (p:=⟨rP,1,none⟩) u_ (-Y:Int)).far (p:=⟨rP,2,none⟩) u_ E;have r9:=((V.far (p:=rP) u_ X).far (p:=⟨rP,1,none⟩) u_ (-Y:Int)).far (p:=⟨rP,2,none⟩) u_ E;have aZ:Below rC w (((w1.setCell rP X).setCell ⟨rP,1,none⟩ (-Y:Int)).setCell ⟨rP,2,none⟩ E):=((U.setCell u_ _).setCell u_ _).setCell u_ _;exact IT
  .go_wp2
   go_meet
   case rel=>exact⟨by congr 1;omega,kC,kP,V,J⟩
 case rest=>
  obtain⟨rfl,jC,jP,jR,hb⟩:=hcut;have kO:=ag.new wc #[(),(),()] 46;have bq:=jP.lt;have aG:=jC.lt;have b3:rC<=rR:=o_;replace jC:=jC.alloc (.cells #[(),(),()] 46);replace jP:=jP.alloc (.cells #[(),(),()] 46);have g:=jR.lt;replace jR:=jR.alloc (.cells #[(),(),()] 46);replace hb:=hb.alloc (show rC<=wc.heap.size by omega) (.cells #[(),(),()] 46);have hK:n.natAbs<=12:=o_;generalize n.natAbs=K at *;go_upto_region 5 with fail
  have a6:(wc.alloc (.cells #[(),(),()] 46)).heap.size=wc.heap.size+1:=s_;generalize wc.alloc _=W5,wc.heap.size=rO at *;go_loopw [2] (λs wr=>∃(m:Nat) (x y e:Int),s=.int .i64 (m:Int)/\m<=K/\Hid (cl A B (X,Z,E) (K - m) (0,0,0)=some (x,y,e))/\ag rO #[x,y,e] 46 wr/\ah [rO] W5 wr) (λs _=>(intOf s).toNat)
  case atStart=>exact⟨K,0,0,0,rfl,Ug _,(by show _=_;rw[V7];rfl),kO,ah.refl _ _⟩
  case round=>
   obtain⟨m,x,y,e,rfl,hm,HT,mO,hO⟩:=hrel;have mC:=jC.over hO u_;have mP:=jP.over hO u_;have F:=jR.over hO u_;have ba:=hO.belowGe hb o_ u_;have cA:=hO.size;by_cases b8:0<m
   .obtain⟨m',rfl⟩:∃m',m=m'+1:=⟨m - 1,by omega⟩
    have⟨aX,aM⟩:=mC.q2;have b1:=mC.lt;have⟨bz,a9,b6⟩:=mP.q3;have co:=mP.lt;have⟨cc,b5,bp⟩:=mO.q3;have cm:=mO.lt;have a7:Hid (cl A B (X,Z,E) (K - m') (0,0,0)=dZ A B (x,y,e) (X,Z,E)):=by
     show _=_;rw[show K - m'=(K - (m'+1))+1 by omega,qE,HT.out];rfl
    have hq:=a8.out _ _ _ _ HT.out;have a2:=h_ (az.out x y e hq);have cv:=h_ HT.out;go_wp2_with fail
    refine (a2.out _).mono ?_;rintro e' w1 ⟨rfl,I⟩;cases hs:dZ A B (x,y,e) (X,Z,E) with
    |none=>
     have h:cj none=cz:=by
      rw[<-cb.out,CO (by rw[a7.out,hs]) (show K - m'<=K by omega)]
     simp only[cj] at h;subst h;simp only[cj];have H:=(F.next I).alloc (.cells #[(),(),()] 46);have aF:=(af I (show rC<=wr.heap.size by omega) ba).alloc (show rC<=w1.heap.size by have:=I.size;omega) (.cells #[(),(),()] 46);go_upto_region 9 with fail
     generalize w1.alloc _=W8 at *;have z0:=H.frozen 0;have z1:=H.frozen 1;have z2:=H.frozen 2;have⟨t0,t1,t2⟩:=H.q3;have k9:=((H.set 0 ()).set 1 ()).set 2 ();have ad:Below rC w (((W8.setCell rR ()).setCell ⟨rR,1,none⟩ ()).setCell ⟨rR,2,none⟩ ()):=((aF.setCell u_ _).setCell u_ _).setCell u_ _
     (repeat (first|go_skip|go_guarded|go_step))
     generalize (World.setCell (World.setCell (World.setCell _ _ _) _ _) _ _)=w9 at k9 ad ⊢;have⟨q0,q1,q2⟩:=k9.q3;exact Uh (v:=.tuple #[.agg #[(),(),()],false]) Fw rfl ⟨rfl,bx.out▸ad⟩
    |some r=>
     have⟨x2,y2,e2⟩:=r;have HN:Hid (cl A B (X,Z,E) (K - m') (0,0,0)=some (x2,y2,e2)):=by show _=_;rw[a7.out,hs]
     simp only[cj];have bi:=hO.next I
     have kX:=ag.new w1 #[x2,y2,e2] 46;have nO:=(mO.next I).alloc (.cells #[x2,y2,e2] 46);have bv:=bi.alloc (.cells #[x2,y2,e2] 46);go_upto_region 10 with fail
     have ab:rO≠w1.heap.size:=by have:=bi.size;omega
     generalize w1.alloc _=W8,w1.heap.size=rX at *;have⟨b2,a1,aL⟩:=kX.q3;have⟨cy,cu,cs⟩:=nO.q3;have b7:=nO.frozen 0;have b9:=nO.frozen 1;have ca:=nO.frozen 2;have k9:=((nO.set 0 x2).set 1 y2).set 2 e2;have ax:ah [rO] W5 (((W8.setCell rO x2).setCell ⟨rO,1,none⟩ y2).setCell ⟨rO,2,none⟩ e2):=((bv.setCell (.inr s_) _).setCell (.inr s_) _).setCell (.inr s_) _;go_wp2;go_roundw
     case rel=>exact⟨m',x2,y2,e2,by go_num,by omega,HN,k9,ax⟩
     case measure=>simp [intOf]
   .obtain rfl:m=0:=by omega
    have h:=cb.out;rw[show cl A B (X,Z,E) K (0,0,0)=some (x,y,e) from HT.out] at h;simp only[cj] at h;subst h;have⟨cc,b5,bp⟩:=mO.q3;go_upto_region 11 with fail
    have z0:=F.frozen 0;have z1:=F.frozen 1;have z2:=F.frozen 2;have⟨t0,t1,t2⟩:=F.q3;have k9:=((F.set 0 x).set 1 y).set 2 e;have ad:Below rC w (((wr.setCell rR x).setCell ⟨rR,1,none⟩ y).setCell ⟨rR,2,none⟩ e):=((ba.setCell u_ _).setCell u_ _).setCell u_ _
    (repeat (first|go_skip|go_guarded|go_step))
    generalize (World.setCell (World.setCell (World.setCell _ _ _) _ _) _ _)=w9 at k9 ad ⊢;have⟨q0,q1,q2⟩:=k9.q3;exact Uh (v:=.tuple #[.agg #[x,y,e],true]) Fw rfl ⟨rfl,bx.out▸ad⟩
def FR(h:P:=by
 rintro e w1 ⟨rfl,rfl⟩;exact ve):=h
def SX{n lo hi}(h:lo<=n/\n<=hi):av n lo hi=true:=by simp [av];omega
def RT(L)(lo hi:Int)(v)(hL:∀x∈L,lo<=x/\x<=hi)(hl:L.length<=100000)(w)(h:bS w v L):
 Rw 357 #[v,lo,hi] w true:=by
 obtain⟨a,F,rfl,_,hc⟩:=h;have HC:Hid (∀i,i<L.length->∃g o x,a=some ⟨g,o,none⟩/\w.cell? ⟨g,o+i,none⟩=some (.int .i64 x)/\av x lo hi=true):=λi hi=>by
  have⟨g,o,h1,h2,_⟩:=hc i hi;refine⟨g,o,_,h1,h2,SX (hL _ ?_)⟩;rw[Us hi];exact UA hi
 generalize L.length=n at *;go_enter Tryz.func357,Tryz.ntmps357;go_wp2;go_loopw [11] (λiv wr=>∃i:Nat,i<=n/\iv=.int .i64 i/\w=wr) (λiv _=>n - (intOf iv).toNat)
 case atStart=>exact⟨0,by omega,rfl,rfl⟩
 case round=>
  obtain⟨i,a2,rfl,rfl⟩:=hrel;by_cases aG:i<n
  .obtain⟨g,o,x,rfl,q,hx⟩:=HC.out i aG;have HQ:Hid (Rw 104 #[x,lo,hi] w true):=(cw x lo hi w).mono λe w' h=>⟨h.1.trans (by rw[hx]),h.2⟩
   go_wp2_with fail
   refine HQ.out.mono ?_;rintro e w1 ⟨rfl,rfl⟩;go_wp2;go_roundw
   case rel=>exact⟨i+1,by omega,by go_num,trivial⟩
   case measure=>exact aO
  .obtain rfl:i=n:=by omega
   exact nh
def Dm(K)(a)(hl:(dg K.natAbs).length<=100000)(w)(ha:bm K a w):
 Rv 350 #[a] w (.bool (mD K)):=by
 obtain⟨la,rfl,hr⟩:=ha;have hD:=jQ K.natAbs;have⟨kA,J⟩:=aw w #[decide (K<0),la] 182;have a4:=hr.below J;have V:Hid (∀W,bS W la (dg K.natAbs)->Rw 357 #[la,(),(9999:Int)] W true):=λW hW=>RT _ 0 9999 la hD.1 hl W hW;have a8:=h_ a4;obtain⟨Z,F,rfl,_,hc⟩:=a4;by_cases h4:(dg K.natAbs).length<=400
 .have aa:mD K=true:=by simp [mD,h4]
  rw[aa];have ab:((dg K.natAbs).length:Int)<=400:=o_;have h0:(dg K.natAbs)=[]\/(dg K.natAbs)≠[]:=by by_cases h:dg K.natAbs=[]<;>simp [h]
  rcases h0 with h0|h0
  .have b5:K=0:=by have:=ui.1 h0;omega
   subst b5;have cz:((dg (Int.natAbs 0)).length:Int)=0:=by rw[h0];rfl
   have cF:decide ((0:Int)<0)=false:=rfl;rw[cF] at J kA a8 ⊢;have G:(dg (Int.natAbs 0)).length=0:=o_;rw[G] at V a8 kA J ⊢;go_enter Tryz.func350,Tryz.ntmps350;go_upto_region 1 with fail
   generalize w.alloc _=W at *;have⟨a0,a1⟩:=kA.q2;go_wp2_with fail
   refine (V.out W (by rw[h0];exact a8.out|>λh=>by rw[h0] at h;exact h)).mono ?_;exact FR
  .have H:∃g o x,Z=some ⟨g,o,none⟩/\(w.alloc (.cells #[decide (K<0),.slice Z (dg K.natAbs).length F] 182)).cell? ⟨g,o+((dg K.natAbs).length - 1),none⟩=some (.int .i64 x)/\0<x:=by
    have aG:=Vi.2 h0;have⟨g,o,h1,h2,_⟩:=hc ((dg K.natAbs).length - 1) o_;refine⟨g,o,_,h1,h2,?_⟩;rw[Us o_];have hx:=hD.2.1 h0;rw[Xh] at hx;have:=hD.1 _ (UA (show (dg K.natAbs).length - 1<(dg K.natAbs).length by omega));simp;omega
   obtain⟨g,o,x,rfl,qx,hx⟩:=H;have aG:=Vi.2 h0;have U:(1:Int)<=((dg K.natAbs).length:Int):=o_;have I:(0:Int)<((dg K.natAbs).length:Int):=o_;have hne:¬((dg K.natAbs).length:Int)=0:=o_;have a5:=h_ (V.out _ a8.out);generalize hN:(dg K.natAbs).length=N at *;obtain⟨j,rfl⟩:∃j,N=j+1:=⟨N - 1,by omega⟩
   have hj:((j+1:Nat):Int) - 1=(j:Int):=o_;rw[XQ] at qx;generalize decide (K<0)=sg at *;go_enter Tryz.func350,Tryz.ntmps350;go_upto_region 1 with fail
   generalize w.alloc _=W at *;have⟨_,a1⟩:=kA.q2;go_wp2_with fail
   exact a5.out.mono FR
 .have aa:mD K=false:=by simp [mD];omega
  rw[aa];have ab:¬((dg K.natAbs).length:Int)<=400:=o_;have ac:(400:Int)<((dg K.natAbs).length:Int):=o_;generalize (dg K.natAbs).length=N,decide (K<0)=sg at *;go_enter Tryz.func350,Tryz.ntmps350;go_upto_region 1 with fail
  generalize w.alloc _=W at *;have⟨_,a1⟩:=kA.q2;exact ve
def fR:List (Bool×Value)->List Value
 |[]=>[]
 |p::L=>.bool p.1::p.2::fR L
theorem sH:∀(L:List (Bool×Value)),(fR L).length=L.length*2
 |[]=>rfl
 |p::L=>by simp only[fR,Uw,sH L];omega
theorem wR:∀(L:List (Bool×Value)) (i) (h:i<L.length),(fR L)[i*2]?=some (.bool L[i].1)/\(fR L)[i*2+1]?=some L[i].2
 |[],i,h=>by simp at h
 |p::L,0,_=>by simp [fR]
 |p::L,i+1,h=>by
  have:=wR L i kj;rw[show (i+1)*2=i*2+2 by omega];simpa[fR] using this
def mr(w:World)(G:Nat)(v:Value)(L:List (Bool×Value)):Prop:=w.ownsRow G 182 2 v L.length (fR L)
def aW.below{w w1}{G}{v}{L}(h:aW w G v L)(hb:Below w w w1):aW w1 G v L:=⟨h.1.below hb,λhn=>(h.2 hn).below hb⟩
def aW.far{w w1}{b g}{v}{L}{I}{T}{x:Nat×Nat}(h:aW w b v L)(hT:T≠3)(hg:w.heap[g]?=some (.cells I T x))(Z:ah [g] w w1):aW w1 b v L:=by
 by_cases hn:L=[]
 .exact Af
 .have G:=h.2 hn;have h3:=aq.over G Z (λg' K hm=>by
   rw[UD] at hm;subst hm;rcases G.2 with ⟨_,h0⟩|⟨g2,H,J,ab,_,ac,_⟩
   .exact hn (UX.1 h0)
   .rw[ab] at K;have:=by simpa[Value.ownBlock] using K
    subst this;rw[hg] at ac;injection ac with e;injection e with _ e2 _;exact hT e2)
  exact⟨h3.rdL,λ_=>h3⟩
def mr.form{w}{G}{v}{L:List (Bool×Value)}(h:mr w G v L):
 ∃(a:bT) (F:Nat),v=.slice a L.length F/\L.length<=F/\∀i (_:i<L.length),∃g,a=some ⟨g,0,none⟩/\w.cell? ⟨g,i*2,none⟩=some (.bool L[i].1)/\w.cell? ⟨g,i*2+1,none⟩=some L[i].2/\
  (∀o,w.frozen? ⟨g,o,none⟩=false)/\g<w.heap.size/\G<=g:=by
 rcases h.2 with ⟨hv,hn⟩|⟨g,F,aM,hv,hg,hh,aL,_,_,ht⟩
 .exact zY
 .refine⟨some ⟨g,0,none⟩,F,hv,aL,λi hi=>⟨g,rfl,?_,?_,?_,(Uv.1 hh).1,hg⟩⟩
  .have h4:(aM.toList.take (L.length*2))[i*2]?=aM.toList[i*2]?:=UR o_;rw[ht,(wR L i hi).1] at h4;exact zV
  .have h4:(aM.toList.take (L.length*2))[i*2+1]?=aM.toList[i*2+1]?:=UR o_;rw[ht,(wR L i hi).2] at h4;exact zV
  .intro o;simp [World.frozen?,hh]
def mr.rds{w}{G}{v}{L:List (Bool×Value)}{K}(h1:mr w G v L)(hl:L.length=K.length)(h2:∀i (h:i<L.length) (J:i<K.length),L[i].1=decide (K[i]<0)/\bS w L[i].2 (dg K[i].natAbs)):jr w v K:=by
 have⟨a,F,hv,_,hc⟩:=h1.form;refine⟨a,F,by rw[hv,hl],λi hi=>?_⟩;have⟨g,ha,q1,q2,_,hg,_⟩:=hc i o_;have⟨e1,e2⟩:=h2 i o_ hi;refine⟨g,0,L[i].2,ha,?_,?_,e2,hg⟩
 .rw[U7,q1,e1]
 .rw[U7,q2]
def mr.new(w:World)(G)(L:List (Bool×Value))(hb:G<=w.heap.size)(hl:L.length<=1000)(hL:L≠[]):mr (w.alloc (.cells (fR L).toArray 182)) G (.slice w L.length L.length) L:=by
 have:=Vi.2 hL;refine⟨by rw[sH],.inr ⟨w,L.length,_,rfl,hb,ag.new w _ _,Ug _,by unfold maxLen;omega,by simp [sH],?_⟩⟩;exact UP (by simp [sH])
def Wh.cell{b}{N}{v}{w}(h:Wh b N v w):∃lv,v=.agg #[decide (N<0),lv]/\aW w b lv (dg N.natAbs)/\lv.oneCell'=true:=by
 have⟨lv,h1,h2⟩:=h;have⟨a,F,h3,_⟩:=id h2.1;exact⟨lv,h1,h2,by rw[h3];rfl⟩
def jr.below{w w1}{v}{K}(h:jr w v K)(hb:Below w w w1):jr w1 v K:=by
 have⟨a,F,hv,hc⟩:=h;refine⟨a,F,hv,λi hi=>?_⟩;have⟨g,o,lv,ha,q1,q2,q3,q4⟩:=hc i hi;exact⟨g,o,lv,ha,(hb.cell (p:=⟨g,o+i*2,none⟩) q4).trans q1,(hb.cell (p:=⟨g,o+i*2+1,none⟩) q4).trans q2,q3.below hb,Un q4 hb.size⟩
theorem Ai{n}:∀(K),(∀x∈K,Sz n x)->Sz (n*K.length+1) (pr K)
 |[],_=>by rw[pr];exact (Sz.of1 o_ o_).mono o_
 |x::K,h=>by
  have:=Ai K λy hy=>h y (by simp [hy]);have:=(h x s_).mul this;rw[pr];exact this.mono (by rw[Uw,Nat.mul_add];omega)
def Tr{s}{K:List Int}(hl:s*K.length+1<=40000)(h:∀x∈K,Sz s x):∀k,k<=K.length->(dg (pr (K.take k)).natAbs).length<=40000:=λk hk=>by
 have h1:=(Ai (K.take k) λx hx=>h x (VU hx)).len;have h2:(K.take k).length<=K.length:=u_;have h3:=XB s h2;omega
theorem GG{n}:∀(K),(∀x∈K,Sz n x)->Sz (n+K.length) (sm K)
 |[],_=>by rw[sm];show (0:Int).natAbs<_;exact Nat.pow_pos o_
 |x::K,h=>by
  rw[sm];exact (((h x s_).mono o_).add (GG K λy hy=>h y (by simp [hy]))).mono (by simp;omega)
def Tx{K:List Int}(hl:K.length<=10)(h:∀x∈K,Sz 40000 x):∀k,k<=K.length->(dg (sm (K.take k)).natAbs).length<=100000:=λk hk=>by
 have h1:=(GG (K.take k) λx hx=>h x (VU hx)).len;have h2:(K.take k).length<=10:=u_;omega
def zq(h:P:=by simp [results,Tryz.results141,go_sem]):=h
def Is(h:P:=by simp [results,Tryz.results138,go_sem]):=h
def yF(A B X1 Y1 E1 X2 Y2 E2)(hA:bj A)(hB:a_ B)(G:ju A B X1 Y1 E1)(hq:ju A B X2 Y2 E2)(w):
 Rv 138 #[.agg #[A,B],.agg #[X1,Y1,E1],.agg #[X2,Y2,E2]] w (cj (dZ A B (X1,Y1,E1) (X2,Y2,E2))):=by
 unfold dZ;simp only;by_cases h1:E1=0
 .rw[Um h1];subst h1;go_enter Tryz.func138,Tryz.ntmps138;go_wp2;refine Uh (v:=.tuple #[.agg #[X2,Y2,E2],true]) Is rfl ⟨rfl,?_⟩;exact z_
 .rw[Uj h1];by_cases h2:E2=0
  .rw[Um h2];subst h2;go_enter Tryz.func138,Tryz.ntmps138;go_wp2;refine Uh (v:=.tuple #[.agg #[X1,Y1,E1],true]) Is rfl ⟨rfl,?_⟩;exact z_
  .rw[Uj h2];have fp:=G.resolve_left λh=>h1 h.2.2;have fq:=hq.resolve_left λh=>h2 h.2.2;by_cases h3:X1=X2/\Y1=-Y2/\E1=E2
   .rw[Um h3];obtain⟨rfl,rfl,rfl⟩:=h3;have eB:=h_ (sY X1 Y2 E1 fq.2.2.2.1);clear G hq fp fq;obtain⟨-,kP,kQ,V,J⟩:=AH w #[A,B] 42 #[X1,(-Y2:Int),E1] 46 #[X1,Y2,E1] 46 #[(),(),()] 46;have a6:=J.size;go_enter Tryz.func138,Tryz.ntmps138;go_upto_region 1 with fail
    generalize (((w.alloc _).alloc _).alloc _).alloc _=W at *;have e5:w.heap.size<=w.heap.size+1+1+1:=o_;generalize w.heap.size+1+1+1=rR at *;generalize w.heap.size+1+1=rQ at *;generalize w.heap.size+1=rP at *;generalize bx:w.heap.size=rC at *;have az:Hid (w.heap.size=rC):=bx;have lP:=kP.lt;have lQ:=kQ.lt;have⟨p0,p1,p2⟩:=kP.q3;have⟨q0,q1,q2⟩:=kQ.q3;go_upto_region 5 with fail
    (refine bP k_ k_ ?_;(repeat (go_big_quiet_step ((go_at_call 137;exact Calls.quiet_cls an _ (eB.out _)))));refine wpQuiet_nil ?_;intro w8 ca)
    have jR:=V.next ca
    have z0:=jR.frozen 0;have z1:=jR.frozen 1;have z2:=jR.frozen 2;have⟨t0,t1,t2⟩:=jR.q3;have k9:=((jR.set 0 ()).set 1 ()).set 2 ();have ad:Below rC w (((w8.setCell rR ()).setCell ⟨rR,1,none⟩ ()).setCell ⟨rR,2,none⟩ ()):=(((af ca a6 J).setCell u_ _).setCell u_ _).setCell u_ _;go_wp2;generalize (World.setCell (World.setCell (World.setCell _ _ _) _ _) _ _)=w9 at k9 ad ⊢;have⟨q0,q1,q2⟩:=k9.q3;exact Uh (v:=.tuple #[.agg #[(),(),()],true]) vS rfl ⟨rfl,az.out▸ad⟩
   .rw[Uj h3];exact Ri A B X1 Y1 E1 X2 Y2 E2 hA hB fp fq h3 w
def wv(A B X Y E)(hA:bj A)(hB:a_ B)(G:ju A B X Y E)(w):
 Rv 141 #[.agg #[A,B],.agg #[X,Y,E]] w (io (b_ A B (X,Y,E))):=by
 have HAdd:=h_ (λ(X1 Y1 E1:Int) (h:ju A B X1 Y1 E1) (W:World)=>yF A B X1 Y1 E1 X Y E hA hB h G W);have V:=h_ (λ(p r:Int×Int×Int) (h:ju A B p.1 p.2.1 p.2.2) (hr:dZ A B p (X,Y,E)=some r)=>EL hA hB h G hr);have⟨kC,kP,kN,J⟩:=fh w #[A,B] 42 #[X,Y,E] 46 #[(),(),()] 46;generalize aa:io (b_ A B (X,Y,E))=cz;have cb:Hid (io (iQ A B (X,Y,E) 12 1 (0,0,0))=cz):=h_ aa;go_enter Tryz.func141,Tryz.ntmps141;go_upto_region 2 with fail
 generalize ((w.alloc _).alloc _).alloc _=W at *;have e5:w.heap.size<=w.heap.size+1+1:=o_;have ab:w.heap.size+1<w.heap.size+1+1:=o_;have ae:w.heap.size<w.heap.size+1+1:=o_;generalize w.heap.size+1+1=rN at *;generalize w.heap.size+1=rP,bx:w.heap.size=rC at *;have az:Hid (w.heap.size=rC):=bx;clear bx;have a6:=kN.lt;go_wp2;go_loopw [7] (λx wr=>∃(n:Int) (f:Nat) (x1 y1 e1:Int),x=.int .i64 n/\(1<=n/\n<=13)/\n+f=13/\ju A B x1 y1 e1/\Hid (io (iQ A B (X,Y,E) f n (x1,y1,e1))=cz)/\ag rN #[x1,y1,e1] 46 wr/\ah [rN] W wr) (λx _=>(13 - intOf x).toNat)
 case atStart=>exact⟨1,12,0,0,0,rfl,by omega,by omega,.inl ⟨rfl,rfl,rfl⟩,cb,kN,ah.refl _ _⟩
 case round=>
  obtain⟨n,f,x1,y1,e1,rfl,hn,hf,hv,HF,F,hO⟩:=hrel;have ba:=hO.belowGe J o_ u_;by_cases cm:n<=12
  .obtain⟨g,rfl⟩:∃g,f=g+1:=⟨f - 1,by omega⟩
   have jC:=kC.over hO u_;have jP:=kP.over hO u_;have⟨bp,a7⟩:=jC.q2;have a2:=jC.lt;have⟨b8,b6,b7⟩:=jP.q3;have b9:=jP.lt;have⟨K,Z,U⟩:=F.q3;have ad:=F.lt;have hF:=HF.out;unfold iQ at hF;go_wp2_with fail
   refine ai (HAdd.out x1 y1 e1 hv _) λw1 I=>?_;have bi:=hO.next I
   replace F:=F.next I
   have H:=bi.belowGe J o_ u_;cases ha:dZ A B (x1,y1,e1) (X,Y,E) with
   |none=>
    rw[ha] at hF;simp at hF;subst hF;simp only[cj];go_wp2;refine Uh (v:=.tuple #[(),false]) zq rfl ⟨rfl,?_⟩;rw[az.out];refine (H.alloc ?_ _);have:=bi.size;omega
   |some r=>
    have hr:=V.out (x1,y1,e1) r hv ha;rw[ha] at hF;have⟨x2,y2,e2⟩:=r;simp only at hF hr;simp only[cj];have kX:=ag.new w1 #[x2,y2,e2] 46;replace F:=F.alloc (.cells #[x2,y2,e2] 46);have bv:=bi.alloc (.cells #[x2,y2,e2] 46);have aM:=H.alloc (show rC<=w1.heap.size by have:=bi.size;omega) (.cells #[x2,y2,e2] 46);go_upto_region 6 with fail
    generalize w1.alloc _=W2 at *;have hne:rN≠w1.heap.size:=by have:=bi.size;omega
    generalize w1.heap.size=rX at *;have a9:=kX.lt;have ac:=F.lt;have⟨b2,a1,aL⟩:=kX.q3;have b3:=kX.lt;by_cases he:e2=0
    .rw[Um he] at hF;simp only[io] at hF;subst hF;go_wp2;refine Uh (v:=.tuple #[n,true]) zq rfl ⟨rfl,?_⟩;rw[az.out];exact aM
    .rw[Uj he] at hF;have cc:Hid (io (iQ A B (X,Y,E) g (n+1) (x2,y2,e2))=cz):=hF;have⟨K,Z,U⟩:=F.q3;have z0:=F.frozen 0;have z1:=F.frozen 1;have z2:=F.frozen 2;have ax:ah [rN] W (((W2.setCell rN x2).setCell ⟨rN,1,none⟩ y2).setCell ⟨rN,2,none⟩ e2):=((bv.setCell (.inr s_) _).setCell (.inr s_) _).setCell (.inr s_) _;go_wp2;go_roundw
     case rel=>exact⟨n+1,g,x2,y2,e2,by go_num,by omega,by omega,hr,cc,(((F.set 0 x2).set 1 y2).set 2 e2),ax⟩
     case measure=>exact aO
  .obtain rfl:f=0:=by omega
   have aa:=HF.out;unfold iQ io at aa;subst aa;go_wp2;refine Uh (v:=.tuple #[(),false]) zq rfl ⟨rfl,?_⟩;rw[az.out];exact ba
def GN(h:P:=by simp [results,Tryz.results322,go_sem,q0,q1]):=h
def FY(h:P:=by simp [results,Tryz.results340,go_sem,q0,q1]):=h
def KI(h:P:=by
 obtain rfl:i=(j:Int):=by omega
 have hl:=h_ hI.out.len;have cy:j<A.length:=o_;have aF:=cG.adi j;obtain⟨_,_,e1,_,co⟩:=HA.out;injection e1 with e1 _ e2;subst e1 e2;obtain⟨ga,oa,rfl,q1,bz⟩:=co j cy;have d1:=(hb.cell (p:=⟨ga,oa+j,none⟩) (HG.out▸bz)).trans q1;have s1:=Z.cell (i:=j) (by rw[hl.out];exact cy);have f1:=Z.frozen j;have db:G<wr.heap.size:=(Z.lt G rfl).2;have c9:wr.cell? ⟨w.heap.size,1,none⟩=some (.slice (some ⟨ga,oa,none⟩) A.length ca):=ba.cell 1;generalize ex:A[j]?.getD 0=x at d1 aF;have b9:=h_ (hI.out.step cy ex aF hr);have bi:0<=r*10000+x:=o_;have da:r*10000+x<=20000000000000000:=o_;have b8:=UU (r*10000+x) (show n≠0 by omega);have cc:=UO (r*10000+x) (show 0<n by omega);clear ex q1 co hI;go_wp2;go_roundw
 case rel=>exact⟨j,(r*10000+x) % n,(j:Int) - 1,S.set j ((r*10000+x) / n),by omega,by first|rfl|go_num,by go_num,by omega,by omega,b9,Z.setG hl.out.symm j _,hb.setCell (Ug _) _⟩
 case measure=>simp [intOf]):=h
def Gd(h:P:=by
 go_wp2;generalize (World.setCell (World.setCell _ _ _) _ _)=w9 at ad k9 bb ⊢;obtain⟨q0,q1⟩:=k9.q2;refine Uh (v:=.tuple #[.agg #[decide (F<0),.slice sl (dg F.natAbs).length H],r]) GN rfl ?_;exact⟨_,rfl,⟨_,rfl,bb⟩,ad⟩):=h
def Fs(h:P:=by
 go_wp2;generalize (World.setCell (World.setCell _ _ _) _ _)=w9 at ad k9 bb ⊢;obtain⟨q0,q1⟩:=k9.q2;refine Uh (v:=.tuple #[.agg #[decide (F<0),.slice sl (dg F.natAbs).length H],r]) FY rfl ?_;exact⟨_,rfl,⟨_,rfl,bb⟩,ad⟩):=h
def Ik(h:P:=by
 have e:tr S=dg F.natAbs:=by rw[rE hI.out.dg,b2];rfl
 rw[<-e];have h1:(tr S).length<=S.length:=by
  unfold tr;rw[List.length_reverse];exact Ui (List.dropWhile_sublist _).length_le s_
 omega):=h
def II(h:P:=by
 rw[<-b4.out,<-b5];by_cases hM:M<0
 .by_cases h0:vl S=0
  .right;simp [h0]
  .left;simp [hM];omega
 .left;simp [hM];omega):=h
def Fb(h:P:=by
 have:=hI.out.val;simp only[U0] at this;rw[<-HV.out];exact this):=h
structure Dw (A:List Int)(n:Int)(i:Nat)(r:Int)(S:List Int):Prop where
 len:S.length=A.length
 dg:Dg S
 val:vl (A.drop i)=n*vl (S.drop i)+r
def Dw.start(A:List Int)(n:Int):Dw A n A.length 0 (List.replicate A.length 0):=
 ⟨by simp,λx hx=>by rw[List.eq_of_mem_replicate hx];omega,by simp [vl]⟩
def Dw.step{A S:List Int}{n r x:Int}{i:Nat}(h:Dw A n (i+1) r S)(hi:i<A.length)(hx:A[i]?.getD 0=x)(dy:0<=x/\x<=9999)(hr:0<=r/\r<=n - 1):Dw A n i ((r*10000+x) % n) (S.set i ((r*10000+x) / n)):=by
 have hS:i<S.length:=by rw[h.len];exact hi
 refine⟨by simp [h.len],λy hy=>?_,?_⟩
 .rcases WR hy with hy|rfl
  .exact h.dg y hy
  .have h0:=VY (a:=r*10000+x) (b:=n) o_ o_;have h1:(r*10000+x) / n<10000:=Int.ediv_lt_of_lt_mul o_ o_;omega
 .have e1:A.drop i=x::A.drop (i+1):=by
   rw[Vq hi,<-hx,Us hi];rfl
  have e2:(S.set i ((r*10000+x) / n)).drop i=((r*10000+x) / n)::S.drop (i+1):=by
   rw[Vq (by simpa using hS),List.getElem_set_self,List.drop_set_of_lt o_]
  rw[e1,e2];show x+10000*vl (A.drop (i+1))=n*((r*10000+x) / n+10000*vl (S.drop (i+1)))+_;rw[h.val];have e3:=WB (r*10000+x) n;have e4:n*((r*10000+x) / n+10000*vl (S.drop (i+1)))=n*((r*10000+x) / n)+10000*(n*vl (S.drop (i+1))):=by
   rw[Vj,VZ]
  rw[e4];omega
def Dw.nn{A S:List Int}{n r:Int}{i:Nat}(h:Dw A n i r S):0<=vl S:=h.dg.nn
def DS{M n r V:Int}(hn:1<=n)(hr:0<=r/\r<=n - 1)(h:(M.natAbs:Int)=n*V+r)(hs:¬(M<0/\0<r)):(if M<0 then -V else V)=M / n/\r=M % n:=by
 by_cases hM:M<0
 .rw[Um hM];have a4:r=0:=o_;subst a4;have e:M=n*(-V):=by rw[WL];omega
  rw[e,Vg _ o_,Int.mul_emod_right];exact⟨rfl,rfl⟩
 .rw[Uj hM];have e:M=r+n*V:=o_;rw[e,WE _ _ o_,Int.add_mul_emod_self_left,Wu hr.1 o_,Wc hr.1 o_];omega
def Du{M n r V:Int}(hn:1<=n)(hr:0<=r/\r<=n - 1)(h:(M.natAbs:Int)=n*V+r)(hs:M<0/\0<r):(if M<0 then -V else V)+-1=M / n/\n - r=M % n:=by
 rw[Um hs.1];have e:M=(n - r)+n*(-V+-1):=by rw[Vj,WL];omega
 rw[e,WE _ _ o_,Int.add_mul_emod_self_left,Wu o_ o_,Wc o_ o_];omega
def qa(K r:Int)(w:World)(e:Ending)(w':World):Prop:=∃v,e=.returned (.tuple #[v,r])/\Wh w.heap.size K v w'/\Below w.heap.size w w'
def tc(M n:Int)(a:Value)(hM:(dg M.natAbs).length<=40000)(hn:1<=n/\n<=1000000000000)(w:World)(ha:bm M a w):
 Kp 340 #[a,n] w (qa (M / n) (M % n) w):=by
 obtain⟨la,rfl,a3⟩:=ha;obtain⟨kA,kS,J⟩:=cr w #[decide (M<0),la] 182 #[false,.slice none 0 0] 182;have a5:=h_ a3;generalize bX:decide (M<0)=sa at *;have b4:=h_ bX;clear bX;obtain⟨K,hK⟩:∃K,M / n=K:=⟨_,rfl⟩
 obtain⟨R,hR⟩:∃R,M % n=R:=⟨_,rfl⟩
 rw[hK,hR];have HQ:Hid (∀(V r:Int),0<=r/\r<=n - 1->(M.natAbs:Int)=n*V+r->(¬(M<0/\0<r)->(if M<0 then -V else V)=K/\r=R)/\(M<0/\0<r->(if M<0 then -V else V)+-1=K/\n - r=R)):=h_ λV r hr h=>⟨λhs=>hK▸hR▸DS hn.1 hr h hs,λhs=>hK▸hR▸Du hn.1 hr h hs⟩
 clear hK hR;have HV:Hid (vl (dg M.natAbs)=M.natAbs):=h_ (ep _);have cG:=eo M.natAbs;generalize dg M.natAbs=A at *;have a6:=J.size;obtain⟨aa,ca,rfl,_,_⟩:=a3;have nz:(n==0)=false:=u_;go_enter Tryz.func340,Tryz.ntmps340;go_upto_region 1 with fail
 generalize (w.alloc _).alloc _=W at *;generalize cs:w.heap.size+1=rs at *;have HA:=h_ (a5.out.below J);obtain⟨wm,b6,b3,cm⟩:=qR W A.length o_;have a1:W.cell? ⟨w.heap.size,1,none⟩=some (.slice aa A.length ca):=kA.cell 1;go_upto_region 2 with fail
 clear b6;have cP:wm.cell? ⟨w.heap.size,1,none⟩=some (.slice aa A.length ca):=(kA.next cm).cell 1;generalize hG:W.heap.size=G at *;have HG:=h_ hG;clear hG;have cz:rs<G:=by rw[<-HG.out];exact kS.lt
 have bq:w.heap.size<G:=by rw[<-HG.out];exact kA.lt
 go_upto_region 4 with fail
 go_loopw [7,8] (λrv iv wr=>∃(k:Nat) (r i:Int) (S:List Int),k<=A.length/\rv=.int .i64 r/\iv=.int .i64 i/\i+1=k/\(0<=r/\r<=n - 1)/\Hid (Dw A n k r S)/\aq wr G (.slice (some ⟨G,0,none⟩) A.length A.length) S/\Below G W wr) (λ_ iv _=>(intOf iv+1).toNat)
 case atStart=>exact⟨A.length,0,(A.length:Int) - 1,List.replicate A.length 0,Ug _,rfl,by go_num,by omega,by omega,h_ (Dw.start A n),b3,cm⟩
 case round=>
  clear b3 cm cP;obtain⟨k,r,i,S,hk,rfl,rfl,cu,hr,hI,Z,hb⟩:=hrel;have ba:=kA.next (HG.out▸hb)
  have aZ:=kS.next (HG.out▸hb)
  cases k with
  |succ j=>
   exact KI
  |zero=>
   obtain rfl:i=-1:=by omega
   have hl:=h_ hI.out.len;have cM:(M.natAbs:Int)=n*vl S+r:=by
    exact Fb
   have bp:=h_ (HQ.out (vl S) r hr cM);obtain⟨F,b5⟩:∃F,(if M<0 then -(vl S) else vl S)=F:=⟨_,rfl⟩
   rw[b5] at bp;have cF:=hI.out.nn;have c7:=hI.out.len;have cX:=aZ.lt;have bx:sa=decide (F<0)\/F=0:=by
    exact II
   have b2:vl S=F.natAbs:=by
    rw[<-b5];split<;>omega
   have HT:=h_ ((lV sa _ S o_ wr Z.rdL).mono λe w' h=>h.whole (N:=F) bx (by rw[rE hI.out.dg,b2];rfl));have c3:(dg F.natAbs).length<=40000:=by
    exact Ik
   have HM:Hid (sa=decide (M<0)):=h_ b4.out.symm;clear hI cM HQ b5 bx b2 hl cF;have a0:wr.cell? ⟨w.heap.size,0,none⟩=some (.bool sa):=ba.cell 0;have U:Below w.heap.size w wr:=af (HG.out▸hb) a6 J;have a9:=U.size;have c8:=hb.size;go_wp2_with fail
   refine HT.out.mono ?_;rintro e w1 ⟨v,rfl,a8,I⟩;obtain⟨lv,rfl,az⟩:=a8;obtain⟨sl,H,rfl,_⟩:=id az.1;have aG:=(ba.next I).alloc (.cells #[decide (F<0),.slice sl (dg F.natAbs).length H] 182);have ax:=(aZ.next I).alloc (.cells #[decide (F<0),.slice sl (dg F.natAbs).length H] 182);obtain⟨kQ,ab⟩:=aw w1 #[decide (F<0),.slice sl (dg F.natAbs).length H] 182;have aL:Below w.heap.size w w1:=af I a9 U;have cT:=aL.size;replace aL:=af ab cT aL;have bv:aW (w1.alloc (.cells #[decide (F<0),.slice sl (dg F.natAbs).length H] 182)) wr.heap.size (.slice sl (dg F.natAbs).length H) (dg F.natAbs):=⟨az.1.below ab,λh=>(az.2 h).below ab⟩
   have c4:=I.size;clear ab az;go_upto_region 10 with fail
   generalize w1.alloc _=W3 at *;generalize w1.heap.size=rQ at *;have a2:W3.cell? ⟨w.heap.size,0,none⟩=some (.bool sa):=aG.cell 0;obtain⟨b0,b1⟩:=kQ.q2;have c6:=kQ.lt;have c5:rs<rQ:=o_;have bZ:=aL.size;have b7:=h_ bv;clear bv;by_cases hc:sa=true/\0<r
   .obtain⟨rfl,a4⟩:=hc;have cZ:M<0:=by have:=HM.out;simpa using this.symm
    obtain⟨cb,cQ⟩:=bp.out.2 ⟨cZ,a4⟩;have HK:=h_ cb;have c2:=h_ cQ;clear cQ;have bY:rQ∉[rs]:=u_;have cB:(dg (Int.natAbs (-1))).length<=40000:=Ui (ff (k:=5) d_) o_;clear cb bp;go_upto_region 11 with fail
    refine br [rs] (λ_=>false) (λ_=>True) (ag rs #[false,.slice none 0 0] 182) k_ ax ?_;refine aD ⟨W3,ah.refl _ _,ax⟩ [ae,ac,ac,ae,ae,ae] 4 aI aA ?_;refine aB 1 ?_;refine bG (some 49) (λu=>λw'=>ag rs #[false,.slice none 0 0] 182 w'/\Wh W3.heap.size (-1) u w') (λu=>aI.and bQ) (λw' hO hD=>(ft (-1) o_ w').mono λe w2 ⟨v,h1,h2,h3⟩=>⟨v,h1,.of_below h3,hD.next h3,h2.le hO.size⟩) (λu hne=>?_);refine ao ?_;refine aB 2 ?_;refine bG (some 50) (λu2=>λw'=>ag rs #[false,.slice none 0 0] 182 w'/\Wh W3.heap.size K u2 w') (λu2=>aI.and bQ) (λw' hO hD=>(wD F (-1) _ _ o_ o_ _ ⟨_,rfl,(b7.out.over hO u_).1⟩ hD.2.rd).mono λe w2 ⟨v,h1,h2,h3⟩=>⟨v,h1,.of_below h3,hD.1.next h3,HK.out▸h2.le hO.size⟩) (λu2 hne=>?_);refine ao ?_;obtain⟨w9,_,_,cv,rfl,az⟩:=id hne;obtain⟨bs,g,rfl,_⟩:=id az.1;refine aB 6 ?_;refine fm (v:=.agg #[decide (K<0),.slice bs (dg K.natAbs).length g]) rs (#[false,.slice none 0 0]) (λw'=>ag rs #[decide (K<0),.slice bs (dg K.natAbs).length g] 182 w'/\aW w' W3.heap.size (.slice bs (dg K.natAbs).length g) (dg K.natAbs)) (.inr s_) (λ_ hd=>hd.1) (aI.and (λ_ _ h hb=>⟨h.1.below hb,λhn=>(h.2 hn).below hb⟩)) (λw1 w2 hd Z hb=>⟨hb,hd.2.rdO.over Z u_⟩) (λhne=>?_)
    try simp only[Value.cells]
    refine aD hne [ac,ac,ac,ac,ac,ac,ac,ae] 0 (aI.and (λ_ _ h hb=>⟨h.1.below hb,λhn=>(h.2 hn).below hb⟩)) aA ?_;refine cV λWz a7 aX=>?_
    try dsimp only
    have aM:Below w.heap.size w Wz:=a7.belowGe (B:=w.heap.size) aL bZ u_;obtain⟨q0,q1⟩:=aX.1.q2;have cA:aW Wz w.heap.size (.slice bs (dg K.natAbs).length g) (dg K.natAbs):=aX.2.le bZ;clear a7 aX hne az;go_wp2;refine Uh (v:=.tuple #[.agg #[decide (K<0),.slice bs (dg K.natAbs).length g],(n - r:Int)]) FY rfl ?_;exact⟨_,by rw[c2.out],⟨_,rfl,cA⟩,aM⟩
   .have bo:¬(M<0/\0<r):=λh=>hc ⟨by rw[HM.out];simpa using h.1,h.2⟩;obtain⟨e1,e2⟩:=bp.out.1 bo;subst e1 e2;obtain⟨c0,c1⟩:=ax.q2;have z0:=ax.frozen 0;have z1:=ax.frozen 1;have k9:=(ax.set 0 (decide (F<0))).set 1 (.slice sl (dg F.natAbs).length H);have ad:Below w.heap.size w ((W3.setCell ⟨rs,0,none⟩ (decide (F<0))).setCell ⟨rs,1,none⟩ (.slice sl (dg F.natAbs).length H)):=(aL.setCell u_ _).setCell u_ _;have bb:=b7.out.set2 (S:=rs) cX (decide (F<0)) (.slice sl (dg F.natAbs).length H);replace bb:aW _ w.heap.size _ _:=bb.le a9;clear b7 bp HT aG ax;cases sa
    .exact Fs
    .have a4:¬0<r:=λh=>hc ⟨rfl,h⟩;exact Fs
def nJ(M n:Int)(a:Value)(hM:(dg M.natAbs).length<=40000)(hn:1<=n/\n<=1000000000000)(w:World)(ha:bm M a w):
 Kp 322 #[a,n] w (qa (M / n) (M % n) w):=by
 obtain⟨la,rfl,a3⟩:=ha;obtain⟨kA,kS,J⟩:=cr w #[decide (M<0),la] 182 #[false,.slice none 0 0] 182;have a5:=h_ a3;generalize bX:decide (M<0)=sa at *;have b4:=h_ bX;clear bX;obtain⟨K,hK⟩:∃K,M / n=K:=⟨_,rfl⟩
 obtain⟨R,hR⟩:∃R,M % n=R:=⟨_,rfl⟩
 rw[hK,hR];have HQ:Hid (∀(V r:Int),0<=r/\r<=n - 1->(M.natAbs:Int)=n*V+r->(¬(M<0/\0<r)->(if M<0 then -V else V)=K/\r=R)/\(M<0/\0<r->(if M<0 then -V else V)+-1=K/\n - r=R)):=h_ λV r hr h=>⟨λhs=>hK▸hR▸DS hn.1 hr h hs,λhs=>hK▸hR▸Du hn.1 hr h hs⟩
 clear hK hR;have HV:Hid (vl (dg M.natAbs)=M.natAbs):=h_ (ep _);have cG:=eo M.natAbs;generalize dg M.natAbs=A at *;have a6:=J.size;obtain⟨aa,ca,rfl,_,_⟩:=a3;have nz:(n==0)=false:=u_;go_enter Tryz.func322,Tryz.ntmps322;go_upto_region 1 with fail
 generalize (w.alloc _).alloc _=W at *;generalize cs:w.heap.size+1=rs at *;have HA:=h_ (a5.out.below J);obtain⟨wm,b6,b3,cm⟩:=qR W A.length o_;have a1:W.cell? ⟨w.heap.size,1,none⟩=some (.slice aa A.length ca):=kA.cell 1;go_upto_region 2 with fail
 clear b6;have cP:wm.cell? ⟨w.heap.size,1,none⟩=some (.slice aa A.length ca):=(kA.next cm).cell 1;generalize hG:W.heap.size=G at *;have HG:=h_ hG;clear hG;have cz:rs<G:=by rw[<-HG.out];exact kS.lt
 have bq:w.heap.size<G:=by rw[<-HG.out];exact kA.lt
 go_upto_region 4 with fail
 go_loopw [7,8] (λrv iv wr=>∃(k:Nat) (r i:Int) (S:List Int),k<=A.length/\rv=.int .i64 r/\iv=.int .i64 i/\i+1=k/\(0<=r/\r<=n - 1)/\Hid (Dw A n k r S)/\aq wr G (.slice (some ⟨G,0,none⟩) A.length A.length) S/\Below G W wr) (λ_ iv _=>(intOf iv+1).toNat)
 case atStart=>exact⟨A.length,0,(A.length:Int) - 1,List.replicate A.length 0,Ug _,rfl,by go_num,by omega,by omega,h_ (Dw.start A n),b3,cm⟩
 case round=>
  clear b3 cm cP;obtain⟨k,r,i,S,hk,rfl,rfl,cu,hr,hI,Z,hb⟩:=hrel;have ba:=kA.next (HG.out▸hb)
  have aZ:=kS.next (HG.out▸hb)
  cases k with
  |succ j=>
   exact KI
  |zero=>
   obtain rfl:i=-1:=by omega
   have hl:=h_ hI.out.len;have cM:(M.natAbs:Int)=n*vl S+r:=by
    exact Fb
   have bp:=h_ (HQ.out (vl S) r hr cM);obtain⟨F,b5⟩:∃F,(if M<0 then -(vl S) else vl S)=F:=⟨_,rfl⟩
   rw[b5] at bp;have cF:=hI.out.nn;have c7:=hI.out.len;have cX:=aZ.lt;have bx:sa=decide (F<0)\/F=0:=by
    exact II
   have b2:vl S=F.natAbs:=by
    rw[<-b5];split<;>omega
   have HT:=h_ ((mc sa _ S o_ wr Z.rdL).mono λe w' h=>h.whole (N:=F) bx (by rw[rE hI.out.dg,b2];rfl));have c3:(dg F.natAbs).length<=40000:=by
    exact Ik
   have HM:Hid (sa=decide (M<0)):=h_ b4.out.symm;clear hI cM HQ b5 bx b2 hl cF;have a0:wr.cell? ⟨w.heap.size,0,none⟩=some (.bool sa):=ba.cell 0;have U:Below w.heap.size w wr:=af (HG.out▸hb) a6 J;have a9:=U.size;have c8:=hb.size;go_wp2_with fail
   refine HT.out.mono ?_;rintro e w1 ⟨v,rfl,a8,I⟩;obtain⟨lv,rfl,az⟩:=a8;obtain⟨sl,H,rfl,_⟩:=id az.1;have aG:=(ba.next I).alloc (.cells #[decide (F<0),.slice sl (dg F.natAbs).length H] 182);have ax:=(aZ.next I).alloc (.cells #[decide (F<0),.slice sl (dg F.natAbs).length H] 182);obtain⟨kQ,ab⟩:=aw w1 #[decide (F<0),.slice sl (dg F.natAbs).length H] 182;have aL:Below w.heap.size w w1:=af I a9 U;have cT:=aL.size;replace aL:=af ab cT aL;have bv:aW (w1.alloc (.cells #[decide (F<0),.slice sl (dg F.natAbs).length H] 182)) wr.heap.size (.slice sl (dg F.natAbs).length H) (dg F.natAbs):=⟨az.1.below ab,λh=>(az.2 h).below ab⟩
   have c4:=I.size;clear ab az;go_upto_region 10 with fail
   generalize w1.alloc _=W3 at *;generalize w1.heap.size=rQ at *;have a2:W3.cell? ⟨w.heap.size,0,none⟩=some (.bool sa):=aG.cell 0;obtain⟨b0,b1⟩:=kQ.q2;have c6:=kQ.lt;have c5:rs<rQ:=o_;have bZ:=aL.size;have b7:=h_ bv;clear bv;by_cases hc:sa=true/\0<r
   .obtain⟨rfl,a4⟩:=hc;have cZ:M<0:=by have:=HM.out;simpa using this.symm
    obtain⟨cb,cQ⟩:=bp.out.2 ⟨cZ,a4⟩;have HK:=h_ cb;have c2:=h_ cQ;clear cQ;have bY:rQ∉[rs]:=u_;have cB:(dg (Int.natAbs (1))).length<=40000:=Ui (ff (k:=5) d_) o_;clear cb bp;go_upto_region 11 with fail
    refine br [rs] (λ_=>false) (λ_=>True) (ag rs #[false,.slice none 0 0] 182) k_ ax ?_;refine aD ⟨W3,ah.refl _ _,ax⟩ [ae,ac,ac,ae,ae,ae] 4 aI aA ?_;refine aB 1 ?_;refine bG (some 50) (λu=>λw'=>ag rs #[false,.slice none 0 0] 182 w'/\Wh W3.heap.size (1) u w') (λu=>aI.and bQ) (λw' hO hD=>(rf (1) o_ w').mono λe w2 ⟨v,h1,h2,h3⟩=>⟨v,h1,.of_below h3,hD.next h3,h2.le hO.size⟩) (λu hne=>?_);refine ao ?_;refine aB 2 ?_;refine bG (some 51) (λu2=>λw'=>ag rs #[false,.slice none 0 0] 182 w'/\Wh W3.heap.size K u2 w') (λu2=>aI.and bQ) (λw' hO hD=>(DR F (1) _ _ o_ o_ _ ⟨_,rfl,(b7.out.over hO u_).1⟩ hD.2.rd).mono λe w2 ⟨v,h1,h2,h3⟩=>⟨v,h1,.of_below h3,hD.1.next h3,HK.out▸h2.le hO.size⟩) (λu2 hne=>?_);refine ao ?_;obtain⟨w9,_,_,cv,rfl,az⟩:=id hne;obtain⟨bs,g,rfl,_⟩:=id az.1;refine aB 6 ?_;refine fm (v:=.agg #[decide (K<0),.slice bs (dg K.natAbs).length g]) rs (#[false,.slice none 0 0]) (λw'=>ag rs #[decide (K<0),.slice bs (dg K.natAbs).length g] 182 w'/\aW w' W3.heap.size (.slice bs (dg K.natAbs).length g) (dg K.natAbs)) (.inr s_) (λ_ hd=>hd.1) (aI.and (λ_ _ h hb=>⟨h.1.below hb,λhn=>(h.2 hn).below hb⟩)) (λw1 w2 hd Z hb=>⟨hb,hd.2.rdO.over Z u_⟩) (λhne=>?_)
    try simp only[Value.cells]
    refine aD hne [ac,ac,ac,ac,ac,ac,ac,ae] 0 (aI.and (λ_ _ h hb=>⟨h.1.below hb,λhn=>(h.2 hn).below hb⟩)) aA ?_;refine cV λWz a7 aX=>?_
    try dsimp only
    have aM:Below w.heap.size w Wz:=a7.belowGe (B:=w.heap.size) aL bZ u_;obtain⟨q0,q1⟩:=aX.1.q2;have cA:aW Wz w.heap.size (.slice bs (dg K.natAbs).length g) (dg K.natAbs):=aX.2.le bZ;clear a7 aX hne az;go_wp2;refine Uh (v:=.tuple #[.agg #[decide (K<0),.slice bs (dg K.natAbs).length g],(n - r:Int)]) GN rfl ?_;exact⟨_,by rw[c2.out],⟨_,rfl,cA⟩,aM⟩
   .have bo:¬(M<0/\0<r):=λh=>hc ⟨by rw[HM.out];simpa using h.1,h.2⟩;obtain⟨e1,e2⟩:=bp.out.1 bo;subst e1 e2;obtain⟨c0,c1⟩:=ax.q2;have z0:=ax.frozen 0;have z1:=ax.frozen 1;have k9:=(ax.set 0 (decide (F<0))).set 1 (.slice sl (dg F.natAbs).length H);have ad:Below w.heap.size w ((W3.setCell ⟨rs,0,none⟩ (decide (F<0))).setCell ⟨rs,1,none⟩ (.slice sl (dg F.natAbs).length H)):=(aL.setCell u_ _).setCell u_ _;have bb:=b7.out.set2 (S:=rs) cX (decide (F<0)) (.slice sl (dg F.natAbs).length H);replace bb:aW _ w.heap.size _ _:=bb.le a9;clear b7 bp HT aG ax;cases sa
    .exact Gd
    .have a4:¬0<r:=λh=>hc ⟨rfl,h⟩;exact Gd
def aV(c:Value):Value->au:=λv _=>v=c
def aV.closed(c v):aQ (aV c v):=λ_ _ h _=>h
def de(K:List Int):Value->au:=λv w=>jr w v K
def de.closed(K)(v):aQ (de K v):=λ_ _ h hb=>jr.below h hb
def bt(b r:Nat)(N:Int)(w:World):Prop:=∃lv,ag r #[decide (N<0),lv] 182 w/\aW w b lv (dg N.natAbs)/\lv.oneCell'=true
def bt.closed(b r)(N):aQ (bt b r N):=λ_ _ ⟨lv,h1,h2,h3⟩ hb=>⟨lv,h1.next hb,h2.below hb,h3⟩
def bt.next{b r}{N}{w w'}(h:bt b r N w)(hb:Below w w w'):bt b r N w':=bt.closed b r N _ _ h hb
def bt.lt{b r}{N}{w}(h:bt b r N w):r<w.heap.size:=by
 have⟨lv,h1,_⟩:=h;exact h1.lt
def ke(w)(r)(x y):ah [r] w ((w.setCell r x).setCell ⟨r,1,none⟩ y):=((ah.refl [r] w).setCell (p:=r) (.inr s_) x).setCell (p:=⟨r,1,none⟩) (.inr s_) y
def bt.put{b r}{I}{w}{M}{lv}(hk:ag r I 182 w)(hc:I.size=2)(hv:aW w b lv (dg M.natAbs))(h1:lv.oneCell'=true):bt b r M ((w.setCell r (decide (M<0))).setCell ⟨r,1,none⟩ lv):=by
 refine⟨lv,?_,hv.far d_ hk (ke w r _ _),h1⟩
 match I,hc with
 |⟨[x,y]⟩,_=>simpa using ((hk.set 0 (decide (M<0))).set 1 lv)
def bt.far{b r r'}{N}{w}{I}(h:bt b r N w)(hne:r≠r')(hk:ag r' I 182 w)(x y):bt b r N ((w.setCell r' x).setCell ⟨r',1,none⟩ y):=by
 have⟨lv,h1,h2,h3⟩:=h;exact⟨lv,(h1.far (p:=r') hne x).far (p:=⟨r',1,none⟩) hne y,h2.far d_ hk (ke w r' x y),h3⟩
def lu{o}{ρ:Operand->Value}{w}{b r:Nat}{N}(x)(Z:o.op=.load 182 x)(hx:ρ x=.pointer r)(h:bt b r N w):bl Tryz.prog o ρ w (Wh b N):=by
 have⟨lv,h1,h2,_⟩:=h;refine .value (.agg #[decide (N<0),lv]) ?_ ⟨lv,rfl,h2⟩;have⟨q0,q1⟩:=h1.q2;unfold execOp;rw[Z];simp [go_sem,hx,q0,q1]
def O9{o}{ρ:Operand->Value}{w}{r:Nat}(x)(Z:o.op=.fieldAddr 42 x 0)(hx:ρ x=.pointer r):bl Tryz.prog o ρ w (aV (.pointer r)):=by
 refine .value _ ?_ rfl;unfold execOp;rw[Z];simp [go_sem,hx]
def PJ{o}{ρ:Operand->Value}{w}{r:Nat}(x)(Z:o.op=.fieldAddr 42 x 1)(hx:ρ x=.pointer r):bl Tryz.prog o ρ w (aV (.pointer (some ⟨r,1,none⟩))):=by
 refine .value _ ?_ rfl;unfold execOp;rw[Z];simp [go_sem,hx]
def jj{o}{ρ:Operand->Value}{w}{r i}{A:Int}(x)(Z:o.op=.load 3 x)(hx:ρ x=.pointer (some ⟨r,i,none⟩))(h:w.cell? ⟨r,i,none⟩=some (.int .i64 A)):bl Tryz.prog o ρ w (aV A):=by
 refine .value _ ?_ rfl;unfold execOp;rw[Z];simp [go_sem,hx,h]
def nM{o}{ρ:Operand->Value}{w}{a c}(x y)(Z:o.op=.binOp .mul 3 x y 3)(hx:ρ x=.int .i64 a)(hy:ρ y=.int .i64 c)(h:-1000000000000000000<=a*c/\a*c<=1000000000000000000):bl Tryz.prog o ρ w (aV (a*c:Int)):=by
 refine .value _ ?_ rfl;have G:IntKind.i64.wrap (a*c)=a*c:=by rw[Wj];unfold wrap64;omega
 unfold execOp;rw[Z];simp [go_sem,hx,hy,G]
def EI{o}{ρ:Operand->Value}{w}{b}(x0 x1 x2)(g N1 V)(Z:o.op=.buildSlice 285 3 #[(0,x0),(1,x1),(2,x2)])(h0:Wh b g (ρ x0) w)(h1:Wh b N1 (ρ x1) w)(h2:Wh b V (ρ x2) w):
 bl Tryz.prog o ρ w (de [g,N1,V]):=by
 have⟨l0,e0,r0,_⟩:=h0.cell;have⟨l1,e1,r1,_⟩:=h1.cell;have⟨l2,e2,r2,_⟩:=h2.cell;have hb:Below w w (w.alloc (.cells (fR [(decide (g<0),l0),(decide (N1<0),l1),(decide (V<0),l2)]).toArray 182)):=(Uk _ _).alloc (Ug _) _;refine bl.make (.slice w 3 3) (w.alloc (.cells (fR [(decide (g<0),l0),(decide (N1<0),l1),(decide (V<0),l2)]).toArray 182)) ?_ hb ((mr.new w w [(decide (g<0),l0),(decide (N1<0),l1),(decide (V<0),l2)] (Ug _) s_ s_).rds rfl ?_)
 .unfold execOp;rw[Z];simp [go_sem,fR,e0,e1,e2]
 .intro i h J
  match i,h,J with
  |0,_,_=>exact⟨rfl,r0.1.below hb⟩
  |1,_,_=>exact⟨rfl,r1.1.below hb⟩
  |2,_,_=>exact⟨rfl,r2.1.below hb⟩
def up{o}{ρ:Operand->Value}{w}{b}(x0 x1 x2 x3)(g N1 V N3)(Z:o.op=.buildSlice 285 4 #[(0,x0),(1,x1),(2,x2),(3,x3)])(h0:Wh b g (ρ x0) w)(h1:Wh b N1 (ρ x1) w)(h2:Wh b V (ρ x2) w)(h3:Wh b N3 (ρ x3) w):
 bl Tryz.prog o ρ w (de [g,N1,V,N3]):=by
 have⟨l0,e0,r0,_⟩:=h0.cell;have⟨l1,e1,r1,_⟩:=h1.cell;have⟨l2,e2,r2,_⟩:=h2.cell;have⟨F,e3,r3,_⟩:=h3.cell;have hb:Below w w (w.alloc (.cells (fR [(decide (g<0),l0),(decide (N1<0),l1),(decide (V<0),l2),(decide (N3<0),F)]).toArray 182)):=(Uk _ _).alloc (Ug _) _;refine bl.make (.slice w 4 4) (w.alloc (.cells (fR [(decide (g<0),l0),(decide (N1<0),l1),(decide (V<0),l2),(decide (N3<0),F)]).toArray 182)) ?_ hb ((mr.new w w [(decide (g<0),l0),(decide (N1<0),l1),(decide (V<0),l2),(decide (N3<0),F)] (Ug _) s_ s_).rds rfl ?_)
 .unfold execOp;rw[Z];simp [go_sem,fR,e0,e1,e2,e3]
 .intro i h J
  match i,h,J with
  |0,_,_=>exact⟨rfl,r0.1.below hb⟩
  |1,_,_=>exact⟨rfl,r1.1.below hb⟩
  |2,_,_=>exact⟨rfl,r2.1.below hb⟩
  |3,_,_=>exact⟨rfl,r3.1.below hb⟩
def yx{o}{ρ:Operand->Value}{w}{b}(x0 x1 x2 x3 x4)(g N1 V N3 G)(Z:o.op=.buildSlice 285 5 #[(0,x0),(1,x1),(2,x2),(3,x3),(4,x4)])(h0:Wh b g (ρ x0) w)(h1:Wh b N1 (ρ x1) w)(h2:Wh b V (ρ x2) w)(h3:Wh b N3 (ρ x3) w)(h4:Wh b G (ρ x4) w):
 bl Tryz.prog o ρ w (de [g,N1,V,N3,G]):=by
 have⟨l0,e0,r0,_⟩:=h0.cell;have⟨l1,e1,r1,_⟩:=h1.cell;have⟨l2,e2,r2,_⟩:=h2.cell;have⟨F,e3,r3,_⟩:=h3.cell;have⟨H,e4,r4,_⟩:=h4.cell;have hb:Below w w (w.alloc (.cells (fR [(decide (g<0),l0),(decide (N1<0),l1),(decide (V<0),l2),(decide (N3<0),F),(decide (G<0),H)]).toArray 182)):=(Uk _ _).alloc (Ug _) _;refine bl.make (.slice w 5 5) (w.alloc (.cells (fR [(decide (g<0),l0),(decide (N1<0),l1),(decide (V<0),l2),(decide (N3<0),F),(decide (G<0),H)]).toArray 182)) ?_ hb ((mr.new w w [(decide (g<0),l0),(decide (N1<0),l1),(decide (V<0),l2),(decide (N3<0),F),(decide (G<0),H)] (Ug _) s_ s_).rds rfl ?_)
 .unfold execOp;rw[Z];simp [go_sem,fR,e0,e1,e2,e3,e4]
 .intro i h J
  match i,h,J with
  |0,_,_=>exact⟨rfl,r0.1.below hb⟩
  |1,_,_=>exact⟨rfl,r1.1.below hb⟩
  |2,_,_=>exact⟨rfl,r2.1.below hb⟩
  |3,_,_=>exact⟨rfl,r3.1.below hb⟩
  |4,_,_=>exact⟨rfl,r4.1.below hb⟩
def Ae(h:P:=by simp [results,Tryz.results151,go_sem,q0,q1,q2]):=h
def I8(h:P:=by
 generalize (World.setCell (World.setCell (World.setCell _ _ _) _ _) _ _)=w9 at k9 ad ⊢;obtain⟨q0,q1,q2⟩:=k9.q3;refine Uh (v:=.tuple #[.agg #[(),(),()],false]) Ae rfl ?_;exact⟨rfl,bx.out▸ad⟩):=h
def bD.over{ex:List Nat}{W w}{G}{v}{L:List P3}(h:bD W G v L)(Z:ah ex W w)(hx:∀k∈ex,k<G):bD w G v L:=by
 refine⟨h.1,?_⟩;rcases h.2 with h0|⟨g,F,aM,hv,hg,hh,r⟩
 .exact .inl h0
 .exact .inr ⟨g,F,aM,hv,hg,(Z.block g (Uv.1 hh).1 (λhm=>by have:=hx g hm;omega)).trans hh,r⟩
noncomputable def iW(A B:Int)(p:P3)(n:Nat):List P3:=(List.range n).map λi=>(cl A B p (i+1) (0,0,0)).getD (0,0,0)
def xZ(A B)(p:P3)(n):(iW A B p n).length=n:=by simp [iW]
def Qr(A B)(p:P3)(n):iW A B p (n+1)=iW A B p n++[(cl A B p (n+1) (0,0,0)).getD (0,0,0)]:=by
 unfold iW;rw[Yk,VN];rfl
def Sl(A B)(p:P3)(n i)(h:i<(iW A B p n).length):(iW A B p n)[i]=(cl A B p (i+1) (0,0,0)).getD (0,0,0):=by
 simp [iW]
def AO(A B:Int)(p:P3)(n:Nat)(w:World)(e:Ending)(w':World):Prop:=
 ((cl A B p n (0,0,0)).isSome=true->∃v,e=.returned (.tuple #[v,true])/\bD w' w v (iW A B p n))/\
 ((cl A B p n (0,0,0)).isSome=false->e=.returned (.tuple #[.slice none 0 0,false]))/\Below w w w'
def Nf(A B X Y E)(n:Nat)(hA:bj A)(hB:a_ B)(G:bW A B (X,Y,E))(hn:n<=12)(w):
 Kp 208 #[.agg #[A,B],.agg #[X,Y,E],.int .i64 (n)] w (AO A B (X,Y,E) n w):=by
 obtain⟨kC,kP,kO,J⟩:=fh w #[A,B] 42 #[X,Y,E] 46 #[(),(),()] 46;have a6:(((w.alloc (.cells #[A,B] 42)).alloc (.cells #[X,Y,E] 46)).alloc (.cells #[(),(),()] 46)).heap.size=w.heap.size+1+1+1:=s_;go_enter Tryz.func208,Tryz.ntmps208;go_upto_region 3 with fail
 generalize ((w.alloc _).alloc _).alloc _=W at *;have h1:w.heap.size<w.heap.size+1:=o_;have h2:w.heap.size+1<w.heap.size+1+1:=o_;have aZ:w.heap.size+1+1<W.heap.size:=o_;have U:w.heap.size<=W.heap.size:=o_;generalize g:w.heap.size+1+1=rO at *;generalize F:w.heap.size+1=rP,bs:w.heap.size=rC at *;have bx:Hid (w.heap.size=rC):=bs;go_wp2;go_loopw [8,14] (λv s wr=>∃(k:Nat) (x y e:Int),s=.int .i64 (k:Int)/\k<=n/\Hid (cl A B (X,Y,E) k (0,0,0)=some (x,y,e))/\ag rO #[x,y,e] 46 wr/\bD wr W v (iW A B (X,Y,E) k)/\ah [rO] W wr) (λ_ s _=>n - (intOf s).toNat)
 case atStart=>exact⟨0,0,0,0,rfl,UB _,rfl,kO,bD.nil _ _,ah.refl _ _⟩
 case round=>
  obtain⟨k,x,y,e,rfl,hk,HT,mO,Z,hO⟩:=hrel;have mC:=kC.over hO u_;have mP:=kP.over hO u_;have ba:=hO.belowGe J o_ u_;by_cases aG:k<n
  .have⟨aX,aM⟩:=mC.q2;have b1:=mC.lt;have⟨bz,a9,b6⟩:=mP.q3;have co:=mP.lt;have⟨cc,b5,bp⟩:=mO.q3;have cm:=mO.lt;have a7:Hid (cl A B (X,Y,E) (k+1) (0,0,0)=dZ A B (x,y,e) (X,Y,E)):=by
    show _=_;rw[qE,HT.out];rfl
   have hq:=(h_ (λ(k:Nat) (x y e:Int) (h:cl A B (X,Y,E) k (0,0,0)=some (x,y,e))=>pj hA hB G k (0,0,0) (x,y,e) (.zero A B) h)).out _ _ _ _ HT.out;have a2:=h_ ((h_ (λ(x y e:Int) (h:bW A B (x,y,e)) (W:World)=>yF A B x y e X Y E hA hB h G W)).out x y e hq);go_wp2_with fail
   refine (a2.out _).mono ?_;rintro e' w1 ⟨rfl,I⟩;cases hs:dZ A B (x,y,e) (X,Y,E) with
   |none=>
    have h:=h_ (CO (by rw[a7.out,hs]) (show k+1<=n by omega));simp only[cj];have aF:=(af I (show rC<=wr.heap.size by omega) ba).alloc (show rC<=w1.heap.size by have:=I.size;omega) (.cells #[(),(),()] 46);go_wp2;go_ret2;unfold AO;rw[h.out];exact⟨λh=>mq,λ_=>rfl,bx.out▸aF⟩
   |some r=>
    have⟨x2,y2,e2⟩:=r;have HN:Hid (cl A B (X,Y,E) (k+1) (0,0,0)=some (x2,y2,e2)):=by show _=_;rw[a7.out,hs]
    have HL:Hid (iW A B (X,Y,E) (k+1)=iW A B (X,Y,E) k++[(x2,y2,e2)]):=by show _=_;rw[Qr,HN.out];rfl
    have ac:(iW A B (X,Y,E) k).length<1000000000000:=by rw[xZ];omega
    simp only[cj];have bi:=hO.next I
    have kX:=ag.new w1 #[x2,y2,e2] 46;have nO:=(mO.next I).alloc (.cells #[x2,y2,e2] 46);have bv:=bi.alloc (.cells #[x2,y2,e2] 46);have bb:=(Z.below I).below (w1:=w1.alloc (.cells #[x2,y2,e2] 46)) ((Uk _ _).alloc (Ug _) _);go_upto_region 8 with fail
    have ab:rO≠w1.heap.size:=by have:=bi.size;omega
    generalize w1.alloc _=W8,w1.heap.size=rX at *;have⟨b2,a1,aL⟩:=kX.q3;have b3:=kX.lt;have⟨cy,cu,cs⟩:=nO.q3;have b7:=nO.frozen 0;have b9:=nO.frozen 1;have ca:=nO.frozen 2;have V:=nO.lt;have k9:=((nO.set 0 x2).set 1 y2).set 2 e2;have ax:ah [rO] W (((W8.setCell rO x2).setCell ⟨rO,1,none⟩ y2).setCell ⟨rO,2,none⟩ e2):=((bv.setCell (.inr s_) _).setCell (.inr s_) _).setCell (.inr s_) _;have az:bD (((W8.setCell rO x2).setCell ⟨rO,1,none⟩ y2).setCell ⟨rO,2,none⟩ e2) W u8 (iW A B (X,Y,E) k):=bb.over ((((ah.refl [rO] W8).setCell (.inr s_) _).setCell (.inr s_) _).setCell (.inr s_) _) u_;go_upto_region 9 with fail
    generalize (World.setCell (World.setCell (World.setCell _ _ _) _ _) _ _)=W9 at k9 ax az ⊢;simp at k9;have⟨cB,cv,ad⟩:=k9.q3;have aa:=ax.size;go_wp2_with (at_builtin;refine wA (p:=(x2,y2,e2)) rfl _ _ rfl W _ _ rfl az rfl ac aa ?_;intro v' w4 bo K bY _)
    have bq:ah [rO] W w4:=⟨K.os.trans ax.os,K.tape.trans ax.tape,K.output.trans ax.output,Ui aa K.size,λj hj hn=>(K.block j hj).trans (ax.block j hj hn)⟩
    have H:ag rO #[x2,y2,e2] 46 w4:=(K.block rO aZ).trans k9;go_wp2;go_roundw
    case rel=>exact⟨k+1,x2,y2,e2,by go_num,by omega,HN,H,by rw[HL.out];exact bo,bq⟩
    case measure=>exact aO
  .obtain rfl:k=n:=by omega
   have h:Hid ((cl A B (X,Y,E) k (0,0,0)).isSome=true):=h_ (by rw[HT.out];rfl);go_wp2;go_ret2;unfold AO;rw[h.out];exact⟨λ_=>⟨_,rfl,Z.le (by rw[bx.out];exact U)⟩,λh=>mq,bx.out▸ba⟩
def K4{A B}{p:P3}(h:bW A B p):dN A B p.1 p.2.1 p.2.2=true:=by
 unfold dN;rcases h with ⟨h1,h2,h3⟩|⟨h1,h2,h3,h4,h5⟩
 .rw[h1,h2,h3];rfl
 .unfold jS;rw[gc h1.1 h1.2,gc h2.1 h2.2,h3,gc h4.1 h4.2,h5];simp
def M7(A B X Y E n:Int)(hC:be A B=true)(G:bW A B (X,Y,E))(w:World):
 Rv 151 #[.agg #[A,B],.agg #[X,Y,E],n] w (cj (if av n (-12) 12 then gy A B (X,Y,E) n else none)):=by
 obtain⟨hA,hB⟩:=fe hC;have h0:=λW=>xk A B X Y E hC W;rw[K4 G] at h0;have HP:=h_ h0;clear h0 hC;obtain⟨kC,kP,V,J⟩:=fh w #[A,B] 42 #[X,Y,E] 46 #[(),(),()] 46;cases hn:av n (-12) 12
 .simp;go_enter Tryz.func151,Tryz.ntmps151;go_upto_region 1 with fail
  generalize ((w.alloc _).alloc _).alloc _=W at *;have h2:w.heap.size<w.heap.size+1+1:=o_;generalize w.heap.size+1+1=rR at *;generalize w.heap.size+1=rP at *;generalize bs:w.heap.size=rC at *;have bx:Hid (w.heap.size=rC):=bs;clear bs;obtain⟨a4,a3⟩:=kC.q2;have a5:=kC.lt;obtain⟨bY,bZ,bX⟩:=kP.q3;have b0:=kP.lt;go_wp2_with fail
  refine ai (HP.out _) λw1 I=>?_;have a6:=V.lt;have H:=af I o_ J;replace V:=V.next I
  clear I kC kP a4 a3 a5 bY bZ bX b0;go_upto_region 2 with ((go_at_call 63;refine ay (cR _ _ _ _) ?_))
  obtain⟨bz,b1,b3⟩:=V.q3;have aM:=V.frozen 0;have a1:=V.frozen 1;have a9:=V.frozen 2;have az:=V.lt;have k9:=((V.set 0 ()).set 1 ()).set 2 ();have ad:Below rC w (((w1.setCell ⟨rR,0,none⟩ ()).setCell ⟨rR,1,none⟩ ()).setCell ⟨rR,2,none⟩ ()):=((H.setCell u_ _).setCell u_ _).setCell u_ _
  (repeat (first|go_skip|go_guarded|go_step))
  exact I8
 .have cy:=bH hn;have hY:-3000000<=Y/\Y<=3000000:=G.bd.2.1;have HM:=h_ (sY X Y E hY);have c3:(n<0/\(if n<0 then -Y else Y)=-Y)\/(0<=n/\(if n<0 then -Y else Y)=Y):=by split<;>omega
  have ac:bW A B (X,(if n<0 then -Y else Y),E):=by split;exact G.neg;exact G
  have hV:gy A B (X,Y,E) n=cl A B (X,(if n<0 then -Y else Y),E) n.natAbs (0,0,0):=by unfold gy;split<;>rfl
  rw[Um rfl,hV];generalize (if n<0 then -Y else Y)=Z at *;have h1:=λW=>Nf A B X Z E n.natAbs hA hB ac o_ W;have bv:=h_ h1;generalize aa:cj (cl A B (X,Z,E) n.natAbs (0,0,0))=cz;have cb:=h_ aa;clear aa G ac hY h1;go_enter Tryz.func151,Tryz.ntmps151;go_upto_region 1 with fail
  generalize ((w.alloc _).alloc _).alloc _=W at *;have h1:w.heap.size<w.heap.size+1:=o_;have h2:w.heap.size+1<w.heap.size+1+1:=o_;generalize w.heap.size+1+1=rR at *;generalize w.heap.size+1=rP at *;generalize bs:w.heap.size=rC at *;have bx:Hid (w.heap.size=rC):=bs;clear bs;have⟨a4,a3⟩:=kC.q2;have a5:=kC.lt;have⟨bY,bZ,bX⟩:=kP.q3;have b0:=kP.lt;go_wp2_with fail
  refine ai (HP.out _) λw1 I=>?_;have H:=af I o_ J;replace V:=V.next I
  replace kC:=kC.next I
  replace kP:=kP.next I
  have⟨a4,a3⟩:=kC.q2;have a5:=kC.lt;have⟨bY,bZ,bX⟩:=kP.q3;have bo:=kP.frozen 0;have bb:=kP.frozen 1;have b4:=kP.frozen 2;have b0:=kP.lt
  go_upto_if 21 with ((go_at_call 63;refine ay (cR _ _ _ _) ?_))
  go_cut [2] from 8 (λs wc=>s=.int .i64 (n.natAbs:Int)/\ag rC #[A,B] 42 wc/\ag rP #[X,Z,E] 46 wc/\ag rR #[(),(),()] 46 wc/\Below rC w wc)
  case first=>
   rcases c3 with ⟨ae,rfl⟩|⟨ae,rfl⟩
   .go_wp2_with fail
    refine ai (HM.out _) λw2 U=>?_;replace kC:=kC.next U
    replace kP:=kP.next U
    replace V:=V.next U
    obtain⟨bY,bZ,bX⟩:=kP.q3;have bo:=kP.frozen 0;have bb:=kP.frozen 1;have b4:=kP.frozen 2;have b0:=kP.lt;have k9:=((kP.set 0 X).set 1 (-Y:Int)).set 2 E;have c9:=((kC.far (p:=⟨rP,0,none⟩) u_ X).far (p:=⟨rP,1,none⟩) u_ (-Y:Int)).far (p:=⟨rP,2,none⟩) u_ E;have r9:=((V.far (p:=rP) u_ X).far (p:=⟨rP,1,none⟩) u_ (-Y:Int)).far (p:=⟨rP,2,none⟩) u_ E;have aZ:Below rC w (((w2.setCell rP X).setCell ⟨rP,1,none⟩ (-Y:Int)).setCell ⟨rP,2,none⟩ E):=(((af U o_ H).setCell u_ _).setCell u_ _).setCell u_ _;exact IT
   .go_wp2
    go_meet
    case rel=>exact⟨by congr 1;omega,kC,kP,V,H⟩
  case rest=>
   obtain⟨rfl,jC,jP,jR,hb⟩:=hcut;have hK:n.natAbs<=12:=o_;generalize n.natAbs=K at *;have⟨bp,a7⟩:=jC.q2;have a2:=jC.lt;have⟨b8,b6,b7⟩:=jP.q3;have b9:=jP.lt;go_wp2_with fail
   refine (bv.out _).mono ?_;rintro e w3 ⟨m1,m2,aF⟩;have aG:=af aF o_ hb;replace jR:=jR.next aF
   cases hs:cl A B (X,Z,E) K (0,0,0) with
   |none=>
    obtain rfl:=m2 (by rw[hs];rfl);have h:=cb.out;rw[hs] at h;simp only[cj] at h;subst h;go_upto_region 7 with fail
    have⟨bi,a8,ba⟩:=jR.q3;have aL:=jR.frozen 0;have ax:=jR.frozen 1;have ab:=jR.frozen 2;have k9:=((jR.set 0 ()).set 1 ()).set 2 ();have ad:Below rC w (((w3.setCell rR ()).setCell ⟨rR,1,none⟩ ()).setCell ⟨rR,2,none⟩ ()):=((aG.setCell u_ _).setCell u_ _).setCell u_ _
    (repeat (first|go_skip|go_guarded|go_step))
    exact I8
   |some r=>
    obtain⟨v,rfl,ov⟩:=m1 (by rw[hs];rfl);have⟨x,y,e⟩:=r;have h:=cb.out;rw[hs] at h;simp only[cj] at h;subst h;by_cases b5:K=0
    .subst b5;rw[cl] at hs;cases hs;go_upto_region 7 with fail
     have⟨bi,a8,ba⟩:=jR.q3;have aL:=jR.frozen 0;have ax:=jR.frozen 1;have ab:=jR.frozen 2;have k9:=((jR.set 0 ()).set 1 ()).set 2 ();have ad:Below rC w (((w3.setCell rR ()).setCell ⟨rR,1,none⟩ ()).setCell ⟨rR,2,none⟩ ()):=((aG.setCell u_ _).setCell u_ _).setCell u_ _
     (repeat (first|go_skip|go_guarded|go_step))
     generalize (World.setCell (World.setCell (World.setCell _ _ _) _ _) _ _)=w9 at k9 ad ⊢;have⟨q0,q1,q2⟩:=k9.q3;exact Uh (v:=.tuple #[.agg #[(),(),()],true]) Ae rfl ⟨rfl,bx.out▸ad⟩
    .obtain⟨k,rfl⟩:∃k,K=k+1:=⟨K - 1,by omega⟩
     obtain⟨a,F,rfl,hf⟩:=ov.form;obtain⟨g,rfl,q1,q2,q3,bq,aX⟩:=hf k (by rw[xZ];omega);rw[Sl,hs] at q1 q2 q3;simp at q1 q2 q3;rw[xZ];go_upto_region 8 with fail
     have⟨bi,a8,ba⟩:=jR.q3;have aL:=jR.frozen 0;have ax:=jR.frozen 1;have ab:=jR.frozen 2;have k9:=((jR.set 0 x).set 1 y).set 2 e;have ad:Below rC w (((w3.setCell rR x).setCell ⟨rR,1,none⟩ y).setCell ⟨rR,2,none⟩ e):=((aG.setCell u_ _).setCell u_ _).setCell u_ _
     (repeat (first|go_skip|go_guarded|go_step))
     generalize (World.setCell (World.setCell (World.setCell _ _ _) _ _) _ _)=w9 at k9 ad ⊢;have⟨q0,q1,q2⟩:=k9.q3;exact Uh (v:=.tuple #[.agg #[x,y,e],true]) Ae rfl ⟨rfl,bx.out▸ad⟩
def Lx(h:P:=by
 have cb:=h_ hl;obtain⟨a',ae,aZ,hf⟩:=hl.form;obtain⟨g,bz,q1,q2,q3,bq,_⟩:=hf k aG;obtain⟨rfl,rfl⟩:la=a'/\a2=ae:=by simp only[Xl] at aZ;exact⟨aZ.1,aZ.2.2⟩
 subst bz;have bs:=bv.out L[k] (UA aG);have ad:=h_ (Nb (P:=λp=>(b_ A B p).isSome) aG);have ac:((0,0,0)::(L.take k).filter λp=>(b_ A B p).isSome).length<1000000000000:=by
  have h1:=Xv (λp=>(b_ A B p).isSome) (L.take k);have h2:=aa.out;rw[UH] at h1;simp only[Uw];omega
 clear hf aZ hl;generalize L[k]=p at q1 q2 q3 bs ad;obtain⟨x,y,e⟩:=p;simp only at q1 q2 q3 bs ad;generalize hM:(0,0,0)::(L.take k).filter (λp=>(b_ A B p).isSome)=M at Z ac;have HM:=h_ hM;clear hM;obtain⟨aX,aM⟩:=mC.q2;have b1:=mC.lt;obtain⟨kX,U⟩:=aw wr #[x,y,e] 46;go_upto_region 5 with fail
 replace mC:=mC.next U
 replace Z:=Z.below U;have b7:=h_ (cb.out.below U);have ab:Below rS w1 (wr.alloc (.cells #[x,y,e] 46)):=F.trans (U.mono o_);have a8:(wr.alloc (.cells #[x,y,e] 46)).heap.size=wr.heap.size+1:=s_;clear aX aM b1 q1 q2 q3 bq cb U F;generalize wr.alloc _=W2 at *;generalize wr.heap.size=rX at *;obtain⟨aX,aM⟩:=mC.q2;have b1:=mC.lt;obtain⟨b2,a1,aL⟩:=kX.q3;have b3:=kX.lt;go_wp2_with fail
 refine (b6.out x y e (.inr bs) _).mono ?_;rintro e' w3 ⟨rfl,aF⟩;have V:Below rS w1 w3:=ab.trans (aF.mono o_);replace Z:=Z.below aF;have b8:=h_ (b7.out.below aF);replace kX:=kX.next aF
 have b9:=aF.size;clear aX aM b1 b2 a1 aL b3 b7 mC ab;cases bb:b_ A B (x,y,e) with
 |none=>
  have HT:Hid ((0,0,0)::(L.take (k+1)).filter (λp=>(b_ A B p).isSome)=M):=h_ (by rw[ad.out,bb,<-HM.out];simp);simp only[io];clear ad HM bb;go_wp2;go_roundw
  case rel=>exact⟨k+1,by omega,by go_num,by rw[HT.out];exact Z,hv,b8.out,V⟩
  case measure=>exact aO
 |some n=>
  have HT:Hid ((0,0,0)::(L.take (k+1)).filter (λp=>(b_ A B p).isSome)=M++[(x,y,e)]):=h_ (by rw[ad.out,bb,<-HM.out];simp);simp only[io];clear ad HM bb;obtain⟨b2,a1,aL⟩:=kX.q3;have b3:=kX.lt;have b5:rS<=w3.heap.size:=o_;have H3:=h_ Z;have HV:=h_ hv;have H4:=h_ ac;clear Z hv ac;go_wp2_with (at_builtin;refine wA (p:=(x,y,e)) rfl _ _ rfl rS _ _ rfl H3.out rfl H4.out b5 ?_;intro v' w4 bo K bY bp)
  have ca:Below rS w1 w4:=V.trans K;have co:=Pf (bp.imp id λ⟨j,h1,h2⟩=>⟨j,h1,show w1.heap.size<=j by omega⟩) HV.out;have cm:bD w4 W.heap.size (.slice (some ⟨g,0,none⟩) L.length a2) L:=by
   refine World.ownsRow.kept (b8.out.below ((Uk _ _).alloc (Ug _) _)) bY ?_;refine .inr λe'=>?_;have h1:=bi.out g rfl;have h2:=HV.out g e'.symm;have h3:=a7.out;omega
  clear bY bp;go_wp2;go_roundw
  case rel=>exact⟨k+1,by omega,by go_num,by rw[HT.out];exact bo,co,cm,ca⟩
  case measure=>exact aO):=h
def Fr(h:P:=by
 exact⟨u3,rfl,Z.le (by rw[az.out];omega),az.out▸(J.trans ((I.mono o_).trans (F.mono o_)))⟩):=h
def Pf{v' v:Value}{n m}(h:v'.ownBlock=v.ownBlock\/∃k,v'.ownBlock=some k/\m<=k)(hv:∀k,v.ownBlock=some k->k=n\/m<=k):∀k,v'.ownBlock=some k->k=n\/m<=k:=λk hk=>by
 rcases h with h|⟨j,h,hj⟩
 .exact hv k (h▸hk)
 .rw[h] at hk;cases hk;exact .inr hj
def Nb{L:List (Int×Int×Int)}{P:Int×Int×Int->Bool}{k}(h:k<L.length):(L.take (k+1)).filter P=(L.take k).filter P++(if P L[k] then [L[k]] else []):=by
 rw[UL h,List.filter_append];congr 1;simp only[List.filter_cons,List.filter_nil]
def L0(A B:Int)(hA:bj A)(hB:a_ B)(w):
 Kp 200 #[.agg #[A,B]] w (nK w (dC A B)):=by
 have ba:=h_ (MG A B hA hB);have b6:=h_ (λ(X Y E:Int) (h:ju A B X Y E) (W:World)=>wv A B X Y E hA hB h W);have bv:=h_ (λ(p:Int×Int×Int) (h:p∈fi A B)=>yH hA hB h);have aa:Hid ((fi A B).length<=12002):=pf A B 6001 (-3000);have G:Hid (dC A B=(0,0,0)::(fi A B).filter λp=>(b_ A B p).isSome):=rfl;generalize dC A B=R at G ⊢;generalize fi A B=L at G aa bv ba;obtain⟨kC,-,-⟩:=oh w #[A,B] 42 #[(),(),()] 46;have kS:=bD.built (w.alloc (.cells #[A,B] 42)) (0,0,0);obtain⟨-,-,J⟩:=oh w #[A,B] 42 #[(),(),()] 46;have a9:((w.alloc (.cells #[A,B] 42)).alloc (.cells #[(),(),()] 46)).heap.size=w.heap.size+1+1:=s_;simp at kS;go_enter Tryz.func200,Tryz.ntmps200;go_upto_region 2 with fail
 generalize (w.alloc _).alloc _=W,b0:w.heap.size+1=rS at *;generalize bx:w.heap.size=rC at *;have az:Hid (w.heap.size=rC):=bx;have a7:Hid (W.heap.size=rS+1):=a9;have b4:rC<rS:=o_;have cc:rS<W.heap.size:=o_;have⟨a4,a3⟩:=kC.q2;have a5:=kC.lt;go_wp2_with fail
 refine (ba.out _).mono ?_;rintro e w1 ⟨vl,rfl,ol,I⟩;have ax:=I.size;obtain⟨la,a2,rfl,H⟩:=id ol.form;have bi:=h_ ol.lt;go_wp2;go_loopw [3,13] (λv x wr=>∃k:Nat,k<=L.length/\x=.int .i64 (k:Int)/\bD wr rS v ((0,0,0)::(L.take k).filter λp=>(b_ A B p).isSome)/\(∀j,v.ownBlock=some j->j=rS\/w1.heap.size<=j)/\bD wr W (.slice la L.length a2) L/\Below rS w1 wr) (λ_ x _=>L.length - (intOf x).toNat)
 case atStart=>exact⟨0,UB _,rfl,(kS.below I),λj hj=>.inl (by simpa[Value.ownBlock] using hj.symm),ol,Uk _ _⟩
 case round=>
  obtain⟨k,hk,rfl,Z,hv,hl,F⟩:=hrel;have bX:=F.size;have a6:=aa.out;have mC:ag rC #[A,B] 42 wr:=(F.block rC b4).trans (kC.next I);by_cases aG:k<L.length
  .exact Lx
  .obtain rfl:k=L.length:=by omega
   rw[Ve,<-G.out] at Z;go_wp2;exact Uh (v:=u3) (by simp [results,Tryz.results200,go_sem]) rfl Fr
def Jk(h:P:=by simp [results,Tryz.results78,go_sem,q0,q1,q2]):=h
def FZ(h:P:=by
 generalize (World.setCell (World.setCell (World.setCell _ _ _) _ _) _ _)=w9 at k9 ad ⊢;obtain⟨q0,q1,q2⟩:=k9.q3;refine Uh (v:=.tuple #[.agg #[(),(),()],false]) Jk rfl ?_;exact⟨rfl,bx.out▸ad⟩):=h
def A_(A B X Y E:Int)(hC:be A B=true)(w):
 Kp 115 #[.agg #[A,B],.agg #[X,Y,E]] w λr w'=>r=.returned (.bool (dN A B X Y E))/\Below w w w':=by
 have⟨hA,hB⟩:=fe hC;have h0:=λW=>fP A B W;rw[hC] at h0;have HC:=h_ h0;have HP:=h_ (EJ A B X Y E hA hB);have⟨kC,kP,J⟩:=cr w #[A,B] 42 #[X,Y,E] 46;generalize dN A B X Y E=r at *;go_enter Tryz.func115,Tryz.ntmps115;go_upto_region 1 with fail
 generalize (w.alloc _).alloc _=W at *;have⟨a4,a3⟩:=kC.q2;have a5:=kC.lt;go_wp2_with fail
 refine ai (HC.out _) λw1 I=>?_;have H:=af I J.size J;replace kC:=kC.next I
 replace kP:=kP.next I
 have⟨a4,a3⟩:=kC.q2;have⟨bY,bZ,bX⟩:=kP.q3;go_wp2_with fail
 refine ai (HP.out _) λw2 U=>?_;go_wp2;go_ret;exact⟨rfl,(af U H.size H)⟩
def NK(A B X Y E n:Int)(hC:be A B=true)(G:bW A B (X,Y,E))(w:World):
 Rv 78 #[.agg #[A,B],.agg #[X,Y,E],n] w (cj (if av n (-12) 12 then gy A B (X,Y,E) n else none)):=by
 obtain⟨hA,hB⟩:=fe hC;have h0:=λW=>A_ A B X Y E hC W;rw[K4 G] at h0;have HP:=h_ h0;obtain⟨kC,kP,V,J⟩:=fh w #[A,B] 42 #[X,Y,E] 46 #[(),(),()] 46;cases hn:av n (-12) 12
 .simp;go_enter Tryz.func78,Tryz.ntmps78;go_upto_region 1 with fail
  generalize ((w.alloc _).alloc _).alloc _=W at *;have h2:w.heap.size<w.heap.size+1+1:=o_;generalize w.heap.size+1+1=rR at *;generalize w.heap.size+1=rP at *;generalize bs:w.heap.size=rC at *;have bx:Hid (w.heap.size=rC):=bs;obtain⟨a4,a3⟩:=kC.q2;have a5:=kC.lt;obtain⟨bY,bZ,bX⟩:=kP.q3;have b0:=kP.lt;go_wp2_with fail
  refine ai (HP.out _) λw1 I=>?_;have a6:=V.lt;have H:=af I o_ J;replace V:=V.next I
  replace kC:=kC.next I
  replace kP:=kP.next I
  obtain⟨_,_⟩:=kC.q2;obtain⟨_,_,_⟩:=kP.q3;go_upto_region 2 with ((go_at_call 104;refine ay (cw _ _ _ _) ?_))
  obtain⟨bz,b1,b3⟩:=V.q3;have aM:=V.frozen 0;have a1:=V.frozen 1;have a9:=V.frozen 2;have k9:=((V.set 0 ()).set 1 ()).set 2 ();have ad:Below rC w (((w1.setCell ⟨rR,0,none⟩ ()).setCell ⟨rR,1,none⟩ ()).setCell ⟨rR,2,none⟩ ()):=((H.setCell u_ _).setCell u_ _).setCell u_ _
  (repeat (first|go_skip|go_guarded|go_step))
  exact FZ
 .have HT:=h_ (Ck A B X Y E n hA hB G (bH hn));rw[Um rfl];cases hv:gy A B (X,Y,E) n with
  |none=>
   rw[hv] at HT;simp only[cj];go_enter Tryz.func78,Tryz.ntmps78;go_upto_region 1 with fail
   generalize ((w.alloc _).alloc _).alloc _=W at *;have h2:w.heap.size<w.heap.size+1+1:=o_;generalize w.heap.size+1+1=rR at *;generalize w.heap.size+1=rP at *;generalize bs:w.heap.size=rC at *;have bx:Hid (w.heap.size=rC):=bs;obtain⟨a4,a3⟩:=kC.q2;have a5:=kC.lt;obtain⟨bY,bZ,bX⟩:=kP.q3;have b0:=kP.lt;go_wp2_with fail
   refine ai (HP.out _) λw1 I=>?_;have a6:=V.lt;have H:=af I o_ J;replace V:=V.next I
   replace kC:=kC.next I
   replace kP:=kP.next I
   obtain⟨a4,a3⟩:=kC.q2;have a5:=kC.lt;obtain⟨bY,bZ,bX⟩:=kP.q3;have b0:=kP.lt;go_wp2_with ((go_at_call 104;refine ay (cw _ _ _ _) ?_))
   refine ai (HT.out _) λw2 U=>?_;simp only[cj];have az:=af U o_ H;replace V:=V.next U
   obtain⟨bz,b1,b3⟩:=V.q3;have aM:=V.frozen 0;have a1:=V.frozen 1;have a9:=V.frozen 2;have k9:=((V.set 0 ()).set 1 ()).set 2 ();have ad:Below rC w (((w2.setCell ⟨rR,0,none⟩ ()).setCell ⟨rR,1,none⟩ ()).setCell ⟨rR,2,none⟩ ()):=((az.setCell u_ _).setCell u_ _).setCell u_ _
   (repeat (first|go_skip|go_guarded|go_step))
   exact FZ
  |some r=>
   obtain⟨x,y,z⟩:=r;rw[hv] at HT;simp only[cj];go_enter Tryz.func78,Tryz.ntmps78;go_upto_region 1 with fail
   generalize ((w.alloc _).alloc _).alloc _=W at *;have h2:w.heap.size<w.heap.size+1+1:=o_;generalize w.heap.size+1+1=rR at *;generalize w.heap.size+1=rP at *;generalize bs:w.heap.size=rC at *;have bx:Hid (w.heap.size=rC):=bs;obtain⟨a4,a3⟩:=kC.q2;have a5:=kC.lt;obtain⟨bY,bZ,bX⟩:=kP.q3;have b0:=kP.lt;go_wp2_with fail
   refine ai (HP.out _) λw1 I=>?_;have a6:=V.lt;have H:=af I o_ J;replace V:=V.next I
   replace kC:=kC.next I
   replace kP:=kP.next I
   obtain⟨a4,a3⟩:=kC.q2;have a5:=kC.lt;obtain⟨bY,bZ,bX⟩:=kP.q3;have b0:=kP.lt;go_wp2_with ((go_at_call 104;refine ay (cw _ _ _ _) ?_))
   refine ai (HT.out _) λw2 U=>?_;simp only[cj];have az:=af U o_ H;replace V:=V.next U
   obtain⟨bz,b1,b3⟩:=V.q3;have aM:=V.frozen 0;have a1:=V.frozen 1;have a9:=V.frozen 2;have k9:=((V.set 0 x).set 1 y).set 2 z;have ad:Below rC w (((w2.setCell ⟨rR,0,none⟩ x).setCell ⟨rR,1,none⟩ y).setCell ⟨rR,2,none⟩ z):=((az.setCell u_ _).setCell u_ _).setCell u_ _
   (repeat (first|go_skip|go_guarded|go_step))
   generalize (World.setCell (World.setCell (World.setCell _ _ _) _ _) _ _)=w9 at k9 ad ⊢;obtain⟨q0,q1,q2⟩:=k9.q3;exact Uh (v:=.tuple #[.agg #[x,y,z],true]) Jk rfl ⟨rfl,bx.out▸ad⟩
end Go.Proofs.YtaamhakdhaolmaaGreatDoor
