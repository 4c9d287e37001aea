/- Part 17. -/
import Derived.Lib.AppendZerosOnto
import Derived.Lib.Overlaps
import Derived.Test.YtaamhakdhaolmaaGreatDoorSaq
namespace Go.Proofs.YtaamhakdhaolmaaGreatDoor
open Go.RowKit Go.Proofs.Tryz
set_option maxHeartbeats 8000000
set_option maxRecDepth 100000
variable {P:Prop}
set_option linter.all false
def pO(h:P:=by simp only[VI,VM];omega):=h
def FD(h:P:=by intro u hu;simp [dY] at hu;rcases hu with rfl|rfl|rfl|rfl|rfl<;>rfl):=h
def FM(h:P:=by simp [results,results276,go_sem]):=h
def Ah(h:P:=by
 go_enter func276,ntmps276;go_wp2_with (at_builtin;refine Lib.wpList_append_run _ rfl _ _ _ _ rfl _ _ rfl rfl _ _ hr ?_)
 go_ret;exact⟨_,rfl,H1.out,G.out⟩):=h
def tt{ops}{rest}{o}{a}{Q}(w)(aa:o.guard=none)(d s)(t g)
 (Z:o.op=.call {callee:=.builtin .copy,args:=#[d,s],argTypes:=#[t,g]})(v u)(hd:a.eval d=v)(hs:a.eval s=u){v'}{w'}
 (hr:(Builtin.copy_ #[t,g] o.type #[v,u]).run prog w=.ok v' w')(h:wpList prog ops Q rest (a.put o.dst v') w'):wpList prog ops Q (o::rest) a w:=by
 refine Y5 aa λK hK=>?_;unfold Oper.wp execOp;simp only[Z,resolve,invoke,builtin,Y6,Y7,Yk,Yt,WU,X7,hd,hs,hr];exact hK _ _ h
def tK(w)(ty)(g o F I)(a)(G J)(cur)(cs)(hg:w.heap[g]?=some (.cells cur 70 (0,0)))(hn:cs.length=Nat.min G F*5)
 (K:∀j v,cs[j]?=some v->w.cell? (a.add j)=some v)(H:o+cs.length<=cur.size)(h1:∀v∈cs,v.oneCell'=true):
 (Builtin.copy_ #[28,28] ty #[.slice (some ⟨g,o,none⟩) F I,.slice (some a) G J]).run prog w=
   .ok (goInt (Nat.min G F)) (w.setRow g (cur.toList.take o++cs++cur.toList.drop (o+cs.length)).toArray):=by
 have⟨U,hq,_,ac,_⟩:=WL Tryz.infoE;simp [Builtin.copy_,Yg underlying28,Builtin.lenOf,Builtin.firstCells,sizeOf,typeInfo,hq,ac,<-hn,(run_loadCells_list (P:=prog) w a cs K),(run_storeCells_at prog g o 70 cs 0 cur w hg (by simpa using H) h1)]
def uu{c x:List Value}{o}(h:o+x.length<=c.length):(c.take o++x++c.drop (o+x.length)).length=c.length:=by
 simp;omega
def RN{c E D:List Value}{p q}(hE:q=p+E.length)(h:q+D.length<=c.length):
 (((c.take q++D++c.drop (q+D.length)).take p++E++(c.take q++D++c.drop (q+D.length)).drop (p+E.length)).take (q+D.length))=c.take p++E++D:=by
 subst hE;have e1:(c.take (p+E.length)++D++c.drop (p+E.length+D.length)).take p=c.take p:=by
  rw[VX,Ww ot,YH];congr 1;omega
 have e2:(c.take (p+E.length)++D++c.drop (p+E.length+D.length)).drop (p+E.length)=D++c.drop (p+E.length+D.length):=by
  rw[VX,List.drop_append_of_le_length ot,XH ot,WP]
 rw[e1,e2,<-VX,Ww pO,VO pO]
def SA{c E D:List Value}{p q}(hE:q=p+E.length)(h:q+D.length<=c.length):
 (((c.take p++E++c.drop (p+E.length)).take q++D++(c.take p++E++c.drop (p+E.length)).drop (q+D.length)).take (q+D.length))=c.take p++E++D:=by
 subst hE;have e1:(c.take p++E++c.drop (p+E.length)).take (p+E.length)=c.take p++E:=by
  rw[Ww pO,VO pO]
 rw[e1,Ww pO,VO pO]
def Co(L)(e:E5)(i):bH (L.take i++e::L.drop i)=(bH L).take (i*5)++dY e++(bH L).drop (i*5):=by
 rw[wZ,mS,xf,xo,VX]
def QS(b0)(v)(L)(e:E5)(vb)(hL:L.length<=100)(w)(J:b0<=w.heap.size)(Z:an w b0 v L)(hv:an w vb (.slice vb 1 1) [e]):
 Kp 276 #[v,L.length,.slice vb 1 1] w λr w'=>∃v',r=.returned v'/\an w' b0 v' (L++[e])/\ai v.ownBlock.toList w w':=by
 have⟨v',w',hr,h1,h2,_⟩:=uh w b0 28 v _ L [e] Z hv.rd u_ J;obtain⟨a',c',rfl,_⟩:=h1.form;have ab:ai v.ownBlock.toList w w':=⟨h2.os,h2.tape,h2.output,h2.size,λk hk hn=>h2.block k hk (by
  cases hv:v.ownBlock with
  |none=>simp
  |some g=>rw[hv] at hn;simpa using hn)⟩
 obtain⟨a,F,rfl,bo,hf⟩:=Z.form;have G:=h_ ab;have H1:=h_ h1;rw[VI,XM] at hr H1;have H:F<=9223372036854775807/\(a=none->L.length=0/\F=0):=by
  rcases Z.2 with ⟨hv,_⟩|⟨g,aX,cur,hv,_,_,_,ae,_,_⟩
  .injection hv with e1 e2 e3;exact⟨o_,λ_=>⟨e2,e3⟩⟩
  .injection hv with e1 e2 e3;unfold maxLen at ae;exact⟨o_,λh=>by rw[h] at e1;cases e1⟩
 clear Z hf h1 h2 ab hv;cases a with
 |none=>
  have⟨h0,K⟩:=H.2 rfl;subst K;rw[h0] at hr H1 G ⊢;exact Ah
 |some ad=>
  have U:=hL;generalize L.length=n at *;by_cases I:F=n
  .subst I;exact Ah
  .exact Ah
def QK(b0 g F)(L)(e:E5)(vb i:Nat)(hi:i<L.length)(aF:L.length+1<=F)(hL:L.length<=100)(w)(Z:an w b0 (.slice (some ⟨g,0,none⟩) L.length F) L)(hv:ah vb #[e.1.1,e.1.2,e.2.1,e.2.2.1,e.2.2.2] 70 w)(hne:vb≠g):
 Kp 276 #[.slice g L.length F,i,.slice vb 1 1] w λr w'=>r=.returned (.slice (some ⟨g,0,none⟩) (L.length+1) F)/\an w' b0 (.slice (some ⟨g,0,none⟩) (L.length+1) F) (L.take i++e::L.drop i)/\ai [g] w w':=by
 rcases Z.2 with ⟨hv,_⟩|⟨g',aX,cur,K,hg,hh,aL,ae,a4,ht⟩
 .cases hv
 .injection K with e1 e2 e3;injection e1 with e1;injection e1 with e1;subst e1 e3;have aM:=lq L;obtain⟨n,hn⟩:∃n,L.length=n:=⟨_,rfl⟩
  obtain⟨k,hk⟩:∃k:Nat,i+1=k:=⟨_,rfl⟩
  obtain⟨n1,cc⟩:∃k:Nat,n+1=k:=⟨_,rfl⟩
  have co:(i:Int)+1=(k:Int):=o_;have b4:(n:Int)+1=(n1:Int):=o_;have a8:F<=9223372036854775807:=by unfold maxLen at ae;omega
  rw[hn] at ht aM hi aF hL aL ⊢;rw[cc] at aF ⊢;have a3:(dY e).length=5:=rfl;have hD:((bH L).drop (i*5)).length=(n - i)*5:=by rw[WF,aM];omega
  have a1:∀j u,((bH L).drop (i*5))[j]?=some u->w.drew.cell? ((⟨g,i*5,none⟩:Addr).add j)=some u:=λj u hj=>by
   rw[show (⟨g,i*5,none⟩:Addr).add j=⟨g,i*5+j,none⟩ by cases j<;>simp [Addr.add]];rw[W_] at hj;have aG:i*5+j<n*5:=by rw[<-aM];exact (V3.1 hj).1
   have h4:(cur.toList.take (n*5))[i*5+j]?=cur.toList[i*5+j]?:=VU aG;exact Aq
  have ax:Nat.min (n1 - i) (n1 - k)=n - i:=by simp only[Zp];split<;>omega
  have az:Nat.min 1 (n1 - i)=1:=by simp only[Zp];split<;>omega
  have aa:=λty dc sc=>tK w.drew ty g (k*5) (n1 - k) dc ⟨g,i*5,none⟩ (n1 - i) sc cur ((bH L).drop (i*5)) hh (by rw[hD,ax]) a1 (by rw[hD,a4];omega) (λu hu=>tC L u (Xf hu));obtain⟨G,H⟩:∃c,(cur.toList.take (k*5)++(bH L).drop (i*5)++cur.toList.drop (k*5+((bH L).drop (i*5)).length)).toArray=c:=⟨_,rfl⟩
  have bb:=uu (c:=cur.toList) (x:=(bH L).drop (i*5)) (o:=k*5) (by rw[hD];have:cur.toList.length=cur.size:=rfl;omega);have ac:G.size=cur.size:=by
   rw[<-H];exact bb.trans Vy
  rw[H] at aa;have a6:=Yq w.drew g cur G _ _ hh;have b9:ah vb #[e.1.1,e.1.2,e.2.1,e.2.2.1,e.2.2.2] 70 (w.drew.setRow g G):=(Zz w.drew g vb G hne).trans hv;have U:=λty dc=>tK (w.drew.setRow g G) ty g (i*5) (n1 - i) dc ⟨vb,0,none⟩ 1 1 G (dY e) a6 (by rw[az];rfl) (λj u hj=>by
   rw[show (⟨vb,0,none⟩:Addr).add j=⟨vb,j,none⟩ by cases j<;>simp [Addr.add]];rw[b9.cell j];simpa[dY] using hj) (by rw[a3,ac,a4];omega) FD
  obtain⟨I,J⟩:∃c,(G.toList.take (i*5)++dY e++G.toList.drop (i*5+(dY e).length)).toArray=c:=⟨_,rfl⟩
  rw[J,setRow_setRow] at U;have ad:=uu (c:=G.toList) (x:=dY e) (o:=i*5) (by rw[a3];have:G.toList.length=G.size:=rfl;omega);have a7:I.size=cur.size:=by
   rw[<-J];exact (ad.trans Vy).trans ac
  have V:an (w.drew.setRow g I) b0 (.slice g n1 F) (L.take i++e::L.drop i):=by
   have a5:(L.take i++e::L.drop i).length=n1:=u_;refine⟨by rw[lq],.inr ⟨g,F,I,by rw[a5],hg,Yq w.drew g cur I _ _ hh,o_,ae,o_,?_⟩⟩;have hR:=RN (c:=cur.toList) (E:=dY e) (D:=(bH L).drop (i*5)) (p:=i*5) (q:=k*5) (by rw[a3];omega) (by rw[hD,Vy,a4];omega);rw[a5,Co,<-J,<-H];simp only[Xm];rw[show n1*5=k*5+((bH L).drop (i*5)).length by rw[hD];omega,hR,<-ht,YH];congr 3;omega
  have ab:=((ai.refl [g] w).drew).trans (BY w.drew g I);have a2:∀lb cb,(callFunc 313 #[.slice vb 1 1,.slice (some ⟨g,k*5,none⟩) lb cb]).run prog w=.ok (.value false) w:=λlb cb=>by
   rw[YG func313 k_ k_ k_ (e:=Extern.SlicesOverlaps.overlaps #[28,28] #[4]) k_,
    Lib.run_overlaps_apart w 28 4 70 underlying28 5 Tryz.sizeOf70 ⟨vb,0,none⟩ ⟨g,k*5,none⟩ 1 1 lb cb hne 70 70 5 cur.size (by unfold World.shape?;rw[show w.heap[vb]?=_ from hv];rfl) (by unfold World.shape?;rw[hh]) o_ (hv.frozen 0) (hv.frozen 5)]
   rfl
  have aZ:=h_ V;have bp:=h_ ab;have g2:i<=n:=o_;have g3:k<=n1:=o_;have g4:¬(F:Int)<(n1:Int):=o_;have g5:¬F=i:=o_;have g6:¬F=k:=o_;have g7:i<=n1:=o_;have b5:IntKind.i64.wrap (k:Int)=(k:Int):=Wg _ o_;go_enter func276,ntmps276;go_wp2_with (simp only[a2])
  refine wp_region_still_tail 8 k_ k_ ?_;simp only[YF,Zr,VQ,V1];change wpStill _ _ w.drew (λa'=>wpList _ _ _ _ a' w.drew) _ _
  repeat still_step
  refine YK (tt _ rfl _ _ _ _ rfl _ _ rfl rfl (aa _ _ _) ?_);go_wp2_with (at_builtin;refine tt _ rfl _ _ _ _ rfl _ _ rfl rfl (U _ _) ?_)
  exact Vk (v:=.slice (some ⟨g,0,none⟩) n1 F) FM rfl ⟨rfl,aZ.out,bp.out⟩
def BD{n}{w W}(h:af n w W)(g)(cs)(hg:n<=g):af n w (W.setRow g cs):=
 ⟨h.os,h.tape,h.output,by simpa[World.setRow] using h.size,λk hk=>(Zz W g k cs o_).trans (h.block k hk)⟩
def PC(b0 g F)(L)(e:E5)(vb i:Nat)(hi:i<L.length)(aF:F<L.length+1)(hL:L.length<=100)(w)(J:b0<=w.heap.size)(Z:an w b0 (.slice (some ⟨g,0,none⟩) L.length F) L)(hv:ah vb #[e.1.1,e.1.2,e.2.1,e.2.2.1,e.2.2.2] 70 w):
 Kp 276 #[.slice (some ⟨g,0,none⟩) L.length F,i,.slice vb 1 1] w λr w'=>∃v',r=.returned v'/\an w' b0 v' (L.take i++e::L.drop i)/\af w w w':=by
 rcases Z.2 with ⟨hv,_⟩|⟨g',aX,cur,K,hg,hh,aL,ae,a4,ht⟩
 .cases hv
 .injection K with e1 e2 e3;injection e1 with e1;injection e1 with e1;subst e1 e3;have aM:=lq L;obtain⟨n,hn⟩:∃n,L.length=n:=⟨_,rfl⟩
  obtain⟨k,hk⟩:∃k:Nat,i+1=k:=⟨_,rfl⟩
  obtain⟨n1,cc⟩:∃k:Nat,n+1=k:=⟨_,rfl⟩
  obtain⟨d,hd⟩:∃k:Nat,n1 - i=k:=⟨_,rfl⟩
  have co:(i:Int)+1=(k:Int):=o_;have b4:(n:Int)+1=(n1:Int):=o_;have bY:(n1:Int) - (i:Int)=(d:Int):=o_;rw[hn] at ht aM hi aF hL aL ⊢;obtain rfl:F=n:=o_
  have a3:(dY e).length=5:=rfl;have hD:((bH L).drop (i*5)).length=(F - i)*5:=by rw[WF,aM];omega
  have hT:((bH L).take (i*5)).length=i*5:=by rw[VM,aM];omega
  have H:∀j u,(bH L)[j]?=some u->w.cell? ⟨g,j,none⟩=some u:=λj u hj=>by
   have aG:j<F*5:=by rw[<-aM];exact (V3.1 hj).1
   have h4:(cur.toList.take (F*5))[j]?=cur.toList[j]?:=VU aG;exact Aq
  have a6:=(Vz.1 hh).1;have b3:=hv.lt;have⟨U,a2,bi,ac,ba⟩:=WL Tryz.infoE;have bx:(Builtin.firstCells U.size i (.slice g i F)).run prog w.drew=.ok ((bH L).take (i*5)).toArray w.drew:=by
   rw[ac];exact run_firstCells_some w.drew 5 i ⟨g,0,none⟩ i F ((bH L).take (i*5)) hT (λj u hj=>by
    rw[show (⟨g,0,none⟩:Addr).add j=⟨g,j,none⟩ by cases j<;>simp [Addr.add]];rw[X8] at hj;split at hj
    .exact H j u hj
    .cases hj)
  have hid:i+d=n1:=o_;obtain⟨G,hG⟩:∃G,grownCap w n1 F 70=G:=⟨_,rfl⟩
  obtain⟨I,ad⟩:∃I:Array Value,((bH L).take (i*5)).toArray++Builtin.zeroCells (Value.agg #[.int .i64 0,.int .i64 0,.int .i64 0,.int .i64 0,.int .i64 0]).cells d++Builtin.zeroCells (Value.agg #[.int .i64 0,.int .i64 0,.int .i64 0,.int .i64 0,.int .i64 0]).cells (G - n1)=I:=⟨_,rfl⟩
  have b8:n1<=G:=by rw[<-hG];exact grownCap_ge w _ _ _
  have bo:G<=maxLen:=by rw[<-hG];exact grownCap_le_maxLen w _ _ _ pN
  have b7:G<=9223372036854775807:=by unfold maxLen at bo;omega
  have a8:=λty=>by
   have h:=Lib.run_append_grow_zeros w 28 3 ty 70 U _ .i64 .i64 underlying28 underlying3 a2 bi g i F ((bH L).take (i*5)) bx d o_ (by rw[ac];decide) o_ o_ (by rw[ba];omega) (by rw[ba,hid];exact growslice_fits o_ o_);rw[hid,hG,ad] at h;exact h
  have bz:I.size=G*5:=by
   rw[<-ad];simp only[Array.size_append,size_zeroCells];have e1:((bH L).take (i*5)).toArray.size=i*5:=hT;have e2:(Value.agg #[Value.int .i64 0,(),(),(),()]).cells.size=5:=rfl;rw[e1,e2];omega
  have b2:I.toList.take (i*5)=(bH L).take (i*5):=by
   rw[<-ad];simp;rw[Ww (by rw[hT];omega)];exact VO (by rw[hT];omega)
  obtain⟨r,hr⟩:∃r,w.heap.size=r:=⟨_,rfl⟩
  obtain⟨W1,a7⟩:∃W1,w.drew.alloc (.cells I 70)=W1:=⟨_,rfl⟩
  have kN:W1.heap[r]?=some (.cells I 70 (0,0)):=by rw[<-a7,<-hr];exact ah.new w.drew I 70
  have a1:af w w W1:=by rw[<-a7];exact ((Vn w w).drew).alloc (Vj _) _
  have b9:=hv.next a1
  have az:Nat.min 1 (n1 - i)=1:=by simp only[Zp];split<;>omega
  have ax:Nat.min (F - i) (n1 - k)=F - i:=by simp only[Zp];split<;>omega
  have bb:=λty dc=>tK W1 ty r (i*5) (n1 - i) dc ⟨vb,0,none⟩ 1 1 I (dY e) kN (by rw[az];rfl) (λj u hj=>by
   rw[show (⟨vb,0,none⟩:Addr).add j=⟨vb,j,none⟩ by cases j<;>simp [Addr.add]];rw[b9.cell j];simpa[dY] using hj) (by rw[a3,bz];omega) FD
  obtain⟨cA,bq⟩:∃c,(I.toList.take (i*5)++dY e++I.toList.drop (i*5+(dY e).length)).toArray=c:=⟨_,rfl⟩
  have bZ:=uu (c:=I.toList) (x:=dY e) (o:=i*5) (by rw[a3];have:I.toList.length=I.size:=rfl;omega);have a9:cA.size=I.size:=by rw[<-bq];exact bZ.trans Vy
  rw[bq] at bb;obtain⟨W2,b6⟩:∃W2,W1.setRow r cA=W2:=⟨_,rfl⟩
  have kA:W2.heap[r]?=some (.cells cA 70 (0,0)):=by rw[<-b6];exact Yq W1 r I cA _ _ kN
  have aa:af w w W2:=by rw[<-b6];exact BD a1 r cA o_
  rw[b6] at bb;have bv:=λty dc sc=>tK W2.drew ty r (k*5) (n1 - k) dc ⟨g,i*5,none⟩ (F - i) sc cA ((bH L).drop (i*5)) kA (by rw[hD,ax]) (λj u hj=>by
   rw[show (⟨g,i*5,none⟩:Addr).add j=⟨g,i*5+j,none⟩ by cases j<;>simp [Addr.add]];rw[W_] at hj;exact (aa.drew.cell (p:=⟨g,i*5+j,none⟩) a6).trans (H _ u hj)) (by rw[hD,a9,bz];omega) (λu hu=>tC L u (Xf hu))
  obtain⟨cB,bs⟩:∃c,(cA.toList.take (k*5)++(bH L).drop (i*5)++cA.toList.drop (k*5+((bH L).drop (i*5)).length)).toArray=c:=⟨_,rfl⟩
  have bX:=uu (c:=cA.toList) (x:=(bH L).drop (i*5)) (o:=k*5) (by rw[hD];have:cA.toList.length=cA.size:=rfl;omega);have b1:cB.size=I.size:=by rw[<-bs];exact (bX.trans Vy).trans a9
  rw[bs] at bv;have V:an (W2.drew.setRow r cB) b0 (.slice r n1 G) (L.take i++e::L.drop i):=by
   have a5:(L.take i++e::L.drop i).length=n1:=u_;refine⟨by rw[lq],.inr ⟨r,G,cB,by rw[a5],o_,Yq W2.drew r cA cB _ _ kA,o_,bo,o_,?_⟩⟩;have hR:=SA (c:=I.toList) (E:=dY e) (D:=(bH L).drop (i*5)) (p:=i*5) (q:=k*5) (by rw[a3];omega) (by rw[hD];have:I.toList.length=I.size:=rfl;omega);rw[a5,Co,<-bs,<-bq];simp only[Xm];rw[show n1*5=k*5+((bH L).drop (i*5)).length by rw[hD];omega,hR,b2]
  have ab:=BD aa.drew r cB o_;rw[a7] at a8;rw[hr] at a8;have aZ:=h_ V;have bp:=h_ ab;have g2:i<=F:=o_;have g3:k<=n1:=o_;have g4:(F:Int)<(n1:Int):=o_;have g5:¬F=i:=o_;have g6:¬G=k:=o_;have g7:i<=n1:=o_;have g9:¬G=i:=o_;have b5:IntKind.i64.wrap (k:Int)=(k:Int):=Wg _ o_;have ca:IntKind.i64.wrap (d:Int)=(d:Int):=Wg _ o_;clear hr hk hn cc hd V ab bZ bX bq bs a9 b1 kA kN a7 b6 a1 aa b9 ax az b2 bz ad hG bo bx a2 bi ac ba H a6 b3 hT hD a3 ht aM hh a4 hv Z e2 hid ae;go_enter func276,ntmps276;go_wp2_with (first|(at_builtin;refine Lib.wpList_append_run _ rfl _ _ _ _ rfl _ _ rfl rfl _ _ (a8 _) ?_)|(at_builtin;refine tt _ rfl _ _ _ _ rfl _ _ rfl rfl (bb _ _) ?_))
  refine wp_region_still_tail 8 k_ k_ ?_;simp;change wpStill _ _ W2.drew (λa'=>wpList _ _ _ _ a' W2.drew) _ _
  repeat still_step
  refine YK (tt _ rfl _ _ _ _ rfl _ _ rfl rfl (bv _ _ _) ?_);go_wp2;exact Vk (v:=.slice (some ⟨r,0,none⟩) n1 G) FM rfl ⟨_,rfl,aZ.out,bp.out⟩
def IS(h:P:=by unfold fN;rw[show df ((A,B),lo,hi,t).1 L=false from hh];rfl):=h
def zN(h:P:=by simp [results,results220,go_sem]):=h
def JP(h:P:=by have:=cT.out;cases mo with|none=>rfl|some x=>cases this):=h
def LT(h:P:=by
 refine aR [10] ?_;refine am.cons ?_ ?_
 .refine fB (v:=.agg #[a3,b3,lo3,hi3,t3]) [] [] (.inl cN) ao (λ_ _ h _=>h) s_ (λhne=>?_)
  try simp only[Value.cells]
  refine aE hne (bk 11 1) 0 (KD.closed ao _) aB ?_;refine jp k_ (λWz a7 aX=>?_) _;exact bp dl Wz ⟨a7,aX.1,o_,aX.2.head⟩
 exact am.nil):=h
def Qt(b0)(v)(L)(e:E5)(vb i:Nat)(hi:i<=L.length)(hL:L.length<=100)(w)(J:b0<=w.heap.size)(Z:an w b0 v L)(hv:ah vb #[e.1.1,e.1.2,e.2.1,e.2.2.1,e.2.2.2] 70 w)(hne:∀g,v.ownBlock=some g->vb≠g):
 Kp 276 #[v,i,.slice vb 1 1] w λr w'=>∃v',r=.returned v'/\an w' b0 v' (L.take i++e::L.drop i)/\ai v.ownBlock.toList w w':=by
 rcases YP hi with rfl|aG
 .have ae:an w vb (.slice vb 1 1) [e]:=by
   refine⟨by rw[lq],.inr ⟨vb,1,_,rfl,Vj _,hv,Vj _,by unfold maxLen;omega,rfl,rfl⟩⟩
  rw[Wa,Y9];exact QS b0 v L e vb hL w J Z ae
 .obtain⟨a,F,rfl,bo,hf⟩:=Z.form;obtain⟨g,rfl,_⟩:=hf i aG;by_cases hr:L.length+1<=F
  .exact (QK b0 g F L e vb i aG hr hL w Z hv (hne g rfl)).mono λ_ _ ⟨h1,h2,h3⟩=>⟨_,h1,h2,h3⟩
  .exact (PC b0 g F L e vb i aG o_ hL w J Z hv).mono λ_ _ ⟨v',h1,h2,h3⟩=>⟨v',h1,h2,.of_below h3⟩
def OV(L):∀(i) (_:i<L.length) (m:E5),bH (L.set i m)=(((((bH L).set (i*5) m.1.1).set (i*5+1) m.1.2).set (i*5+2) m.2.1).set (i*5+3) m.2.2.1).set (i*5+4) m.2.2.2:=by
 induction L with
 |nil=>intro i h;simp at h
 |cons p r g=>
  intro i h m;cases i with
  |zero=>simp [bH,dY]
  |succ i=>
   have:=g i kH m;rw[Wx,mS,this,mS,show (i+1)*5=i*5+5 by omega];simp [dY]
def an.store{w}{b0 g n F i}{L}(h:an w b0 (.slice (some ⟨g,0,none⟩) n F) L)(hi:i<L.length)(m:E5):
 an (((((w.setCell ⟨g,i*5,none⟩ m.1.1).setCell ⟨g,i*5+1,none⟩ m.1.2).setCell ⟨g,i*5+2,none⟩ m.2.1).setCell ⟨g,i*5+3,none⟩ m.2.2.1).setCell ⟨g,i*5+4,none⟩ m.2.2.2) b0 (.slice g n F) (L.set i m):=by
 have hn:n=L.length:=by
  rcases h.2 with ⟨h0,_⟩|⟨g',aX,cur,hv,_⟩
  .cases h0
  .injection hv
 subst hn;unfold an at h ⊢;rw[List.length_set,OV _ _ hi];exact pl (pl (pl (pl (pl h rfl _ _) rfl _ _) rfl _ _) rfl _ _) rfl _ _
def fN(L:bM)(e:E5):Option (bM):=if df e.1 L=true then (match L[plc e.1 L]? with|some x=>(eE x e).map λm=>L.set (plc e.1 L) m|none=>none) else some (L.take (plc e.1 L)++e::L.drop (plc e.1 L))
def BZ{L}(h:L.length<=12)(e:E5):gw L e=(fN L e).bind λM=>if M.length<=12 then some M else none:=by
 unfold gw fN;have G:=mv e.1 L;split
 .cases hx:L[plc e.1 L]? with
  |none=>rfl
  |some x=>
   simp only;cases eE x e with
   |none=>rfl
   |some m=>simp [h]
 .simp only[Yu];have hl:(L.take (plc e.1 L)++e::L.drop (plc e.1 L)).length=L.length+1:=u_;rw[hl];by_cases h1:L.length<=11
  .rw[Vo h1,Vo o_]
  .rw[Vm h1,Vm o_]
def wJ(L:bM)(e:E5)(w:World)(r:Ending)(w':World):Prop:=∃v,r=.returned (.tuple #[v,.bool (gw L e).isSome])/\(∀M,gw L e=some M->an w' w v M)/\af w w w'
def OU(b0:Nat)(v0:Value)(L:bM)(e:E5)(vb:Nat)(hL:eJ L)(w:World)(bq:vb<w.heap.size)(Z:an w b0 v0 L)(hv:ah vb #[e.1.1,e.1.2,e.2.1,e.2.2.1,e.2.2.2] 70 w):
 Kp 220 #[v0,.slice (some ⟨vb,0,none⟩) 1 1] w (wJ L e w):=by
 have hT:=BZ hL.2.2 e;have b5:=hL.2.2;have aF:=h_ (D8 b0 v0 L o_ w Z);have c1:=h_ (λv W b0 (h:an W b0 v L)=>Up b0 v L e hL W h);have co:=h_ (λb0 v W vb i (h1:i<=L.length) (h2:b0<=W.heap.size) h3 h4 h5=>Qt b0 v L e vb i h1 o_ W h2 h3 h4 h5);have ca:=mv e.1 L;have ac:=@lH e.1 L;obtain⟨a0,c5,rfl,_,_⟩:=Z.form;have HV:∀g,g=plc e.1 L->True:=λ_ _=>trivial;clear HV;obtain⟨⟨A,B⟩,lo,hi,t⟩:=e;simp at c1;simp only at hv ca ac co;obtain⟨S,hS⟩:∃S,w.heap.size=S:=⟨_,rfl⟩
 have db:vb<S:=hS▸bq;clear Z bq;go_enter func220,ntmps220;go_wp2_with fail
 refine aF.out.mono ?_;rintro r w1 ⟨v1,rfl,ax,I⟩;rw[hS] at ax I;have HS:=h_ hS;clear hS aF;have b9:=hv.next (I.mono (by rw[HS.out];exact Vj _))
 obtain⟨a1,J,rfl,_,a6⟩:=ax.form;have cG:S<=w1.heap.size:=HS.out▸I.size;have c9:vb<w1.heap.size:=o_;go_upto_region 3 with fail
 go_loopw [6,17] (λov iv wr=>(iv=.int .i64 0/\ov=.slice a1 L.length J/\wr=w1)\/(iv=.int .i64 1/\∃M:bM,Hid (fN L ((A,B),lo,hi,t)=some M)/\an wr S ov M/\M.length<=100/\af S w wr)) (λ_ iv _=>1 - (intOf iv).toNat)
 case atStart=>exact .inl ⟨rfl,rfl,rfl⟩
 case round=>
  rcases hrel with ⟨rfl,rfl,rfl⟩|⟨rfl,M,HM,c8,da,b7⟩
  .rename World=>wr
   have⟨d0,d1,d2,d3,d4⟩:=b9.q5;have⟨kE,ab⟩:=ay wr #[A,B,lo,hi,t] 70;have aL:=ag ab cG I;have bs:=ax.below ab;go_upto_region 5 with fail
   generalize wr.alloc _=W,wr.heap.size=r8 at *;have H1:=h_ (c1.out _ W S bs);have⟨a4,aZ,a8,a5,ad,bv⟩:=kE.p5;go_wp2_with fail
   refine H1.out.mono ?_;rintro r w2 ⟨rfl,U⟩;have cb:=HS.out▸aL.size;replace aL:=ag U cb aL;replace cb:=Vl cb U.size;replace bs:=bs.below U;replace kE:=kE.next U
   cases hh:df (A,B) L
   .have cA:Hid (fN L ((A,B),lo,hi,t)=some (L.take (plc (A,B) L)++((A,B),lo,hi,t)::L.drop (plc (A,B) L))):=h_ IS;generalize plc (A,B) L=p at *;have⟨a4,aZ,a8,a5,ad⟩:=kE.q5;have⟨kB,ab⟩:=ay w2 #[A,B,lo,hi,t] 70;have F:=ag ab cb aL;have K:=bs.lt;have bx:=bs.below ab;have H2:=h_ (co.out S (.slice a1 L.length J) (w2.alloc (.cells #[A,B,lo,hi,t] 70)) w2.heap.size p ca (Vl cb ab.size) bx kB (λg hg=>by have:=(K g hg).2;omega));go_wp2_with fail
    refine H2.out.mono ?_;rintro r w4 ⟨v4,rfl,bb,bo⟩;have b8:=bo.belowGe F (HS.out▸F.size) (λg hg=>by
     have h9:Value.ownBlock (.slice a1 L.length J)=some g:=by simpa using hg
     exact (K g h9).1)
    go_wp2;go_roundw
    case rel=>exact .inr ⟨rfl,_,cA,bb,u_,b8⟩
    case measure=>simp [intOf]
   .obtain⟨G,hc⟩:=ac.1 hh;obtain⟨aa,cc,c6,_,c0⟩:=bs.form;injection c6 with e1 e2 e3;subst e1 e3;obtain⟨g,rfl,hg,b6,c3,q0,q1,q2,q3,q4⟩:=c0 _ G;have cu:fN L ((A,B),lo,hi,t)=(eE (L[plc (A,B) L]'G) ((A,B),lo,hi,t)).map λm=>L.set (plc (A,B) L) m:=by
     unfold fN;rw[show df ((A,B),lo,hi,t).1 L=true from hh,Vo rfl];rw[show L[plc ((A,B),lo,hi,t).1 L]?=some (L[plc (A,B) L]'G) from Vv G]
    have cQ:∀W,Kp 277 #[cI (L[plc (A,B) L]'G),cI ((A,B),lo,hi,t)] W λr w'=>r=.returned (.tuple #[cI (oG (L[plc (A,B) L]'G) ((A,B),lo,hi,t)),.bool (eE (L[plc (A,B) L]'G) ((A,B),lo,hi,t)).isSome])/\af W.heap.size W w':=λW=>Nb (L[plc (A,B) L]'G) ((A,B),lo,hi,t) W;have cy:=λm'=>@Sc (L[plc (A,B) L]'G) ((A,B),lo,hi,t) m';clear hh ac hc c0 e2;have c4:(plc (A,B) L:Int)<(L.length:Int):=o_;generalize plc (A,B) L=p at *;generalize (L[p]'G)=x at *;generalize oG x ((A,B),lo,hi,t)=m at *;generalize eE x ((A,B),lo,hi,t)=mo at *;obtain⟨⟨a2,b2⟩,bY,bZ,t2⟩:=x;obtain⟨⟨a3,b3⟩,lo3,hi3,t3⟩:=m;simp only[cI] at cQ q0 q1 q2 q3 q4;have bz:=h_ cQ;have cA:=h_ cu;have cv:=h_ cy;clear cQ cu cy;have⟨a4,aZ,a8,a5,ad,bv⟩:=kE.p5;go_upto_region 8 with fail
    generalize c2:mo.isSome=ok at *;have cT:=h_ c2;clear c2;apply fZ (λdl Wz=>ai [] w2 Wz/\(λ_=>True) Wz/\w2.heap.size<=dl/\ah dl #[a3,b3,lo3,hi3,t3] 70 Wz)
    .intro bp;refine bw [] (λ_=>false) (λ_=>True) (KD (λ_=>True) []) k_ ⟨trivial,bU.nil _⟩ ?_;refine aE ⟨w2,ai.refl _ _,trivial,bU.nil _⟩ (cj 5 0) 7 (KD.closed ao _) aB ?_;refine aR [5,9] ?_;refine am.cons ?_ ?_
     .refine ep (v:=.tuple #[.agg #[a3,b3,lo3,hi3,t3],ok]) (some 40) (λ_=>True) ao (λ_ _=>by simp) (λw' hC=>(bz.out w').mono λ_ _ h=>⟨h.1,.of_below h.2,trivial⟩) (λhne=>?_);refine ap ?_;refine aE hne (bk 6 3) 3 (KD.closed ao _) aB ?_;refine aR [9] ?_;refine am.cons ?_ ?_
      .refine dB (zs:=#[(),(),(),(),()]) (T:=70) ao (λdl cN ae hne=>?_);refine ap ?_;exact LT
      exact am.nil
     refine am.cons ?_ ?_
     .refine dB (zs:=#[(),(),(),(),()]) (T:=70) ao (λdl cN ae hne=>?_);refine ap ?_;refine aR [5] ?_;refine am.cons ?_ ?_
      .refine ep (v:=.tuple #[.agg #[a3,b3,lo3,hi3,t3],ok]) (some 40) (λ_=>True) ao (λ_ _=>by simp) (λw' hC=>(bz.out w').mono λ_ _ h=>⟨h.1,.of_below h.2,trivial⟩) (λhne=>?_);refine ap ?_;refine aE hne (bk 6 3) 2 (KD.closed ao _) aB ?_;exact LT
      exact am.nil
     exact am.nil
    rintro rM W3 ⟨bi,_,b4,kM⟩;have b1:=bi.below;have F:=ag b1 cb aL;replace cb:=Vl cb b1.size;have bx:=bs.below b1;have c7:=Vp hg b1.size;have H:∀o,W3.frozen? ⟨g,o,none⟩=false:=λo=>(b1.frozen (p:=⟨g,o,none⟩) hg).trans (c3 o);replace q0:=(b1.cell (p:=⟨g,p*5,none⟩) hg).trans q0;replace q1:=(b1.cell (p:=⟨g,p*5+1,none⟩) hg).trans q1;replace q2:=(b1.cell (p:=⟨g,p*5+2,none⟩) hg).trans q2;replace q3:=(b1.cell (p:=⟨g,p*5+3,none⟩) hg).trans q3;replace q4:=(b1.cell (p:=⟨g,p*5+4,none⟩) hg).trans q4;clear a4 aZ a8 a5 ad bv kE c3 bi b1 bs hg bz;cases ok
    .have cZ:mo=none:=Option.isNone_iff_eq_none.1 JP;have HN:Hid (gw L ((A,B),lo,hi,t)=none):=h_ (by rw[hT,cA.out,cZ];rfl);go_wp2;refine Vk (v:=.tuple #[.slice none 0 0,false]) zN rfl ?_;exact⟨_,by rw[HN.out];rfl,(λM h=>by rw[HN.out] at h;cases h),HS.out▸F⟩
    .obtain⟨m',cP⟩:∃m',mo=some m':=Xe.1 cT.out;have cW:=cv.out m' cP;have HM:Hid (fN L ((A,B),lo,hi,t)=some (L.set p ((a3,b3),lo3,hi3,t3))):=h_ (by rw[cA.out,cP,<-cW];rfl);have V:=bx.store G ((a3,b3),lo3,hi3,t3);simp only at V;have f0:=H (p*5);have f1:=H (p*5+1);have f2:=H (p*5+2);have f3:=H (p*5+3);have f4:=H (p*5+4);have b8:af S w _:=(((((F.setCell (p:=⟨g,p*5,none⟩) b6 a3).setCell (p:=⟨g,p*5+1,none⟩) b6 b3).setCell (p:=⟨g,p*5+2,none⟩) b6 lo3).setCell (p:=⟨g,p*5+3,none⟩) b6 hi3).setCell (p:=⟨g,p*5+4,none⟩) b6 t3)
     have⟨a9,ba,cz,cF,cX,bX⟩:=kM.p5;clear cP cW cA cv cT H bx;go_upto_region 12 with fail
     clear q0 q1 q2 q3 q4 f0 f1 f2 f3 f4 a9 ba cz cF cX bX;generalize World.setCell _ _ _=W4 at *;go_wp2;go_roundw
     case rel=>exact .inr ⟨rfl,_,HM,V,u_,b8⟩
     case measure=>simp [intOf]
  .rename World=>wr
   obtain⟨aM,cM,rfl,_,_⟩:=c8.form;have cm:(M.length:Int)<=12\/(12:Int)<(M.length:Int):=o_;rcases cm with cm|aG
   .have cB:¬(12:Int)<(M.length:Int):=o_;have az:Hid (gw L ((A,B),lo,hi,t)=some M):=h_ (by rw[hT,HM.out];simp only[Yu];rw[Vo o_]);go_wp2;refine Vk (v:=.tuple #[.slice aM M.length cM,true]) zN rfl ?_;exact⟨_,by rw[az.out];rfl,(λM' h=>by rw[az.out] at h;injection h with h;subst h;exact HS.out▸c8),HS.out▸b7⟩
   .have az:Hid (gw L ((A,B),lo,hi,t)=none):=h_ (by rw[hT,HM.out];simp only[Yu];rw[Vm o_]);go_wp2;refine Vk (v:=.tuple #[.slice none 0 0,false]) zN rfl ?_;exact⟨_,by rw[az.out];rfl,(λM h=>by rw[az.out] at h;cases h),HS.out▸b7⟩
def vI(h:P:=by unfold jG;rw[aa];rfl):=h
def vP(h:P:=by unfold iT;rw[hh];rfl):=h
def G8(h:P:=by simp [results,results163,go_sem]):=h
def Jp(h:P:=by simp [results,results143,go_sem]):=h
def jG(L:bM)(e:E5):Option (bM):=if gj e=true then gw L e else none
def fd(o:Option (bM))(w:World)(r:Ending)(w':World):Prop:=∃v,r=.returned (.tuple #[v,o.isSome])/\(∀M,o=some M->an w' w v M)/\af w w w'
def fd.some{M}{w w':World}{v}(h:an w' w v M)(hb:af w w w'):fd (some M) w (.returned (.tuple #[v,true])) w':=
 ⟨v,rfl,λM' J=>by injection J with J;subst J;exact h,hb⟩
def fd.none{w w':World}{v}(hb:af w w w'):fd none w (.returned (.tuple #[v,false])) w':=
 ⟨v,rfl,(λM' J=>by cases J),hb⟩
def O4(b0)(v)(L)(e:E5)(hL:eJ L)(w)(Z:an w b0 v L):
 Kp 163 #[v,cI e] w (fd (jG L e) w):=by
 have HG:=h_ (λW (hb:af w w W)=>w_ b0 v L hL W (Z.below hb));have HE:=h_ (xV e);have HM:=h_ (λW vb h1 (hb:af w w W) h2=>OU b0 v L e vb hL W h1 (Z.below hb) h2);obtain⟨a,F,rfl,_,_⟩:=Z.form;cases aa:gj e
 .have HV:Hid (jG L e=none):=h_ vI;rw[HV.out];rw[aa] at HE;obtain⟨⟨A,B⟩,lo,hi,t⟩:=e;simp only[cI] at HE ⊢;have⟨kE,J⟩:=ay w #[A,B,lo,hi,t] 70;go_enter func163,ntmps163;go_upto_region 1 with fail
  generalize w.alloc _=W at *;go_wp2_with fail
  refine (HG.out W J).mono ?_;rintro r w1 ⟨rfl,I⟩;have H:=ag I J.size J;replace kE:=kE.next I
  have⟨a4,aZ,a8,a5,ad⟩:=kE.q5;go_wp2_with fail
  refine (HE.out w1).mono ?_;rintro r w2 ⟨rfl,U⟩;have ax:=ag U H.size H;go_wp2;exact Vk (v:=.tuple #[.slice none 0 0,false]) G8 rfl (fd.none ax)
 .have HV:Hid (jG L e=gw L e):=h_ vI;rw[HV.out];rw[aa] at HE;have HP:Hid (∀W r w',wJ L e W r w'->w.heap.size<=W.heap.size->af w w W->fd (gw L e) w r w'):=h_ (λW r w' ⟨v,h1,h2,h3⟩ hs hb=>⟨v,h1,λM hM=>(h2 M hM).le hs,ag h3 hs hb⟩);have bz:=h_ (λW vb h1 hb h2=>HM.out W vb h1 hb h2);have g:Hid (∀W r w',wJ L e W r w'->∃v,r=.returned (.tuple #[v,.bool (gw L e).isSome])):=h_ (λW r w' ⟨v,h1,_,_⟩=>⟨v,h1⟩);obtain⟨te,V⟩:∃te,(gw L e).isSome=te:=⟨_,rfl⟩
  have ac:=h_ V;obtain⟨P,hP⟩:∃P,wJ L e=P:=⟨_,rfl⟩
  obtain⟨R,hR⟩:∃R,gw L e=R:=⟨_,rfl⟩
  rw[hR] at HP g V ⊢;rw[hP] at bz HP g;rw[V] at g;obtain⟨⟨A,B⟩,lo,hi,t⟩:=e;simp only[cI] at HE bz ⊢;have⟨kE,J⟩:=ay w #[A,B,lo,hi,t] 70;go_enter func163,ntmps163;go_upto_region 1 with fail
  generalize w.alloc _=W at *;go_wp2_with fail
  refine (HG.out W J).mono ?_;rintro r w1 ⟨rfl,I⟩;have H:=ag I J.size J;replace kE:=kE.next I
  have⟨a4,aZ,a8,a5,ad,bv⟩:=kE.p5;go_wp2_with fail
  refine (HE.out w1).mono ?_;rintro r w2 ⟨rfl,U⟩;have ax:=ag U H.size H;replace kE:=kE.next U
  have⟨a4,aZ,a8,a5,ad⟩:=kE.q5;have⟨kB,ab⟩:=ay w2 #[A,B,lo,hi,t] 70;have az:=ag ab ax.size ax;have H2:=h_ (bz.out _ w2 s_ az kB);go_wp2_with fail
  refine H2.out.mono ?_;intro r w4 G;have b7:=HP.out _ r w4 G az.size az;obtain⟨v4,rfl⟩:=g.out _ r w4 G;have HF:=h_ b7;go_wp2;exact Vk (v:=.tuple #[v4,te]) G8 rfl HF.out
def SR(b0)(v)(L)(A B:Int)(hL:eJ L)(w)(Z:an w b0 v L):
 Kp 143 #[v,.agg #[A,B]] w (fd (iT L (A,B)) w):=by
 have HI:=h_ (λW (hb:af w w W)=>CC b0 v L A B hL W (Z.below hb));have HC:=h_ (λW (hb:af w w W)=>D8 b0 v L (Vl hL.2.2 o_) W (Z.below hb));have HD:=h_ (λb0 v i k h1 h2 W h3=>Qr b0 v L i k h1 h2 (Vl hL.2.2 o_) W h3);obtain⟨a,F,rfl,_,_⟩:=Z.form;have b5:=hL.2.2;have⟨kC,J⟩:=ay w #[A,B] 42;cases hh:df (A,B) L
 .rw[hh] at HI;have HV:Hid (iT L (A,B)=none):=h_ vP;rw[HV.out];generalize li (A,B) L=ix at *;go_enter func143,ntmps143;go_upto_region 1 with fail
  generalize w.alloc _=W at *;have⟨a4,a3⟩:=kC.q2;go_wp2_with fail
  refine (HI.out W J).mono ?_;rintro r w1 ⟨rfl,I⟩;go_wp2;exact Vk (v:=.tuple #[.slice none 0 0,false]) Jp rfl (fd.none (ag I J.size J))
 .rw[hh] at HI;have⟨G,_⟩:=lH.1 hh;have cb:li (A,B) L=(plc (A,B) L:Int):=by unfold li;rw[hh];rfl
  rw[cb] at HI;have HV:Hid (iT L (A,B)=some (L.eraseIdx (plc (A,B) L))):=h_ vP;rw[HV.out];generalize plc (A,B) L=p at *;obtain⟨k,hk⟩:∃k:Nat,p+1=k:=⟨_,rfl⟩
  have co:(p:Int)+1=(k:Int):=o_;have HK:=h_ hk;go_enter func143,ntmps143;go_upto_region 1 with fail
  generalize w.alloc _=W at *;have⟨a4,a3,a5⟩:=kC.p2;go_wp2_with fail
  refine (HI.out W J).mono ?_;rintro r w1 ⟨rfl,I⟩;have H:=ag I J.size J;go_wp2_with fail
  refine (HC.out w1 H).mono ?_;rintro r w2 ⟨v2,rfl,bs,U⟩;have ax:=ag U H.size H;obtain⟨a2,c2,rfl,_,_⟩:=bs.form;have H2:=h_ (HD.out w1 _ p k HK.out.symm G w2 bs);have K:=bs.lt;go_wp2_with fail
  refine H2.out.mono ?_;rintro r w3 ⟨v3,rfl,bx,ab⟩;have az:=ab.belowGe ax ax.size (λg hg=>by
   have h9:=by simpa using hg
   have:=(K g h9).1;have:=H.size;omega)
  have HO:=h_ (bx.le H.size);go_wp2;exact Vk (v:=.tuple #[v3,true]) Jp rfl (fd.some HO.out az)
def ei(h:P:=by first|(simp only[VI,VA,Wf];done)|(simp only[VI,VA,Wf];omega)):=h
def vK(h:P:=by simp [results,results80,go_sem]):=h
def sf(h:P:=by have:=HN.out;omega):=h
def J9(h:P:=by rw[VX] at aX;exact aX.le bo):=h
def vR(h:P:=by rw[HN.out];exact aL):=h
def wk(h:P:=by rw[HN.out];exact hm):=h
def FO(h:P:=by simp [results,results119,go_sem]):=h
def GV(h:P:=by simp [results,results81,go_sem]):=h
def wf(h:P:=by rw[<-h];simp):=h
def Iq(h:P:=by
 clear hne a7 aX;go_wp2;refine Vk (v:=.tuple #[v9,true]) FO rfl ?_;exact b7):=h
def JB(h:P:=by
 refine ap ?_;refine aD 7 ?_;refine bP (some 45) (λv7=>λw'=>an w' w2.heap.size v7 (([]:bM)++[((A,B),lo,hi,t)])) r_ r_ r_ (λv7=>V v7 _) (λw' hO h=>dT r_ r_ r_ hO h.1 h.2.1.rd ei (λ_ _ h _ _=>h)) (λv7 hne=>?_);refine ap ?_;refine aD 9 ?_;refine bP (some 47) (λv9=>λw'=>an w' w2.heap.size v9 (([]:bM)++[((A,B),lo,hi,t)]++([]:bM))) r_ r_ r_ (λv9=>V v9 _) (λw' hO h=>dT r_ r_ r_ hO h (aa.out w' hO.below) ei (λ_ _ h _ _=>h)) (λv9 hne=>?_);refine ap ?_;refine aE hne (bk 10 2) 0 (V v9 _) aB ?_;refine dn λWz a7 aX=>?_
 try dsimp only
 have b7:kr (([]:bM)) ((A,B),lo,hi,t) w (.returned (.tuple #[v9,true])) Wz:=kr.some HT.out J9 (ag a7.below bo a6.out);exact Iq):=h
def rW(h:P:=by
 refine ap ?_;refine aE hne (bk 10 2) 0 (V v9 _) aB ?_;refine dn λWz a7 aX=>?_
 try dsimp only
 have b7:kr L ((A,B),lo,hi,t) w (.returned (.tuple #[v9,true])) Wz:=kr.some HT.out J9 (ag a7.below bo a6.out);exact Iq):=h
def JT(h:P:=by
 refine jp k_ (λWz a7 aX=>?_) _;exact bp r8 Wz ⟨a7,aX.1,o_,aX.2.head⟩):=h
def K_(h:P:=by
 refine ap ?_;refine aD 4 ?_;refine bP (some 42) (λv4=>bF w2.heap.size v4 (([]:bM)) K [((A,B),lo,hi,t)]) r_ r_ r_ (λv4=>bF.closed _ _ _ _ _) (λw' hO h=>dT r_ r_ r_ hO h.1 (ab.out w' hO.below) ei (λv' u h1 h2 h3=>h.app h1 h2 h3)) (λv4 hne=>?_);exact JB):=h
def Lp(h:P:=by
 refine ap ?_;refine aD 4 ?_;refine bP (some 42) (λv4=>bF W4.heap.size v4 (L.take p) K [((a3,b3),lo3,hi3,t3)]) r_ r_ r_ (λv4=>bF.closed _ _ _ _ _) (λw' hO h=>dT r_ r_ r_ hO h.1 (ab.out w' hO.below) ei (λv' u h1 h2 h3=>h.app h1 h2 h3)) (λv4 hne=>?_);refine ap ?_;refine aD 7 ?_;refine bP (some 45) (λv7=>λw'=>an w' W4.heap.size v7 (L.take p++[((a3,b3),lo3,hi3,t3)])) r_ r_ r_ (λv7=>V v7 _) (λw' hO h=>dT r_ r_ r_ hO h.1 h.2.1.rd ei (λ_ _ h _ _=>h)) (λv7 hne=>?_);refine ap ?_;refine aD 9 ?_;refine bP (some 47) (λv9=>λw'=>an w' W4.heap.size v9 (L.take p++[((a3,b3),lo3,hi3,t3)]++L.drop F)) r_ r_ r_ (λv9=>V v9 _) (λw' hO h=>dT r_ r_ r_ hO h (aa.out _ _ w' hO.below o_) ei (λ_ _ h _ _=>h)) (λv9 hne=>?_);exact rW):=h
def LG(h:P:=by
 refine ap ?_;refine aD 4 ?_;refine bP (some 42) (λv4=>bF W4.heap.size v4 (L.take p) K [((a3,b3),lo3,hi3,t3)]) r_ r_ r_ (λv4=>bF.closed _ _ _ _ _) (λw' hO h=>dT r_ r_ r_ hO h.1 (ab.out w' hO.below) ei (λv' u h1 h2 h3=>h.app h1 h2 h3)) (λv4 hne=>?_);refine ap ?_;refine aD 7 ?_;refine bP (some 45) (λv7=>λw'=>an w' W4.heap.size v7 (L.take p++[((a3,b3),lo3,hi3,t3)])) r_ r_ r_ (λv7=>V v7 _) (λw' hO h=>dT r_ r_ r_ hO h.1 h.2.1.rd ei (λ_ _ h _ _=>h)) (λv7 hne=>?_);refine ap ?_;refine aD 9 ?_;refine bP (some 47) (λv9=>λw'=>an w' W4.heap.size v9 (L.take p++[((a3,b3),lo3,hi3,t3)]++L.drop k)) r_ r_ r_ (λv9=>V v9 _) (λw' hO h=>dT r_ r_ r_ hO h (aa.out _ _ w' hO.below o_) ei (λ_ _ h _ _=>h)) (λv9 hne=>?_);exact rW):=h
def Ky(h:P:=by
 refine ap ?_;refine aD 4 ?_;refine bP (some 42) (λv4=>bF w2.heap.size v4 (L.take F) K [((A,B),lo,hi,t)]) r_ r_ r_ (λv4=>bF.closed _ _ _ _ _) (λw' hO h=>dT r_ r_ r_ hO h.1 (ab.out w' hO.below) ei (λv' u h1 h2 h3=>h.app h1 h2 h3)) (λv4 hne=>?_);refine ap ?_;refine aD 7 ?_;refine bP (some 45) (λv7=>λw'=>an w' w2.heap.size v7 (L.take F++[((A,B),lo,hi,t)])) r_ r_ r_ (λv7=>V v7 _) (λw' hO h=>dT r_ r_ r_ hO h.1 h.2.1.rd ei (λ_ _ h _ _=>h)) (λv7 hne=>?_);refine ap ?_;refine aD 9 ?_;refine bP (some 47) (λv9=>λw'=>an w' w2.heap.size v9 (L.take F++[((A,B),lo,hi,t)]++L.drop F)) r_ r_ r_ (λv9=>V v9 _) (λw' hO h=>dT r_ r_ r_ hO h (aa.out _ _ w' hO.below o_) ei (λ_ _ h _ _=>h)) (λv9 hne=>?_);exact rW):=h
def KX(h:P:=by
 refine ap ?_;refine aD 4 ?_;refine bP (some 42) (λv4=>bF w2.heap.size v4 (L.take p) K [((A,B),lo,hi,t)]) r_ r_ r_ (λv4=>bF.closed _ _ _ _ _) (λw' hO h=>dT r_ r_ r_ hO h.1 (ab.out w' hO.below) ei (λv' u h1 h2 h3=>h.app h1 h2 h3)) (λv4 hne=>?_);refine ap ?_;refine aD 7 ?_;refine bP (some 45) (λv7=>λw'=>an w' w2.heap.size v7 (L.take p++[((A,B),lo,hi,t)])) r_ r_ r_ (λv7=>V v7 _) (λw' hO h=>dT r_ r_ r_ hO h.1 h.2.1.rd ei (λ_ _ h _ _=>h)) (λv7 hne=>?_);refine ap ?_;refine aD 9 ?_;refine bP (some 47) (λv9=>λw'=>an w' w2.heap.size v9 (L.take p++[((A,B),lo,hi,t)]++L.drop p)) r_ r_ r_ (λv9=>V v9 _) (λw' hO h=>dT r_ r_ r_ hO h (aa.out _ _ w' hO.below o_) ei (λ_ _ h _ _=>h)) (λv9 hne=>?_);exact rW):=h
def wK(h:P:=by
 exact rW):=h
def LM(h:P:=by
 refine aR [10] ?_;refine am.cons ?_ ?_
 .refine fB (v:=.agg #[a3,b3,lo3,hi3,t3]) [] [] (.inl cb) ao (λ_ _ h _=>h) s_ (λhne=>?_)
  try simp only[Value.cells]
  refine aE hne (bk 11 1) 0 (KD.closed ao _) aB ?_;exact JT
 exact am.nil):=h
def Gd(h:P:=by
 unfold execOp;simp only[aL,resolve,invoke,builtin,Y6,Y7,Yk,Yt,WU,X7,hs,hx,h1]):=h
section
variable {P:Program}{ops:Array Oper}{Q:Exit->Act->av}{ex:List Nat}{W:World}{D:av}
def bP{a}{listed:Array Bool}{f i}{o}(dd:Option Tmp)(F:Value->av)(Z:ops[i]?=some o)(G:Region.wanted o (yielded ops a.tmps)=true)
 (bi:o.dst=dd)(I:∀v,aQ (F v))
 (H:∀w,ai ex W w->D w->∃v w',(execOp a.eval o).run P w=.ok (.value v) w'/\ai ex W w'/\F v w')
 (h:∀v,(∃w,ai ex W w/\F v w)->ch P ops Q ex W (λ_=>false) f (listed.setIfInBounds i true) (a.put dd v) (λ_=>True) (F v)):
 fa P ops Q ex W (λ_=>false) f listed a (λ_=>True) D i:=λw hO hd=>by
 unfold wpOp;simp only[Z,G,WB];refine .inl ?_;have⟨v,w',h1,h2,h3⟩:=H w hO hd;unfold Oper.wp;rw[h1];simp only[Oper.upon];rw[bi];exact⟨λ_=>True,F v,I v,λ_ _=>trivial,λ_=>rfl,h2,h3,h v ⟨w',h2,h3⟩⟩
end
def an.closed(b)(v)(L):aQ (λw=>an w b v L):=λ_ _ h hb=>h.below hb
def kw{a:Act}{o}{W w}{F:Value->av}(H:∀w,(execOp a.eval o).run prog w=.ok (.value (.slice w 0 0)) (w.alloc (.cells #[] 70)))(hO:ai [] W w)
 (hk:∀v w',an w' W v []->af w w w'->v.ownBlock=some w.heap.size->F v w'):∃v w',(execOp a.eval o).run prog w=.ok (.value v) w'/\ai [] W w'/\F v w':=
 ⟨_,_,H w,hO.alloc _,hk _ _ ((an.empty w).le hO.size) ((Vn _ _).alloc (Vj _) _) rfl⟩
def ip{a:Act}{o}{W w}{F:Value->av}(e:E5)(H:∀w,(execOp a.eval o).run prog w=.ok (.value (.slice w 1 1)) (w.alloc (.cells #[e.1.1,e.1.2,e.2.1,e.2.2.1,e.2.2.2] 70)))(hO:ai [] W w)
 (hk:∀v w',an w' W v [e]->af w w w'->v.ownBlock=some w.heap.size->F v w'):∃v w',(execOp a.eval o).run prog w=.ok (.value v) w'/\ai [] W w'/\F v w':=
 ⟨_,_,H w,hO.alloc _,hk _ _ ((an.built w e).le hO.size) ((Vn _ _).alloc (Vj _) _) rfl⟩
def dT{a:Act}{o}{s x}{v y}{W w}{F:Value->av}{L M}(aL:o.op=.call {callee:=.builtin .append,args:=#[s,x],argTypes:=#[28,28]})(hs:a.eval s=v)(hx:a.eval x=y)(hO:ai [] W w)(hv:an w W v L)(hy:dv w y M)(hl:L.length+M.length<=1000)
 (hk:∀v' w',an w' W v' (L++M)->ai v.ownBlock.toList w w'->(v'.ownBlock=v.ownBlock\/v'.ownBlock=some w.heap.size)->F v' w'):∃v' w',(execOp a.eval o).run prog w=.ok (.value v') w'/\ai [] W w'/\F v' w':=by
 have⟨v',w',h1,h2,h3,h4⟩:=uh w W o.type v y L M hv hy hl hO.size;have ab:ai v.ownBlock.toList w w':=⟨h3.os,h3.tape,h3.output,h3.size,λk hk hn=>h3.block k hk (λh=>hn wf)⟩
 refine⟨v',w',?_,?_,hk v' w' h2 ab h4⟩
 .exact Gd
 .refine⟨h3.os.trans hO.os,h3.tape.trans hO.tape,h3.output.trans hO.output,Vl hO.size h3.size,λk hk hn=>?_⟩;refine (h3.block k (Vp hk hO.size) ?_).trans (hO.block k hk hn);intro h;have:=(hv.lt k h.symm).1;omega
def dv.pre{w}{b g n F}{L}(h:an w b (.slice (some ⟨g,0,none⟩) n F) L){k c}(hk:k<=L.length):dv w (.slice (some ⟨g,0,none⟩) k c) (L.take k):=by
 rcases h.rd with ⟨_,h0⟩|⟨g',off,c',h1,h2,h3⟩
 .cases h0
 .injection h1 with e1 e2 e3;injection e1 with e1;injection e1 with e1 e4;subst e1 e4;refine .inr ⟨g,0,c,by rw[VM,XY hk],λhm=>h2 (λh=>hm (by rw[h];simp)),λj u hu=>h3 j u ?_⟩;rw[xf] at hu;rw[X8] at hu;split at hu
  .exact hu
  .cases hu
def dv.post{w}{b g n F}{L}(h:an w b (.slice (some ⟨g,0,none⟩) n F) L){k o c m}(hm:m=L.length - k)(Z:m≠0->o=k*5):dv w (.slice (some ⟨g,o,none⟩) m c) (L.drop k):=by
 rcases h.rd with ⟨_,h0⟩|⟨g',off,c',h1,h2,h3⟩
 .cases h0
 .injection h1 with e1 e2 e3;injection e1 with e1;injection e1 with e1 e4;subst e1 e4;refine .inr ⟨g,o,c,by rw[WF,hm],λhm=>h2 (λh=>hm (by rw[h];simp)),λj u hu=>?_⟩;rw[xo,W_] at hu;have hj:k*5+j<L.length*5:=by rw[<-lq];exact (V3.1 hu).1
  rw[Z o_];have:=h3 (k*5+j) u hu;rwa [V9] at this
def dv.postIf{w}{b g n F}{L}(h:an w b (.slice (some ⟨g,0,none⟩) n F) L){k c m}(hm:m=L.length - k)(hc:L.length<=F):dv w (.slice (if F=k then some ⟨g,0,none⟩ else some ⟨g,k*5,none⟩) m c) (L.drop k):=by
 split
 .exact dv.post h hm (λh=>by omega)
 .exact dv.post h hm (λ_=>rfl)
def TA(b0)(v)(L)(A B)(hC:be A B=true)(hL:eJ L)(w)(Z:an w b0 v L):
 Kp 81 #[v,.agg #[A,B]] w (fd (iT L (A,B)) w):=by
 have⟨kC,J⟩:=ay w #[A,B] 42;have HG:=h_ (λW (hb:af w w W)=>tV b0 v L hL W (Z.below hb));have K:=λW=>f_ A B W;rw[hC] at K;have HE:=h_ K;have HP:=h_ (λW (hb:af w w W)=>xS b0 v L A B hC hL W (Z.below hb));have HA:=h_ (λW (hb:af w w W)=>zl b0 v L A B (Vl hL.2.2 o_) W (Z.below hb));have HO:=h_ Z;obtain⟨a,F,rfl,bo,hf⟩:=Z.form;have b5:=hL.2.2;cases hh:df (A,B) L
 .rw[hh] at HA;have HV:Hid (iT L (A,B)=none):=h_ vP;rw[HV.out];generalize plc (A,B) L=p at *;go_enter func81,ntmps81;go_upto_region 1 with fail
  generalize w.alloc _=W at *;have⟨a4,a3,a5⟩:=kC.p2
  (refine bR k_ k_ ?_;(repeat (go_big_quiet_step ((first|(go_at_call 117;with_reducible exact Calls.quiet_cls ao _ (HG.out _ (ag (aU.over _).below J.size J)))|(go_at_call 71;with_reducible exact Calls.quiet_cls ao _ (HE.out _))|(go_at_call 121;with_reducible exact Calls.quiet_cls ao _ (HP.out _ (ag (aU.over _).below J.size J)))|(go_at_call 120;with_reducible exact Calls.quiet_cls ao _ (HA.out _ (ag (aU.over _).below J.size J)))))));refine wpQuiet_nil ?_;intro w1 I)
  have aL:=ag I J.size J;go_wp2;exact Vk (v:=.tuple #[.slice none 0 0,false]) GV rfl (fd.none aL)
 .rw[hh] at HA;have⟨G,_⟩:=lH.1 hh;obtain⟨g,rfl,_,_⟩:=hf _ G;have HV:Hid (iT L (A,B)=some (L.eraseIdx (plc (A,B) L))):=h_ vP;rw[HV.out];generalize plc (A,B) L=p at *;obtain⟨k,hk⟩:∃k:Nat,p+1=k:=⟨_,rfl⟩
  have co:(p:Int)+1=(k:Int):=o_;obtain⟨n,hn⟩:∃n,L.length=n:=⟨_,rfl⟩
  have HN:=h_ hn;rw[hn] at G bo b5 HG HP HA HO ⊢;have c5:p<=F:=o_;have cG:k<=n:=o_;go_enter func81,ntmps81;go_upto_region 1 with fail
  generalize w.alloc _=W at *;have⟨a4,a3,a5⟩:=kC.p2
  (refine bR k_ k_ ?_;(repeat (go_big_quiet_step ((first|(go_at_call 117;with_reducible exact Calls.quiet_cls ao _ (HG.out _ (ag (aU.over _).below J.size J)))|(go_at_call 71;with_reducible exact Calls.quiet_cls ao _ (HE.out _))|(go_at_call 121;with_reducible exact Calls.quiet_cls ao _ (HP.out _ (ag (aU.over _).below J.size J)))|(go_at_call 120;with_reducible exact Calls.quiet_cls ao _ (HA.out _ (ag (aU.over _).below J.size J)))))));refine wpQuiet_nil ?_;intro w1 I)
  have aL:=ag I J.size J;replace kC:=kC.next I
  have⟨a4,a3,a5⟩:=kC.p2;have a1:=h_ (HP.out w1 aL);go_upto_region 3 with fail
  go_wp2_with fail
  refine a1.out.mono ?_;rintro r w2 ⟨rfl,U⟩;replace aL:=ag U aL.size aL;have bx:=HO.out.below aL;have V:=an.closed w2;have bi:=aL.size;go_upto_region 4 with fail
  refine bw [] (λ_=>false) (λ_=>True) (λ_=>True) k_ (trivial) (aE ⟨w2,ai.refl _ _,trivial⟩ [ac,ae,ae,ae,ac,ae,ae,ae,ae] 5 ao aB ?_);refine aD 0 (bP (some 27) (λv0=>λw'=>an w' w2.heap.size v0 []) r_ r_ r_ (λv0=>V v0 []) (λw' hO _=>kw (λ_=>by go_simp) hO (λ_ _ h _ _=>h)) (λv0 hne=>?_));refine ap (aD 4 ?_);refine bP (some 31) (λv4=>λw'=>an w' w2 v4 (L.take p)) r_ r_ r_ (λv4=>V v4 _) (λw' hO h=>dT r_ r_ r_ hO h (dv.pre (bx.below hO.below) sf) (by simp;have:=HN.out;omega) (λ_ _ h _ _=>h)) (λv4 hne=>?_);refine ap (aD 9 ?_);refine bP (some 36) (λv9=>λw'=>an w' w2 v9 (L.take p++L.drop k)) r_ r_ r_ (λv9=>V v9 _) (λw' hO h=>dT r_ r_ r_ hO h (dv.postIf (bx.below hO.below) (by rw[HN.out]) (by rw[HN.out];exact bo)) (by simp;have:=HN.out;omega) (λ_ _ h _ _=>h)) (λv9 hne=>?_);refine ap ?_;refine aE hne (bk 10 2) 0 (V v9 _) aB ?_;refine dn λWz a7 aX=>?_;have b7:fd (some (L.eraseIdx p)) w (.returned (.tuple #[v9,true])) Wz:=fd.some (by rw[List.eraseIdx_eq_take_drop_succ,(h_ hk).out];exact aX.le bi) (ag a7.below bi (h_ aL).out);generalize (if F=k then (some ⟨g,0,none⟩:ck) else some ⟨g,k*5,none⟩)=ad;go_wp2;exact Vk (v:=.tuple #[v9,true]) GV rfl b7
def bF(S:Nat)(v:Value)(L:bM)(u:Value)(M:bM)(w:World):Prop:=an w S v L/\an w S u M/\∀k,v.ownBlock=some k->u.ownBlock≠some k
def bF.closed(S)(v)(L)(u)(M):aQ (bF S v L u M):=λ_ _ h hb=>⟨h.1.below hb,h.2.1.below hb,h.2.2⟩
def kr(L:bM)(e:E5)(w:World)(r:Ending)(w':World):Prop:=∃v,r=.returned (.tuple #[v,.bool (fN L e).isSome])/\(∀M,fN L e=some M->an w' w.heap.size v M)/\af w w w'
def kr.some{L M}{e:E5}{w w'}{v}(ht:fN L e=some M)(h:an w' w.heap.size v M)(hb:af w.heap.size w w'):kr L e w (.returned (.tuple #[v,true])) w':=
 ⟨v,by rw[ht];rfl,λM' J=>by rw[ht] at J;injection J with J;subst J;exact h,hb⟩
def kr.none{L}{e:E5}{w w'}{v}(ht:fN L e=none)(hb:af w.heap.size w w'):kr L e w (.returned (.tuple #[v,false])) w':=
 ⟨v,by rw[ht];rfl,(λM' J=>by rw[ht] at J;cases J),hb⟩
def bF.mk1{S}{v u}{L M}{w w'}(h:an w S v L)(h1:an w' S u M)(hb:af w w w')(hu:u.ownBlock=some w.heap.size):bF S v L u M w':=
 ⟨h.below hb,h1,λk hk aF=>by have:=(h.lt k hk).2;rw[hu] at aF;injection aF;omega⟩
def bF.mk2{S}{v u}{L M}{w w'}(h:an w S u M)(h1:an w' S v L)(hb:af w w w')(hv:v.ownBlock=some w.heap.size):bF S v L u M w':=
 ⟨h1,h.below hb,λk hk aF=>by have:=(h.lt k aF).2;rw[hv] at hk;injection hk;omega⟩
def bF.app{S}{v v' u}{L g M}{w w'}(h:bF S v L u M w)(h1:an w' S v' g)(Z:ai v.ownBlock.toList w w')(ha:v'.ownBlock=v.ownBlock\/v'.ownBlock=some w.heap.size):bF S v' g u M w':=by
 refine⟨h1,h.2.1.over Z (λk hk hm=>?_),λk hk aF=>?_⟩
 .have:=by simpa using hm
  exact h.2.2 k this hk
 .rcases ha with ha|ha
  .exact h.2.2 k (ha▸hk) aF
  .rw[ha] at hk;injection hk with hk;have:=(h.2.1.lt k aF).2;omega
def OA(b0)(v)(L)(e:E5)(he:gj e=true)(hL:eJ L)(w)(Z:an w b0 v L):
 Kp 119 #[v,cI e] w (kr L e w):=by
 have bb:=tU.1 he;have⟨⟨A,B⟩,lo,hi,t⟩:=e;simp only at bb;have hC:=bb.1;simp only[cI];have⟨kE,J⟩:=ay w #[A,B,lo,hi,t] 70;have HP:=h_ (λW (hb:af w w W)=>xS b0 v L A B hC hL W (Z.below hb));have HA:=h_ (λW (hb:af w w W)=>zl b0 v L A B (Vl hL.2.2 o_) W (Z.below hb));have HO:=h_ Z;have ca:=mv (A,B) L;have b5:=hL.2.2;cases hh:df (A,B) L
 .rw[hh] at HA;have HT:Hid (fN L ((A,B),lo,hi,t)=some (L.take (plc (A,B) L)++([((A,B),lo,hi,t)]++L.drop (plc (A,B) L)))):=h_ IS;have c8:(L.take (plc (A,B) L)).length<=12:=by rw[VM];omega
  have cM:(L.drop (plc (A,B) L)).length<=12:=by rw[WF];omega
  rcases Z.2 with ⟨rfl,hn⟩|⟨g,F,cur,rfl,_,_,aL,_⟩
  .have dl:=VY.1 hn;subst dl;have cc:plc (A,B) []=0:=rfl;rw[cc] at HP HA HT c8 cM;go_enter func119,ntmps119;go_upto_region 1 with fail
   generalize w.alloc _=W at *;have⟨a4,aZ,a8,a5,ad,bv⟩:=kE.p5;go_wp2_with fail
   refine (HP.out W J).mono ?_;rintro r w1 ⟨rfl,I⟩;have H:=ag I J.size J;replace kE:=kE.next I
   have⟨a4,aZ,a8,a5,ad,bv⟩:=kE.p5;have aG:=h_ (HA.out w1 H);go_upto_region 3 with fail
   go_wp2_with fail
   refine aG.out.mono ?_;rintro r w2 ⟨rfl,U⟩;have ax:=ag U H.size H;replace kE:=kE.next U
   have⟨a4,aZ,a8,a5,ad,bv⟩:=kE.p5;have a6:=h_ ax;have bo:=ax.size;have ab:Hid (∀w',af w2 w2 w'->dv w' (.slice none 0 0) ([]:bM)):=h_ (λ_ _=>.inl ⟨rfl,rfl⟩);have aa:Hid (∀w',af w2 w2 w'->dv w' (.slice none 0 0) ([]:bM)):=h_ (λ_ _=>.inl ⟨rfl,rfl⟩);go_upto_region 9 with fail
   have V:=an.closed w2;refine bw [] (λ_=>false) (λ_=>True) (λ_=>True) k_ (trivial) (aE ⟨w2,ai.refl _ _,trivial⟩ [ac,ae,ae,ae,ac,ae,ac,ac,ae] 7 ao aB ?_);refine aR [0,6] (am.cons ?_ (am.cons ?_ am.nil))
   .refine bP (some 38) (λv0=>λw'=>an w' w2 v0 []) r_ r_ r_ (λv0=>V v0 []) (λw' hO _=>kw (λ_=>by go_simp) hO (λ_ _ h _ _=>h)) (λv0 hne=>?_);refine ap (aR [4,6] (am.cons ?_ (am.cons ?_ am.nil)))
    .refine bP (some 42) (λv4=>λw'=>an w' w2 v4 (([]:bM))) r_ r_ r_ (λv4=>V v4 _) (λw' hO h=>dT r_ r_ r_ hO h (ab.out w' hO.below) ei (λ_ _ h _ _=>h)) (λv4 hne=>?_);refine ap (aD 6 ?_);refine bP (some 44) (λK=>bF w2 v4 (([]:bM)) K [((A,B),lo,hi,t)]) r_ r_ r_ (λK=>bF.closed _ _ _ _ _) (λw' hO h=>ip (((A,B),lo,hi,t)) (λ_=>by go_simp) hO (λv u h1 h2 h3=>bF.mk1 h h1 h2 h3)) (λK hne=>?_);exact JB
    .refine bP (some 44) (λK=>bF w2.heap.size v0 [] K [((A,B),lo,hi,t)]) r_ r_ r_ (λK=>bF.closed _ _ _ _ _) (λw' hO h=>ip (((A,B),lo,hi,t)) (λ_=>by go_simp) hO (λv u h1 h2 h3=>bF.mk1 h h1 h2 h3)) (λK hne=>?_);exact K_
   .refine bP (some 44) (λK=>λw'=>an w' w2.heap.size K [((A,B),lo,hi,t)]) r_ r_ r_ (λK=>V K _) (λw' hO _=>ip (((A,B),lo,hi,t)) (λ_=>by go_simp) hO (λ_ _ h _ _=>h)) (λK hne=>?_);refine ap ?_;refine aD 0 ?_;refine bP (some 38) (λv0=>bF w2.heap.size v0 [] K [((A,B),lo,hi,t)]) r_ r_ r_ (λv0=>bF.closed _ _ _ _ _) (λw' hO h=>kw (λ_=>by go_simp) hO (λv u h1 h2 h3=>bF.mk2 h h1 h2 h3)) (λv0 hne=>?_);exact K_
  .have aM:=h_ (λW (hb:af w w W)=>Z.below hb);have cB:∀q,(q:Int)=q:=λ_=>rfl;clear Z cB;obtain⟨n,hn⟩:∃n,L.length=n:=⟨_,rfl⟩
   have HN:=h_ hn;rw[hn] at aL b5 HP HA aM ca ⊢;clear hn;generalize plc (A,B) L=p at *;have c5:p<=F:=o_;by_cases bs:F=p
   .subst bs;go_enter func119,ntmps119;go_upto_region 1 with fail
    generalize w.alloc _=W at *;have⟨a4,aZ,a8,a5,ad,bv⟩:=kE.p5;go_wp2_with fail
    refine (HP.out W J).mono ?_;rintro r w1 ⟨rfl,I⟩;have H:=ag I J.size J;replace kE:=kE.next I
    clear a4 aZ a8 a5 ad bv I J;have⟨a4,aZ,a8,a5,ad,bv⟩:=kE.p5;have aG:=h_ (HA.out w1 H);go_upto_region 3 with fail
    go_wp2_with fail
    refine aG.out.mono ?_;rintro r w2 ⟨rfl,U⟩;have ax:=ag U H.size H;replace kE:=kE.next U
    clear a4 aZ a8 a5 ad bv U H aG HP HA;have⟨a4,aZ,a8,a5,ad,bv⟩:=kE.p5;have a6:=h_ ax;have bo:w.heap.size<=w2.heap.size:=ax.size;have bx:=aM.out w2 ax;have ab:Hid (∀w',af w2 w2 w'->dv w' (.slice (some ⟨g,0,none⟩) F F) (L.take F)):=h_ (λ_ hb=>dv.pre (bx.below hb) sf);have aa:Hid (∀m c w',af w2 w2 w'->m=n - F->dv w' (.slice (if F=F then some ⟨g,0,none⟩ else some ⟨g,F*5,none⟩) m c) (L.drop F)):=h_ (λm _ _ hb hm=>dv.postIf (bx.below hb) wk vR);clear ax bx aM;go_upto_region 9 with fail
    skip
    have V:=an.closed w2.heap.size;refine bw [] (λ_=>false) (λ_=>True) (λ_=>True) k_ (trivial) ?_;refine aE ⟨w2,ai.refl _ _,trivial⟩ [ac,ae,ae,ae,ac,ae,ac,ac,ae] 7 ao aB ?_;refine aR [0,6] (am.cons ?_ (am.cons ?_ am.nil))
    .refine bP (some 38) (λv0=>λw'=>an w' w2.heap.size v0 []) r_ r_ r_ (λv0=>V v0 []) (λw' hO _=>kw (λ_=>by go_simp) hO (λ_ _ h _ _=>h)) (λv0 hne=>?_);refine ap ?_;refine aR [4,6] (am.cons ?_ (am.cons ?_ am.nil))
     .refine bP (some 42) (λv4=>λw'=>an w' w2.heap.size v4 (L.take F)) r_ r_ r_ (λv4=>V v4 _) (λw' hO h=>dT r_ r_ r_ hO h (ab.out w' hO.below) ei (λ_ _ h _ _=>h)) (λv4 hne=>?_);refine ap ?_;refine aD 6 ?_;refine bP (some 44) (λK=>bF w2.heap.size v4 (L.take F) K [((A,B),lo,hi,t)]) r_ r_ r_ (λK=>bF.closed _ _ _ _ _) (λw' hO h=>ip (((A,B),lo,hi,t)) (λ_=>by go_simp) hO (λv u h1 h2 h3=>bF.mk1 h h1 h2 h3)) (λK hne=>?_);refine ap ?_;refine aD 7 ?_;refine bP (some 45) (λv7=>λw'=>an w' w2.heap.size v7 (L.take F++[((A,B),lo,hi,t)])) r_ r_ r_ (λv7=>V v7 _) (λw' hO h=>dT r_ r_ r_ hO h.1 h.2.1.rd ei (λ_ _ h _ _=>h)) (λv7 hne=>?_);refine ap ?_;refine aD 9 ?_;refine bP (some 47) (λv9=>λw'=>an w' w2.heap.size v9 (L.take F++[((A,B),lo,hi,t)]++L.drop F)) r_ r_ r_ (λv9=>V v9 _) (λw' hO h=>dT r_ r_ r_ hO h (aa.out _ _ w' hO.below o_) ei (λ_ _ h _ _=>h)) (λv9 hne=>?_);exact wK
     .refine bP (some 44) (λK=>bF w2.heap.size v0 [] K [((A,B),lo,hi,t)]) r_ r_ r_ (λK=>bF.closed _ _ _ _ _) (λw' hO h=>ip (((A,B),lo,hi,t)) (λ_=>by go_simp) hO (λv u h1 h2 h3=>bF.mk1 h h1 h2 h3)) (λK hne=>?_);exact Ky
    .refine bP (some 44) (λK=>λw'=>an w' w2.heap.size K [((A,B),lo,hi,t)]) r_ r_ r_ (λK=>V K _) (λw' hO _=>ip (((A,B),lo,hi,t)) (λ_=>by go_simp) hO (λ_ _ h _ _=>h)) (λK hne=>?_);refine ap ?_;refine aD 0 ?_;refine bP (some 38) (λv0=>bF w2.heap.size v0 [] K [((A,B),lo,hi,t)]) r_ r_ r_ (λv0=>bF.closed _ _ _ _ _) (λw' hO h=>kw (λ_=>by go_simp) hO (λv u h1 h2 h3=>bF.mk2 h h1 h2 h3)) (λv0 hne=>?_);exact Ky
   .
     go_enter func119,ntmps119;go_upto_region 1 with fail
     generalize w.alloc _=W at *;have⟨a4,aZ,a8,a5,ad,bv⟩:=kE.p5;go_wp2_with fail
     refine (HP.out W J).mono ?_;rintro r w1 ⟨rfl,I⟩;have H:=ag I J.size J;replace kE:=kE.next I
     clear a4 aZ a8 a5 ad bv I J;have⟨a4,aZ,a8,a5,ad,bv⟩:=kE.p5;have aG:=h_ (HA.out w1 H);go_upto_region 3 with fail
     go_wp2_with fail
     refine aG.out.mono ?_;rintro r w2 ⟨rfl,U⟩;have ax:=ag U H.size H;replace kE:=kE.next U
     clear a4 aZ a8 a5 ad bv U H aG HP HA;have⟨a4,aZ,a8,a5,ad,bv⟩:=kE.p5;have a6:=h_ ax;have bo:w.heap.size<=w2.heap.size:=ax.size;have bx:=aM.out w2 ax;have ab:Hid (∀w',af w2 w2 w'->dv w' (.slice (some ⟨g,0,none⟩) p F) (L.take p)):=h_ (λ_ hb=>dv.pre (bx.below hb) sf);have aa:Hid (∀m c w',af w2 w2 w'->m=n - p->dv w' (.slice (if F=p then some ⟨g,0,none⟩ else some ⟨g,p*5,none⟩) m c) (L.drop p)):=h_ (λm _ _ hb hm=>dv.postIf (bx.below hb) wk vR);clear ax bx aM;go_upto_region 9 with fail
     rw[Vm bs] at aa;have V:=an.closed w2.heap.size;refine bw [] (λ_=>false) (λ_=>True) (λ_=>True) k_ (trivial) ?_;refine aE ⟨w2,ai.refl _ _,trivial⟩ [ac,ae,ae,ae,ac,ae,ac,ac,ae] 7 ao aB ?_;refine aR [0,6] (am.cons ?_ (am.cons ?_ am.nil))
     .refine bP (some 38) (λv0=>λw'=>an w' w2.heap.size v0 []) r_ r_ r_ (λv0=>V v0 []) (λw' hO _=>kw (λ_=>by go_simp) hO (λ_ _ h _ _=>h)) (λv0 hne=>?_);refine ap ?_;refine aR [4,6] (am.cons ?_ (am.cons ?_ am.nil))
      .refine bP (some 42) (λv4=>λw'=>an w' w2.heap.size v4 (L.take p)) r_ r_ r_ (λv4=>V v4 _) (λw' hO h=>dT r_ r_ r_ hO h (ab.out w' hO.below) ei (λ_ _ h _ _=>h)) (λv4 hne=>?_);refine ap ?_;refine aD 6 ?_;refine bP (some 44) (λK=>bF w2.heap.size v4 (L.take p) K [((A,B),lo,hi,t)]) r_ r_ r_ (λK=>bF.closed _ _ _ _ _) (λw' hO h=>ip (((A,B),lo,hi,t)) (λ_=>by go_simp) hO (λv u h1 h2 h3=>bF.mk1 h h1 h2 h3)) (λK hne=>?_);refine ap ?_;refine aD 7 ?_;refine bP (some 45) (λv7=>λw'=>an w' w2.heap.size v7 (L.take p++[((A,B),lo,hi,t)])) r_ r_ r_ (λv7=>V v7 _) (λw' hO h=>dT r_ r_ r_ hO h.1 h.2.1.rd ei (λ_ _ h _ _=>h)) (λv7 hne=>?_);refine ap ?_;refine aD 9 ?_;refine bP (some 47) (λv9=>λw'=>an w' w2.heap.size v9 (L.take p++[((A,B),lo,hi,t)]++L.drop p)) r_ r_ r_ (λv9=>V v9 _) (λw' hO h=>dT r_ r_ r_ hO h (aa.out _ _ w' hO.below o_) ei (λ_ _ h _ _=>h)) (λv9 hne=>?_);exact wK
      .refine bP (some 44) (λK=>bF w2.heap.size v0 [] K [((A,B),lo,hi,t)]) r_ r_ r_ (λK=>bF.closed _ _ _ _ _) (λw' hO h=>ip (((A,B),lo,hi,t)) (λ_=>by go_simp) hO (λv u h1 h2 h3=>bF.mk1 h h1 h2 h3)) (λK hne=>?_);exact KX
     .refine bP (some 44) (λK=>λw'=>an w' w2.heap.size K [((A,B),lo,hi,t)]) r_ r_ r_ (λK=>V K _) (λw' hO _=>ip (((A,B),lo,hi,t)) (λ_=>by go_simp) hO (λ_ _ h _ _=>h)) (λK hne=>?_);refine ap ?_;refine aD 0 ?_;refine bP (some 38) (λv0=>bF w2.heap.size v0 [] K [((A,B),lo,hi,t)]) r_ r_ r_ (λv0=>bF.closed _ _ _ _ _) (λw' hO h=>kw (λ_=>by go_simp) hO (λv u h1 h2 h3=>bF.mk2 h h1 h2 h3)) (λv0 hne=>?_);exact KX
 .rw[hh] at HA;obtain⟨G,hc⟩:=lH.1 hh;rcases Z.2 with ⟨_,hn⟩|⟨g,F,cur,rfl,hg,_,aL,_⟩
  .omega
  .obtain⟨a1,c1,e1,_,c0⟩:=Z.form;obtain⟨g1,e2,bq,b6,c3,q0,q1,q2,q3,q4⟩:=c0 _ G;injection e1 with e1 _ e3;rw[e2] at e1;injection e1 with e1;injection e1 with e1;subst e1 e3;have c6:0<=(L[plc (A,B) L]'G).2.2.2:=(tU.1 (hL.1 _ (VC G))).2.2.2.1;have cu:fN L ((A,B),lo,hi,t)=(eE (L[plc (A,B) L]'G) ((A,B),lo,hi,t)).map λm=>L.take (plc (A,B) L)++([m]++L.drop (plc (A,B) L+1)):=by
    unfold fN;rw[show df ((A,B),lo,hi,t).1 L=true from hh,Vo rfl];rw[show L[plc ((A,B),lo,hi,t).1 L]?=some (L[plc (A,B) L]'G) from Vv G];refine congrArg (λf=>Option.map f _) (funext λm=>?_);exact (List.set_eq_take_append_cons_drop ..).trans (Vo G)
   have cQ:∀W,Kp 174 #[cI (L[plc (A,B) L]'G),cI ((A,B),lo,hi,t)] W λr w'=>r=.returned (.tuple #[cI (lp (L[plc (A,B) L]'G) ((A,B),lo,hi,t)),.bool (eE (L[plc (A,B) L]'G) ((A,B),lo,hi,t)).isSome])/\af W.heap.size W w':=λW=>RC (L[plc (A,B) L]'G) ((A,B),lo,hi,t) c6 bb.2.2.2.1 W;have cy:=λm'=>@Rx (L[plc (A,B) L]'G) ((A,B),lo,hi,t) m';have c8:(L.take (plc (A,B) L)).length<=12:=by rw[VM];omega
   have cM:(L.drop (plc (A,B) L+1)).length<=12:=by rw[WF];omega
   have aM:=h_ (λW (hb:af w w W)=>Z.below hb);clear hh hc c0 e2 c6 Z;obtain⟨n,hn⟩:∃n,L.length=n:=⟨_,rfl⟩
   have HN:=h_ hn;rw[hn] at aL b5 HP HA aM ca ⊢;have c4:plc (A,B) L<n:=hn▸G;clear hn;generalize plc (A,B) L=p at *;have c5:p<=F:=o_;have bs:¬F=p:=o_;have b9:(p:Int)<(n:Int):=o_;obtain⟨k,hk⟩:∃k:Nat,p+1=k:=⟨_,rfl⟩
   rw[hk] at cu cM;have co:(p:Int)+1=(k:Int):=o_;have cG:k<=n:=o_;have HK:=h_ hk;clear hk;generalize (L[p]'G)=x at *;generalize lp x ((A,B),lo,hi,t)=m at *;generalize eE x ((A,B),lo,hi,t)=mo at *;obtain⟨⟨a2,b2⟩,bY,bZ,t2⟩:=x;obtain⟨⟨a3,b3⟩,lo3,hi3,t3⟩:=m;simp only[cI] at cQ q0 q1 q2 q3 q4;have bz:=h_ cQ;have cA:=h_ cu;have cv:=h_ cy;clear cQ cu cy b6;go_enter func119,ntmps119;go_upto_region 1 with fail
   generalize w.alloc _=W at *;have⟨a4,aZ,a8,a5,ad,bv⟩:=kE.p5;go_wp2_with fail
   refine (HP.out W J).mono ?_;rintro r w1 ⟨rfl,I⟩;have H:=ag I J.size J;replace kE:=kE.next I
   clear a4 aZ a8 a5 ad bv I J;have⟨a4,aZ,a8,a5,ad,bv⟩:=kE.p5;have aG:=h_ (HA.out w1 H);go_upto_region 3 with fail
   go_wp2_with fail
   refine aG.out.mono ?_;rintro r w2 ⟨rfl,U⟩;have ax:=ag U H.size H;replace kE:=kE.next U
   clear a4 aZ a8 a5 ad bv U H aG HP HA;have⟨a4,aZ,a8,a5,ad,bv⟩:=kE.p5;replace q0:=(ax.cell (p:=⟨g,p*5,none⟩) bq).trans q0;replace q1:=(ax.cell (p:=⟨g,p*5+1,none⟩) bq).trans q1;replace q2:=(ax.cell (p:=⟨g,p*5+2,none⟩) bq).trans q2;replace q3:=(ax.cell (p:=⟨g,p*5+3,none⟩) bq).trans q3;replace q4:=(ax.cell (p:=⟨g,p*5+4,none⟩) bq).trans q4;have cm:=Vp bq ax.size;go_upto_region 4 with fail
   generalize c2:mo.isSome=ok at *;have cT:=h_ c2;clear c2;apply fZ (λr8 Wz=>ai [] w2 Wz/\(λ_=>True) Wz/\w2.heap.size<=r8/\ah r8 #[a3,b3,lo3,hi3,t3] 70 Wz)
   .intro bp;refine bw [] (λ_=>false) (λ_=>True) (KD (λ_=>True) []) k_ ⟨trivial,bU.nil _⟩ ?_;refine aE ⟨w2,ai.refl _ _,trivial,bU.nil _⟩ (cj 5 0) 7 (KD.closed ao _) aB ?_;refine aR [5,9] ?_;refine am.cons ?_ ?_
    .refine ep (v:=.tuple #[.agg #[a3,b3,lo3,hi3,t3],ok]) (some 28) (λ_=>True) ao (λ_ _=>by simp) (λw' hC=>(bz.out w').mono λ_ _ h=>⟨h.1,.of_below h.2,trivial⟩) (λhne=>?_);refine ap ?_;refine aE hne (bk 6 3) 3 (KD.closed ao _) aB ?_;refine aR [9] ?_;refine am.cons ?_ ?_
     .refine dB (zs:=#[(),(),(),(),()]) (T:=70) ao (λr8 cb cN hne=>?_);refine ap ?_;exact LM
     exact am.nil
    refine am.cons ?_ ?_
    .refine dB (zs:=#[(),(),(),(),()]) (T:=70) ao (λr8 cb cN hne=>?_);refine ap ?_;refine aR [5] ?_;refine am.cons ?_ ?_
     .refine ep (v:=.tuple #[.agg #[a3,b3,lo3,hi3,t3],ok]) (some 28) (λ_=>True) ao (λ_ _=>by simp) (λw' hC=>(bz.out w').mono λ_ _ h=>⟨h.1,.of_below h.2,trivial⟩) (λhne=>?_);refine ap ?_;refine aE hne (bk 6 3) 2 (KD.closed ao _) aB ?_;exact LM
     exact am.nil
    exact am.nil
   rintro rM W3 ⟨bi,_,b4,kM⟩;have b1:=bi.below;have az:=ag b1 ax.size ax;have d3:=kE.lt;replace kE:=kE.next b1
   clear q0 q1 q2 q3 q4 a4 aZ a8 a5 ad bv bi b1 bz;have dz:w.heap.size<=W3.heap.size:=az.size;have d2:w.heap.size≠rM:=o_;cases ok
   .have cZ:mo=none:=Option.isNone_iff_eq_none.1 JP;have HN:Hid (fN L ((A,B),lo,hi,t)=none):=h_ (by rw[cA.out,cZ];rfl);have dp:=h_ az;go_wp2;refine Vk (v:=.tuple #[.slice none 0 0,false]) FO rfl ?_;exact kr.none HN.out dp.out
   .obtain⟨m',cP⟩:∃m',mo=some m':=Xe.1 cT.out;have cW:=cv.out m' cP;have HT:Hid (fN L ((A,B),lo,hi,t)=some (L.take p++([((a3,b3),lo3,hi3,t3)]++L.drop k))):=h_ (by rw[cA.out,cP,<-cW];rfl);have⟨a9,ba,cz,cF,cX,bX⟩:=kM.p5;have⟨a4,aZ,a8,a5,ad⟩:=kE.q5;have⟨dq,dx,dy,d1,d0⟩:=kE.f5;have bv:=kE.lt;have ad:=((((kE.set 0 a3).set 1 b3).set 2 lo3).set 3 hi3).set 4 t3;have b8:=((((az.setCell (p:=⟨w.heap.size,0,none⟩) (Vj _) a3).setCell (p:=⟨w.heap.size,1,none⟩) (Vj _) b3).setCell (p:=⟨w.heap.size,2,none⟩) (Vj _) lo3).setCell (p:=⟨w.heap.size,3,none⟩) (Vj _) hi3).setCell (p:=⟨w.heap.size,4,none⟩) (Vj _) t3;clear cP cW cA cv cT;by_cases aF:F=k
    .subst aF;go_upto_region 8 with fail
     generalize World.setCell _ _ _=W4 at *;simp at ad;have a6:=h_ b8;have bo:w.heap.size<=W4.heap.size:=b8.size;have bx:=aM.out W4 b8;have ab:Hid (∀w',af W4 W4 w'->dv w' (.slice (some ⟨g,0,none⟩) p F) (L.take p)):=h_ (λ_ hb=>dv.pre (bx.below hb) sf);have aa:Hid (∀m c w',af W4 W4 w'->m=n - F->dv w' (.slice (if F=F then some ⟨g,0,none⟩ else some ⟨g,F*5,none⟩) m c) (L.drop F)):=h_ (λm _ _ hb hm=>dv.postIf (bx.below hb) wk vR);clear bx aM b8 az;have⟨db,dc,c7,dd,da,c9⟩:=ad.p5;go_upto_region 9 with fail
     rw[Vo (rfl:F=F)] at aa;have V:=an.closed W4.heap.size;refine bw [] (λ_=>false) (λ_=>True) (λ_=>True) k_ (trivial) ?_;refine aE ⟨W4,ai.refl _ _,trivial⟩ [ac,ae,ae,ae,ac,ae,ac,ac,ae] 7 ao aB ?_;refine aR [0,6] (am.cons ?_ (am.cons ?_ am.nil))
     .refine bP (some 38) (λv0=>λw'=>an w' W4.heap.size v0 []) r_ r_ r_ (λv0=>V v0 []) (λw' hO _=>kw (λ_=>by go_simp) hO (λ_ _ h _ _=>h)) (λv0 hne=>?_);refine ap ?_;refine aR [4,6] (am.cons ?_ (am.cons ?_ am.nil))
      .refine bP (some 42) (λv4=>λw'=>an w' W4.heap.size v4 (L.take p)) r_ r_ r_ (λv4=>V v4 _) (λw' hO h=>dT r_ r_ r_ hO h (ab.out w' hO.below) ei (λ_ _ h _ _=>h)) (λv4 hne=>?_);refine ap ?_;refine aD 6 ?_;refine bP (some 44) (λK=>bF W4.heap.size v4 (L.take p) K [((a3,b3),lo3,hi3,t3)]) r_ r_ r_ (λK=>bF.closed _ _ _ _ _) (λw' hO h=>ip (((a3,b3),lo3,hi3,t3)) (λ_=>by go_simp) hO (λv u h1 h2 h3=>bF.mk1 h h1 h2 h3)) (λK hne=>?_);refine ap ?_;refine aD 7 ?_;refine bP (some 45) (λv7=>λw'=>an w' W4.heap.size v7 (L.take p++[((a3,b3),lo3,hi3,t3)])) r_ r_ r_ (λv7=>V v7 _) (λw' hO h=>dT r_ r_ r_ hO h.1 h.2.1.rd ei (λ_ _ h _ _=>h)) (λv7 hne=>?_);refine ap ?_;refine aD 9 ?_;refine bP (some 47) (λv9=>λw'=>an w' W4.heap.size v9 (L.take p++[((a3,b3),lo3,hi3,t3)]++L.drop F)) r_ r_ r_ (λv9=>V v9 _) (λw' hO h=>dT r_ r_ r_ hO h (aa.out _ _ w' hO.below o_) ei (λ_ _ h _ _=>h)) (λv9 hne=>?_);exact wK
      .refine bP (some 44) (λK=>bF W4.heap.size v0 [] K [((a3,b3),lo3,hi3,t3)]) r_ r_ r_ (λK=>bF.closed _ _ _ _ _) (λw' hO h=>ip (((a3,b3),lo3,hi3,t3)) (λ_=>by go_simp) hO (λv u h1 h2 h3=>bF.mk1 h h1 h2 h3)) (λK hne=>?_);exact Lp
     .refine bP (some 44) (λK=>λw'=>an w' W4.heap.size K [((a3,b3),lo3,hi3,t3)]) r_ r_ r_ (λK=>V K _) (λw' hO _=>ip (((a3,b3),lo3,hi3,t3)) (λ_=>by go_simp) hO (λ_ _ h _ _=>h)) (λK hne=>?_);refine ap ?_;refine aD 0 ?_;refine bP (some 38) (λv0=>bF W4.heap.size v0 [] K [((a3,b3),lo3,hi3,t3)]) r_ r_ r_ (λv0=>bF.closed _ _ _ _ _) (λw' hO h=>kw (λ_=>by go_simp) hO (λv u h1 h2 h3=>bF.mk2 h h1 h2 h3)) (λv0 hne=>?_);exact Lp
    .
      go_upto_region 8 with fail
      generalize World.setCell _ _ _=W4 at *;simp at ad;have a6:=h_ b8;have bo:w.heap.size<=W4.heap.size:=b8.size;have bx:=aM.out W4 b8;have ab:Hid (∀w',af W4 W4 w'->dv w' (.slice (some ⟨g,0,none⟩) p F) (L.take p)):=h_ (λ_ hb=>dv.pre (bx.below hb) sf);have aa:Hid (∀m c w',af W4 W4 w'->m=n - k->dv w' (.slice (if F=k then some ⟨g,0,none⟩ else some ⟨g,k*5,none⟩) m c) (L.drop k)):=h_ (λm _ _ hb hm=>dv.postIf (bx.below hb) wk vR);clear bx aM b8 az;have⟨db,dc,c7,dd,da,c9⟩:=ad.p5;go_upto_region 9 with fail
      rw[Vm aF] at aa;have V:=an.closed W4.heap.size;refine bw [] (λ_=>false) (λ_=>True) (λ_=>True) k_ (trivial) ?_;refine aE ⟨W4,ai.refl _ _,trivial⟩ [ac,ae,ae,ae,ac,ae,ac,ac,ae] 7 ao aB ?_;refine aR [0,6] (am.cons ?_ (am.cons ?_ am.nil))
      .refine bP (some 38) (λv0=>λw'=>an w' W4.heap.size v0 []) r_ r_ r_ (λv0=>V v0 []) (λw' hO _=>kw (λ_=>by go_simp) hO (λ_ _ h _ _=>h)) (λv0 hne=>?_);refine ap ?_;refine aR [4,6] (am.cons ?_ (am.cons ?_ am.nil))
       .refine bP (some 42) (λv4=>λw'=>an w' W4.heap.size v4 (L.take p)) r_ r_ r_ (λv4=>V v4 _) (λw' hO h=>dT r_ r_ r_ hO h (ab.out w' hO.below) ei (λ_ _ h _ _=>h)) (λv4 hne=>?_);refine ap ?_;refine aD 6 ?_;refine bP (some 44) (λK=>bF W4.heap.size v4 (L.take p) K [((a3,b3),lo3,hi3,t3)]) r_ r_ r_ (λK=>bF.closed _ _ _ _ _) (λw' hO h=>ip (((a3,b3),lo3,hi3,t3)) (λ_=>by go_simp) hO (λv u h1 h2 h3=>bF.mk1 h h1 h2 h3)) (λK hne=>?_);refine ap ?_;refine aD 7 ?_;refine bP (some 45) (λv7=>λw'=>an w' W4.heap.size v7 (L.take p++[((a3,b3),lo3,hi3,t3)])) r_ r_ r_ (λv7=>V v7 _) (λw' hO h=>dT r_ r_ r_ hO h.1 h.2.1.rd ei (λ_ _ h _ _=>h)) (λv7 hne=>?_);refine ap ?_;refine aD 9 ?_;refine bP (some 47) (λv9=>λw'=>an w' W4.heap.size v9 (L.take p++[((a3,b3),lo3,hi3,t3)]++L.drop k)) r_ r_ r_ (λv9=>V v9 _) (λw' hO h=>dT r_ r_ r_ hO h (aa.out _ _ w' hO.below o_) ei (λ_ _ h _ _=>h)) (λv9 hne=>?_);exact wK
       .refine bP (some 44) (λK=>bF W4.heap.size v0 [] K [((a3,b3),lo3,hi3,t3)]) r_ r_ r_ (λK=>bF.closed _ _ _ _ _) (λw' hO h=>ip (((a3,b3),lo3,hi3,t3)) (λ_=>by go_simp) hO (λv u h1 h2 h3=>bF.mk1 h h1 h2 h3)) (λK hne=>?_);exact LG
      .refine bP (some 44) (λK=>λw'=>an w' W4.heap.size K [((a3,b3),lo3,hi3,t3)]) r_ r_ r_ (λK=>V K _) (λw' hO _=>ip (((a3,b3),lo3,hi3,t3)) (λ_=>by go_simp) hO (λ_ _ h _ _=>h)) (λK hne=>?_);refine ap ?_;refine aD 0 ?_;refine bP (some 38) (λv0=>bF W4.heap.size v0 [] K [((a3,b3),lo3,hi3,t3)]) r_ r_ r_ (λv0=>bF.closed _ _ _ _ _) (λw' hO h=>kw (λ_=>by go_simp) hO (λv u h1 h2 h3=>bF.mk2 h h1 h2 h3)) (λv0 hne=>?_);exact LG
def Pn(b0)(v)(L)(e:E5)(hL:eJ L)(w)(Z:an w b0 v L):
 Kp 80 #[v,cI e] w (fd (jG L e) w):=by
 have HG:=h_ (λW (hb:af w w W)=>tV b0 v L hL W (Z.below hb));have HE:=h_ (xR e);have HT:=h_ (λW (he:gj e=true) (hb:af w w W)=>OA b0 v L e he hL W (Z.below hb));obtain⟨a,F,rfl,_,_⟩:=Z.form;cases aa:gj e
 .have HV:Hid (jG L e=none):=h_ vI;rw[HV.out];rw[aa] at HE;clear HV aa HT;obtain⟨⟨A,B⟩,lo,hi,t⟩:=e;simp only[cI] at HE ⊢;obtain⟨kE,J⟩:=ay w #[A,B,lo,hi,t] 70;go_enter func80,ntmps80;go_upto_region 1 with fail
  generalize w.alloc _=W at *;go_wp2_with fail
  refine (HG.out W J).mono ?_;rintro r w1 ⟨rfl,I⟩;have H:=ag I J.size J;replace kE:=kE.next I
  have⟨a4,aZ,a8,a5,ad,bv⟩:=kE.p5;go_wp2_with fail
  refine (HE.out w1).mono ?_;rintro r w2 ⟨rfl,U⟩;have ax:=ag U H.size H;go_wp2;refine Vk (v:=.tuple #[.slice none 0 0,false]) vK rfl ?_;exact fd.none ax
 .have HV:Hid (jG L e=gw L e):=h_ vI;rw[HV.out];have aG:=h_ (BZ hL.2.2 e);have a1:=h_ (λM=>@C4 L e hL aa M);have HM:=h_ (λW hb=>HT.out W aa hb);have a9:=h_ tV;have bb:=h_ Nr;rw[aa] at HE;clear HV HT aa;obtain⟨te,V⟩:∃te,(fN L e).isSome=te:=⟨_,rfl⟩
  have ac:Hid (∀W r w',kr L e W r w'->∃v,r=.returned (.tuple #[v,te])/\(∀M,fN L e=some M->an w' W.heap.size v M)/\af W.heap.size W w'):=h_ (λW r w' ⟨v,h1,h2,h3⟩=>⟨v,V▸h1,h2,h3⟩);obtain⟨T,hT⟩:∃T,fN L e=T:=⟨_,rfl⟩
  obtain⟨R,hR⟩:∃R,gw L e=R:=⟨_,rfl⟩
  obtain⟨P,hP⟩:∃P,kr L e=P:=⟨_,rfl⟩
  rw[hR] at aG a1 ⊢;rw[hT] at aG ac V;rw[hP] at HM ac;have a6:=h_ V;clear hP hR hT V;obtain⟨⟨A,B⟩,lo,hi,t⟩:=e;simp only[cI] at HE HM ⊢;obtain⟨kE,J⟩:=ay w #[A,B,lo,hi,t] 70;go_enter func80,ntmps80;go_upto_region 1 with fail
  generalize w.alloc _=W at *;go_wp2_with fail
  refine (HG.out W J).mono ?_;rintro r w1 ⟨rfl,I⟩;have H:=ag I J.size J;replace kE:=kE.next I
  have⟨a4,aZ,a8,a5,ad,bv⟩:=kE.p5;go_wp2_with fail
  refine (HE.out w1).mono ?_;rintro r w2 ⟨rfl,U⟩;have ax:=ag U H.size H;replace kE:=kE.next U
  clear a4 aZ a8 a5 ad bv I U H J;have⟨a4,aZ,a8,a5,ad,bv⟩:=kE.p5;go_upto_region 3 with fail
  go_wp2_with fail
  refine (HM.out w2 ax).mono ?_;intro r w3 G;obtain⟨v3,rfl,aM,aF⟩:=ac.out _ _ _ G;have az:=ag aF ax.size ax;have a7:=h_ aM;clear aM G a4 aZ a8 a5 ad bv kE aF HM HE HG ac;cases te
  .have ey:T=none:=by have:=a6.out;cases T with|none=>rfl|some x=>cases this
   have aX:Hid (R=none):=h_ (by have:=aG.out;rw[ey] at this;exact this);go_wp2;exact Vk (v:=.tuple #[.slice none 0 0,false]) vK rfl (aX.out▸fd.none az)
  .obtain⟨M,hM⟩:∃M,T=some M:=Xe.1 a6.out;have bx:=a7.out M hM;have a2:R=if M.length<=12 then some M else none:=by have:=aG.out;rw[hM] at this;exact this
   obtain⟨a3,c3,rfl,_,_⟩:=bx.form;by_cases ae:M.length<=12
   .have aL:Hid (R=some M):=h_ (by rw[a2,Vo ae]);have ab:=h_ (a9.out w2 _ M (a1.out M aL.out) w3 bx);go_wp2_with fail
    refine ab.out.mono ?_;rintro r w4 ⟨rfl,K⟩;have g:=ag K az.size az;have ba:=h_ ((h_ (bx.le ax.size)).out.below K);go_wp2;exact Vk (v:=.tuple #[.slice a3 M.length c3,true]) vK rfl (aL.out▸fd.some ba.out g)
   .have aL:Hid (R=none):=h_ (by rw[a2,Vm ae]);have ab:=h_ (bb.out w2 _ M o_ w3 bx);go_wp2_with fail
    refine ab.out.mono ?_;rintro r w4 ⟨rfl,K⟩;have g:=ag K az.size az;go_wp2;exact Vk (v:=.tuple #[.slice none 0 0,false]) vK rfl (aL.out▸fd.none g)
end Go.Proofs.YtaamhakdhaolmaaGreatDoor
