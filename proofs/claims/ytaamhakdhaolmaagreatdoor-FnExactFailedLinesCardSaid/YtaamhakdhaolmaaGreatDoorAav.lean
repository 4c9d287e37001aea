/- Part 21. -/
import Derived.Lib.AppendZerosOnto
import Derived.Lib.Overlaps
import Derived.Test.YtaamhakdhaolmaaGreatDoorAau
namespace Go.Proofs.YtaamhakdhaolmaaGreatDoor
open Go.RowKit
set_option maxHeartbeats 8000000
set_option maxRecDepth 100000
variable {P:Prop}
set_option linter.all false
def pw(h:P:=by simp only[UE,UH];omega):=h
def ES(h:P:=by intro u hu;simp [dO] at hu;rcases hu with rfl|rfl|rfl|rfl|rfl<;>rfl):=h
def E4(h:P:=by simp [results,Tryz.results276,go_sem]):=h
def zr(h:P:=by
 go_enter Tryz.func276,Tryz.ntmps276;go_wp2_with (at_builtin;refine Lib.wpList_append_run _ rfl _ _ _ _ rfl _ _ rfl rfl _ _ hr ?_)
 go_ret;exact⟨_,rfl,H1.out,H.out⟩):=h
def sJ{ops:Array Oper}{rest:List Oper}{o:Oper}{a:Act}{Q:Exit->Act->au}(w:World)(aa:o.guard=none)(d s:Operand)(t g:TypeId)
 (Z:o.op=.call {callee:=.builtin .copy,args:=#[d,s],argTypes:=#[t,g]})(v u:Value)(hd:a.eval d=v)(hs:a.eval s=u){v':Value}{w':World}
 (hr:(Builtin.copy_ #[t,g] o.type #[v,u]).run Tryz.prog w=.ok v' w')(h:wpList Tryz.prog ops Q rest (a.put o.dst v') w'):wpList Tryz.prog ops Q (o::rest) a w:=by
 refine X0 aa λK hK=>?_;unfold Oper.wp execOp;simp only[Z,resolve,invoke,builtin,X3,X4,Xj,Xt,VF,WW,hd,hs,hr];exact hK _ _ h
def th(w:World)(ty:TypeId)(g o G K:Nat)(a:Addr)(H U:Nat)(aM:Array Value)(I:List Value)(hg:w.heap[g]?=some (.cells aM 70 (0,0)))(hn:I.length=Nat.min H G*5)
 (V:∀j v,I[j]?=some v->w.cell? (a.add j)=some v)(J:o+I.length<=aM.size)(h1:∀v∈I,v.oneCell'=true):
 (Builtin.copy_ #[28,28] ty #[.slice (some ⟨g,o,none⟩) G K,.slice (some a) H U]).run Tryz.prog w=
   .ok (goInt (Nat.min H G)) (w.setRow g (aM.toList.take o++I++aM.toList.drop (o+I.length)).toArray):=by
 have hl:=run_loadCells_list (P:=Tryz.prog) w a I V;have F:=run_storeCells_at Tryz.prog g o 70 I 0 aM w hg (by simpa using J) h1;obtain⟨i0,hq,bi,ax,a8⟩:=VE Tryz.infoE;simp [Builtin.copy_,Xg Tryz.underlying28,Builtin.lenOf,Builtin.firstCells,sizeOf,typeInfo,hq,ax,<-hn,hl,F]
def tW{c x:List Value}{o:Nat}(h:o+x.length<=c.length):(c.take o++x++c.drop (o+x.length)).length=c.length:=by
 simp only[UE,UH,Vs];omega
def QU{c E D:List Value}{p q:Nat}(hE:q=p+E.length)(h:q+D.length<=c.length):
 (((c.take q++D++c.drop (q+D.length)).take p++E++(c.take q++D++c.drop (q+D.length)).drop (p+E.length)).take (q+D.length))=c.take p++E++D:=by
 subst hE;have e1:(c.take (p+E.length)++D++c.drop (p+E.length+D.length)).take p=c.take p:=by
  rw[U5,Vp nV,XE];congr 1;omega
 have e2:(c.take (p+E.length)++D++c.drop (p+E.length+D.length)).drop (p+E.length)=D++c.drop (p+E.length+D.length):=by
  rw[U5,List.drop_append_of_le_length nV,Wr nV,VA]
 rw[e1,e2,<-U5,Vp pw,UP pw]
def Ru{c E D:List Value}{p q:Nat}(hE:q=p+E.length)(h:q+D.length<=c.length):
 (((c.take p++E++c.drop (p+E.length)).take q++D++(c.take p++E++c.drop (p+E.length)).drop (q+D.length)).take (q+D.length))=c.take p++E++D:=by
 subst hE;have e1:(c.take p++E++c.drop (p+E.length)).take (p+E.length)=c.take p++E:=by
  rw[Vp pw,UP pw]
 rw[e1,Vp pw,UP pw]
def BQ(L:aK)(e:E5)(i:Nat):bw (L.take i++e::L.drop i)=(bw L).take (i*5)++dO e++(bw L).drop (i*5):=by
 rw[qk,kY,wC,wN,U5]
def P8(b0:Nat)(v:Value)(L:aK)(e:E5)(vb:Nat)(hL:L.length<=100)(w:World)(J:b0<=w.heap.size)(Z:am w b0 v L)(hv:am w vb (.slice (some ⟨vb,0,none⟩) 1 1) [e]):
 Kp 276 #[v,L.length,.slice (some ⟨vb,0,none⟩) 1 1] w λr w'=>∃v',r=.returned v'/\am w' b0 v' (L++[e])/\ah v.ownBlock.toList w w':=by
 obtain⟨v',w',hr,h1,h2,_⟩:=tJ w b0 28 v _ L [e] Z hv.rd u_ J;obtain⟨a',c',rfl,_⟩:=h1.form;have a1:ah v.ownBlock.toList w w':=⟨h2.os,h2.tape,h2.output,h2.size,λk hk hn=>h2.block k hk (by
  cases hv:v.ownBlock with
  |none=>simp
  |some g=>rw[hv] at hn;simpa using hn)⟩
 obtain⟨a,F,rfl,bo,hf⟩:=Z.form;have H:=h_ a1;have H1:=h_ h1;rw[UE,WA] at hr H1;have G:F<=9223372036854775807/\(a=none->L.length=0/\F=0):=by
  rcases Z.2 with ⟨hv,hn⟩|⟨g,ae,aM,hv,_,_,_,az,_,_⟩
  .injection hv with e1 e2 e3;exact⟨by omega,λ_=>⟨e2,e3⟩⟩
  .injection hv with e1 e2 e3;unfold maxLen at az;exact⟨by omega,λh=>by rw[h] at e1;cases e1⟩
 clear Z hf h1 h2 a1 hv;cases a with
 |none=>
  obtain⟨h0,K⟩:=G.2 rfl;subst K;rw[h0] at hr H1 H ⊢;clear h0 G bo hL;exact zr
 |some ad=>
  have U:=hL;generalize L.length=n at *;have I:=G.1;clear G;by_cases aF:F=n
  .subst aF;exact zr
  .exact zr
def PY(b0 g F:Nat)(L:aK)(e:E5)(vb i:Nat)(hi:i<L.length)(a2:L.length+1<=F)(hL:L.length<=100)(w:World)(Z:am w b0 (.slice (some ⟨g,0,none⟩) L.length F) L)(hv:ag vb #[e.1.1,e.1.2,e.2.1,e.2.2.1,e.2.2.2] 70 w)(hne:vb≠g):
 Kp 276 #[.slice (some ⟨g,0,none⟩) L.length F,i,.slice (some ⟨vb,0,none⟩) 1 1] w λr w'=>r=.returned (.slice (some ⟨g,0,none⟩) (L.length+1) F)/\am w' b0 (.slice (some ⟨g,0,none⟩) (L.length+1) F) (L.take i++e::L.drop i)/\ah [g] w w':=by
 rcases Z.2 with ⟨hv,hn⟩|⟨g',ae,aM,ac,hg,hh,aL,az,aF,ht⟩
 .cases hv
 .injection ac with e1 e2 e3;injection e1 with e1;injection e1 with e1;subst e1 e3;have ab:=kc L;obtain⟨n,hn⟩:∃n,L.length=n:=⟨_,rfl⟩
  obtain⟨k,hk⟩:∃k:Nat,i+1=k:=⟨_,rfl⟩
  obtain⟨n1,bY⟩:∃k:Nat,n+1=k:=⟨_,rfl⟩
  have cy:(i:Int)+1=(k:Int):=o_;have b8:(n:Int)+1=(n1:Int):=o_;have a9:F<=9223372036854775807:=by unfold maxLen at az;omega
  rw[hn] at ht ab hi a2 hL aL ⊢;rw[bY] at a2 ⊢;have aZ:(dO e).length=5:=rfl;have hD:((bw L).drop (i*5)).length=(n - i)*5:=by rw[Vs,ab];omega
  have aa:∀j u,((bw L).drop (i*5))[j]?=some u->w.drew.cell? ((⟨g,i*5,none⟩:Addr).add j)=some u:=λj u hj=>by
   rw[show (⟨g,i*5,none⟩:Addr).add j=⟨g,i*5+j,none⟩ by cases j<;>simp [Addr.add]];rw[VR] at hj;have aG:i*5+j<n*5:=by rw[<-ab];exact (U2.1 hj).1
   have h4:(aM.toList.take (n*5))[i*5+j]?=aM.toList[i*5+j]?:=UR aG;exact zJ
  have U:Nat.min (n1 - i) (n1 - k)=n - i:=by simp only[Ym];split<;>omega
  have aX:Nat.min 1 (n1 - i)=1:=by simp only[Ym];split<;>omega
  have a4:=λty dc sc=>th w.drew ty g (k*5) (n1 - k) dc ⟨g,i*5,none⟩ (n1 - i) sc aM ((bw L).drop (i*5)) hh (by rw[hD,U]) aa (by rw[hD,aF];omega) (λu hu=>sW L u (VW hu));obtain⟨G,H⟩:∃c,(aM.toList.take (k*5)++(bw L).drop (i*5)++aM.toList.drop (k*5+((bw L).drop (i*5)).length)).toArray=c:=⟨_,rfl⟩
  have bz:=tW (c:=aM.toList) (x:=(bw L).drop (i*5)) (o:=k*5) (by rw[hD];have:aM.toList.length=aM.size:=rfl;omega);have ax:G.size=aM.size:=by
   rw[<-H];exact bz.trans UC
  rw[H] at a4;have a6:(w.drew.setRow g G).heap[g]?=some (.cells G 70 (0,0)):=Xq w.drew g aM G _ _ hh;have bs:ag vb #[e.1.1,e.1.2,e.2.1,e.2.2.1,e.2.2.2] 70 (w.drew.setRow g G):=(Yt w.drew g vb G hne).trans hv;have a3:=λty dc=>th (w.drew.setRow g G) ty g (i*5) (n1 - i) dc ⟨vb,0,none⟩ 1 1 G (dO e) a6 (by rw[aX];rfl) (λj u hj=>by
   rw[show (⟨vb,0,none⟩:Addr).add j=⟨vb,j,none⟩ by cases j<;>simp [Addr.add]];rw[bs.cell j];simpa[dO] using hj) (by rw[aZ,ax,aF];omega) ES
  obtain⟨J,K⟩:∃c,(G.toList.take (i*5)++dO e++G.toList.drop (i*5+(dO e).length)).toArray=c:=⟨_,rfl⟩
  rw[K,setRow_setRow] at a3;have ad:=tW (c:=G.toList) (x:=dO e) (o:=i*5) (by rw[aZ];have:G.toList.length=G.size:=rfl;omega);have a7:J.size=aM.size:=by
   rw[<-K];exact (ad.trans UC).trans ax
  have V:am (w.drew.setRow g J) b0 (.slice (some ⟨g,0,none⟩) n1 F) (L.take i++e::L.drop i):=by
   have bb:(L.take i++e::L.drop i).length=n1:=u_;refine⟨by rw[kc],.inr ⟨g,F,J,by rw[bb],hg,Xq w.drew g aM J _ _ hh,by omega,az,by omega,?_⟩⟩;have hR:=QU (c:=aM.toList) (E:=dO e) (D:=(bw L).drop (i*5)) (p:=i*5) (q:=k*5) (by rw[aZ];omega) (by rw[hD,UC,aF];omega);rw[bb,BQ,<-K,<-H];simp only[WO];rw[show n1*5=k*5+((bw L).drop (i*5)).length by rw[hD];omega,hR,<-ht,XE];congr 3;omega
  have a1:ah [g] w (w.drew.setRow g J):=((ah.refl [g] w).drew).trans (Bt w.drew g J);have a8:∀lb cb,(callFunc 313 #[.slice (some ⟨vb,0,none⟩) 1 1,.slice (some ⟨g,k*5,none⟩) lb cb]).run Tryz.prog w=.ok (.value false) w:=λlb cb=>by
   rw[XD Tryz.func313 k_ k_ k_ (e:=Extern.SlicesOverlaps.overlaps #[28,28] #[4]) k_,
    Lib.run_overlaps_apart w 28 4 70 Tryz.underlying28 5 Tryz.sizeOf70 ⟨vb,0,none⟩ ⟨g,k*5,none⟩ 1 1 lb cb hne 70 70 5 aM.size (by unfold World.shape?;rw[show w.heap[vb]?=_ from hv];rfl) (by unfold World.shape?;rw[hh]) o_ (hv.frozen 0) (hv.frozen 5)]
   rfl
  have HK:=h_ hk;have HN:=h_ hn;have b5:=h_ bY;have a5:=h_ V;have bp:=h_ a1;have g1:¬(i:Int)=(n:Int):=o_;have g2:i<=n:=o_;have g3:k<=n1:=o_;have g4:¬(F:Int)<(n1:Int):=o_;have g5:¬F=i:=o_;have g6:¬F=k:=o_;have g7:i<=n1:=o_;have g8:n1<=F:=o_;have b9:IntKind.i64.wrap (k:Int)=(k:Int):=Vd _ o_;clear bz ad hk hn bY V a1 aa H K ax a7 a6 bs U aX hD aZ ht ab hh aF hv Z e2;go_enter Tryz.func276,Tryz.ntmps276;go_wp2_with (simp only[a8])
  refine wp_region_still_tail 8 k_ k_ ?_;simp only[WN,XF,UI,U0];change wpStill _ _ w.drew (λa'=>wpList _ _ _ _ a' w.drew) _ _
  repeat still_step
  refine XH ?_;refine sJ _ rfl _ _ _ _ rfl _ _ rfl rfl (a4 _ _ _) ?_;go_wp2_with (at_builtin;refine sJ _ rfl _ _ _ _ rfl _ _ rfl rfl (a3 _ _) ?_)
  refine Uh (v:=.slice (some ⟨g,0,none⟩) n1 F) E4 rfl ?_;exact⟨rfl,a5.out,bp.out⟩
def A6{n:Nat}{w W:World}(h:Below n w W)(g:Nat)(I:Array Value)(hg:n<=g):Below n w (W.setRow g I):=
 ⟨h.os,h.tape,h.output,by simpa[World.setRow] using h.size,λk hk=>(Yt W g k I o_).trans (h.block k hk)⟩
def OM(b0 g F:Nat)(L:aK)(e:E5)(vb i:Nat)(hi:i<L.length)(a2:F<L.length+1)(hL:L.length<=100)(w:World)(J:b0<=w.heap.size)(Z:am w b0 (.slice (some ⟨g,0,none⟩) L.length F) L)(hv:ag vb #[e.1.1,e.1.2,e.2.1,e.2.2.1,e.2.2.2] 70 w):
 Kp 276 #[.slice (some ⟨g,0,none⟩) L.length F,i,.slice (some ⟨vb,0,none⟩) 1 1] w λr w'=>∃v',r=.returned v'/\am w' b0 v' (L.take i++e::L.drop i)/\Below w.heap.size w w':=by
 rcases Z.2 with ⟨hv,hn⟩|⟨g',ae,aM,ac,hg,hh,aL,az,aF,ht⟩
 .cases hv
 .injection ac with e1 e2 e3;injection e1 with e1;injection e1 with e1;subst e1 e3;have ab:=kc L;obtain⟨n,hn⟩:∃n,L.length=n:=⟨_,rfl⟩
  obtain⟨k,hk⟩:∃k:Nat,i+1=k:=⟨_,rfl⟩
  obtain⟨n1,bY⟩:∃k:Nat,n+1=k:=⟨_,rfl⟩
  obtain⟨d,hd⟩:∃k:Nat,n1 - i=k:=⟨_,rfl⟩
  have cy:(i:Int)+1=(k:Int):=o_;have b8:(n:Int)+1=(n1:Int):=o_;have b4:(n1:Int) - (i:Int)=(d:Int):=o_;rw[hn] at ht ab hi a2 hL aL ⊢;obtain rfl:F=n:=by omega
  have aZ:(dO e).length=5:=rfl;have hD:((bw L).drop (i*5)).length=(F - i)*5:=by rw[Vs,ab];omega
  have hT:((bw L).take (i*5)).length=i*5:=by rw[UH,ab];omega
  have K:∀j u,(bw L)[j]?=some u->w.cell? ⟨g,j,none⟩=some u:=λj u hj=>by
   have aG:j<F*5:=by rw[<-ab];exact (U2.1 hj).1
   have h4:(aM.toList.take (F*5))[j]?=aM.toList[j]?:=UR aG;exact zJ
  have a6:g<w.heap.size:=(Uv.1 hh).1;have b7:=hv.lt;obtain⟨i0,a9,bi,ax,a8⟩:=VE Tryz.infoE;have bX:(Builtin.firstCells i0.size i (.slice (some ⟨g,0,none⟩) i F)).run Tryz.prog w.drew=.ok ((bw L).take (i*5)).toArray w.drew:=by
   rw[ax];exact run_firstCells_some w.drew 5 i ⟨g,0,none⟩ i F ((bw L).take (i*5)) hT (λj u hj=>by
    rw[show (⟨g,0,none⟩:Addr).add j=⟨g,j,none⟩ by cases j<;>simp [Addr.add]];rw[WX] at hj;split at hj
    .exact K j u hj
    .cases hj)
  have hid:i+d=n1:=o_;obtain⟨G,hG⟩:∃G,grownCap w n1 F 70=G:=⟨_,rfl⟩
  obtain⟨H,ad⟩:∃H:Array Value,((bw L).take (i*5)).toArray++Builtin.zeroCells (Value.agg #[.int .i64 0,.int .i64 0,.int .i64 0,.int .i64 0,.int .i64 0]).cells d++Builtin.zeroCells (Value.agg #[.int .i64 0,.int .i64 0,.int .i64 0,.int .i64 0,.int .i64 0]).cells (G - n1)=H:=⟨_,rfl⟩
  have cb:n1<=G:=by rw[<-hG];exact grownCap_ge w _ _ _
  have bo:G<=maxLen:=by rw[<-hG];exact grownCap_le_maxLen w _ _ _ pv
  have ca:G<=9223372036854775807:=by unfold maxLen at bo;omega
  have ba:∀ty,(Builtin.append_ #[28,3] ty #[.slice (some ⟨g,0,none⟩) i F,.int .i64 (d:Int)]).run Tryz.prog w=.ok (.slice (some ⟨w.heap.size,0,none⟩) n1 G) (w.drew.alloc (.cells H 70)):=λty=>by
   have h:=Lib.run_append_grow_zeros w 28 3 ty 70 i0 _ .i64 .i64 Tryz.underlying28 Tryz.underlying3 a9 bi (some ⟨g,0,none⟩) i F ((bw L).take (i*5)) bX d o_ (by rw[ax];decide) o_ o_ (by rw[a8];omega) (by rw[a8,hid];exact growslice_fits o_ o_);rw[hid,hG,ad] at h;exact h
  have b1:H.size=G*5:=by
   rw[<-ad];simp only[Array.size_append,size_zeroCells];have e1:((bw L).take (i*5)).toArray.size=i*5:=hT;have e2:(Value.agg #[Value.int .i64 0,(),(),(),()]).cells.size=5:=rfl;rw[e1,e2];omega
  have b6:H.toList.take (i*5)=(bw L).take (i*5):=by
   rw[<-ad];simp only[Array.toList_append,U5];rw[Vp (by rw[hT];omega)];exact UP (by rw[hT];omega)
  obtain⟨r,hr⟩:∃r,w.heap.size=r:=⟨_,rfl⟩
  obtain⟨W1,a7⟩:∃W1,w.drew.alloc (.cells H 70)=W1:=⟨_,rfl⟩
  have kN:W1.heap[r]?=some (.cells H 70 (0,0)):=by rw[<-a7,<-hr];exact ag.new w.drew H 70
  have bx:Below w.heap.size w W1:=by rw[<-a7];exact ((Uk w.heap.size w).drew).alloc (Ug _) _
  have bs:=hv.next bx
  have aX:Nat.min 1 (n1 - i)=1:=by simp only[Ym];split<;>omega
  have U:Nat.min (F - i) (n1 - k)=F - i:=by simp only[Ym];split<;>omega
  have a4:=λty dc=>th W1 ty r (i*5) (n1 - i) dc ⟨vb,0,none⟩ 1 1 H (dO e) kN (by rw[aX];rfl) (λj u hj=>by
   rw[show (⟨vb,0,none⟩:Addr).add j=⟨vb,j,none⟩ by cases j<;>simp [Addr.add]];rw[bs.cell j];simpa[dO] using hj) (by rw[aZ,b1];omega) ES
  obtain⟨cA,bq⟩:∃c,(H.toList.take (i*5)++dO e++H.toList.drop (i*5+(dO e).length)).toArray=c:=⟨_,rfl⟩
  have b2:=tW (c:=H.toList) (x:=dO e) (o:=i*5) (by rw[aZ];have:H.toList.length=H.size:=rfl;omega);have a3:cA.size=H.size:=by rw[<-bq];exact b2.trans UC
  rw[bq] at a4;obtain⟨W2,cu⟩:∃W2,W1.setRow r cA=W2:=⟨_,rfl⟩
  have kA:W2.heap[r]?=some (.cells cA 70 (0,0)):=by rw[<-cu];exact Xq W1 r H cA _ _ kN
  have aa:Below w.heap.size w W2:=by rw[<-cu];exact A6 bx r cA o_
  rw[cu] at a4;have bz:=λty dc sc=>th W2.drew ty r (k*5) (n1 - k) dc ⟨g,i*5,none⟩ (F - i) sc cA ((bw L).drop (i*5)) kA (by rw[hD,U]) (λj u hj=>by
   rw[show (⟨g,i*5,none⟩:Addr).add j=⟨g,i*5+j,none⟩ by cases j<;>simp [Addr.add]];rw[VR] at hj;exact (aa.drew.cell (p:=⟨g,i*5+j,none⟩) a6).trans (K _ u hj)) (by rw[hD,a3,b1];omega) (λu hu=>sW L u (VW hu))
  obtain⟨cB,bv⟩:∃c,(cA.toList.take (k*5)++(bw L).drop (i*5)++cA.toList.drop (k*5+((bw L).drop (i*5)).length)).toArray=c:=⟨_,rfl⟩
  have bZ:=tW (c:=cA.toList) (x:=(bw L).drop (i*5)) (o:=k*5) (by rw[hD];have:cA.toList.length=cA.size:=rfl;omega);have b3:cB.size=H.size:=by rw[<-bv];exact (bZ.trans UC).trans a3
  rw[bv] at bz;have V:am (W2.drew.setRow r cB) b0 (.slice (some ⟨r,0,none⟩) n1 G) (L.take i++e::L.drop i):=by
   have bb:(L.take i++e::L.drop i).length=n1:=u_;refine⟨by rw[kc],.inr ⟨r,G,cB,by rw[bb],by omega,Xq W2.drew r cA cB _ _ kA,by omega,bo,by omega,?_⟩⟩;have hR:=Ru (c:=H.toList) (E:=dO e) (D:=(bw L).drop (i*5)) (p:=i*5) (q:=k*5) (by rw[aZ];omega) (by rw[hD];have:H.toList.length=H.size:=rfl;omega);rw[bb,BQ,<-bv,<-bq];simp only[WO];rw[show n1*5=k*5+((bw L).drop (i*5)).length by rw[hD];omega,hR,b6]
  have a1:Below w.heap.size w (W2.drew.setRow r cB):=A6 aa.drew r cB o_;rw[a7] at ba;rw[hr] at ba;have HR:=h_ hr;have HK:=h_ hk;have HN:=h_ hn;have b5:=h_ bY;have HD:=h_ hd;have a5:=h_ V;have bp:=h_ a1;have g1:¬(i:Int)=(F:Int):=o_;have g2:i<=F:=o_;have g3:k<=n1:=o_;have g4:(F:Int)<(n1:Int):=o_;have g5:¬F=i:=o_;have g6:¬G=k:=o_;have g7:i<=n1:=o_;have g8:n1<=G:=o_;have g9:¬G=i:=o_;have b9:IntKind.i64.wrap (k:Int)=(k:Int):=Vd _ o_;have cc:IntKind.i64.wrap (d:Int)=(d:Int):=Vd _ o_;clear hr hk hn bY hd V a1 b2 bZ bq bv a3 b3 kA kN a7 cu bx aa bs U aX b6 b1 ad hG bo bX a9 bi ax a8 K a6 b7 hT hD aZ ht ab hh aF hv Z e2 hid az;go_enter Tryz.func276,Tryz.ntmps276;go_wp2_with (first|(at_builtin;refine Lib.wpList_append_run _ rfl _ _ _ _ rfl _ _ rfl rfl _ _ (ba _) ?_)|(at_builtin;refine sJ _ rfl _ _ _ _ rfl _ _ rfl rfl (a4 _ _) ?_))
  refine wp_region_still_tail 8 k_ k_ ?_;simp only[WN,XF,UI,U0];change wpStill _ _ W2.drew (λa'=>wpList _ _ _ _ a' W2.drew) _ _
  repeat still_step
  refine XH ?_;refine sJ _ rfl _ _ _ _ rfl _ _ rfl rfl (bz _ _ _) ?_;go_wp2;refine Uh (v:=.slice (some ⟨r,0,none⟩) n1 G) E4 rfl ?_;exact⟨_,rfl,a5.out,bp.out⟩
def H_(h:P:=by unfold fD;rw[show cO ((A,B),lo,hi,t).1 L=false from hh];rfl):=h
def za(h:P:=by simp [results,Tryz.results220,go_sem]):=h
def I_(h:P:=by have:=cT.out;cases mo with|none=>rfl|some x=>cases this):=h
def KZ(h:P:=by
 refine aR [10] ?_;refine ak.cons ?_ ?_
 .refine fk (v:=.agg #[a3,b3,lo3,hi3,t3]) [] [] (.inl cG) an (λ_ _ h _=>h) s_ (λhne=>?_)
  try simp only[Value.cells]
  refine aD hne [ac,ac,ac,ac,ac,ac,ac,ac,ac,ac,ac,ae] 0 (KD.closed an _) aA ?_;refine jc k_ (λWz a7 aX=>?_) _;exact bp dq Wz ⟨a7,aX.1,o_,aX.2.head⟩
 exact ak.nil):=h
def PE(b0:Nat)(v:Value)(L:aK)(e:E5)(vb i:Nat)(hi:i<=L.length)(hL:L.length<=100)(w:World)(J:b0<=w.heap.size)(Z:am w b0 v L)(hv:ag vb #[e.1.1,e.1.2,e.2.1,e.2.2.1,e.2.2.2] 70 w)(hne:∀g,v.ownBlock=some g->vb≠g):
 Kp 276 #[v,i,.slice (some ⟨vb,0,none⟩) 1 1] w λr w'=>∃v',r=.returned v'/\am w' b0 v' (L.take i++e::L.drop i)/\ah v.ownBlock.toList w w':=by
 rcases XN hi with rfl|aG
 .have ab:am w vb (.slice (some ⟨vb,0,none⟩) 1 1) [e]:=by
   refine⟨by rw[kc],.inr ⟨vb,1,_,rfl,Ug _,hv,Ug _,by unfold maxLen;omega,rfl,rfl⟩⟩
  rw[Ve,X6];exact P8 b0 v L e vb hL w J Z ab
 .obtain⟨a,F,rfl,bo,hf⟩:=Z.form;obtain⟨g,rfl,_⟩:=hf i aG;by_cases hr:L.length+1<=F
  .exact (PY b0 g F L e vb i aG hr hL w Z hv (hne g rfl)).mono λ_ _ ⟨h1,h2,h3⟩=>⟨_,h1,h2,h3⟩
  .exact (OM b0 g F L e vb i aG o_ hL w J Z hv).mono λ_ _ ⟨v',h1,h2,h3⟩=>⟨v',h1,h2,.of_below h3⟩
def Oa(L:aK):∀(i:Nat) (_:i<L.length) (m:E5),bw (L.set i m)=(((((bw L).set (i*5) m.1.1).set (i*5+1) m.1.2).set (i*5+2) m.2.1).set (i*5+3) m.2.2.1).set (i*5+4) m.2.2.2:=by
 induction L with
 |nil=>intro i h;simp at h
 |cons p r g=>
  intro i h m;cases i with
  |zero=>simp [bw,dO]
  |succ i=>
   have:=g i kj m;rw[U1,kY,this,kY,show (i+1)*5=i*5+5 by omega];simp [dO]
def am.store{w:World}{b0 g n F i:Nat}{L:aK}(h:am w b0 (.slice (some ⟨g,0,none⟩) n F) L)(hi:i<L.length)(m:E5):
 am (((((w.setCell ⟨g,i*5,none⟩ m.1.1).setCell ⟨g,i*5+1,none⟩ m.1.2).setCell ⟨g,i*5+2,none⟩ m.2.1).setCell ⟨g,i*5+3,none⟩ m.2.2.1).setCell ⟨g,i*5+4,none⟩ m.2.2.2) b0 (.slice (some ⟨g,0,none⟩) n F) (L.set i m):=by
 have hn:n=L.length:=by
  rcases h.2 with ⟨h0,_⟩|⟨g',ae,aM,hv,_⟩
  .cases h0
  .injection hv
 subst hn;unfold am at h ⊢;rw[List.length_set,Oa _ _ hi];exact jJ (jJ (jJ (jJ (jJ h rfl _ _) rfl _ _) rfl _ _) rfl _ _) rfl _ _
def fD(L:aK)(e:E5):Option (aK):=if cO e.1 L=true then (match L[plc e.1 L]? with|some x=>(ek x e).map λm=>L.set (plc e.1 L) m|none=>none) else some (L.take (plc e.1 L)++e::L.drop (plc e.1 L))
def Bu{L:aK}(h:L.length<=12)(e:E5):gf L e=(fD L e).bind λM=>if M.length<=12 then some M else none:=by
 unfold gf fD;have G:=mg e.1 L;split
 .cases hx:L[plc e.1 L]? with
  |none=>rfl
  |some x=>
   simp only;cases ek x e with
   |none=>rfl
   |some m=>simp [h]
 .simp only[Xu];have hl:(L.take (plc e.1 L)++e::L.drop (plc e.1 L)).length=L.length+1:=u_;rw[hl];by_cases h1:L.length<=11
  .rw[Um h1,Um o_]
  .rw[Uj h1,Uj o_]
def wb(L:aK)(e:E5)(w:World)(r:Ending)(w':World):Prop:=∃v,r=.returned (.tuple #[v,.bool (gf L e).isSome])/\(∀M,gf L e=some M->am w' w.heap.size v M)/\Below w.heap.size w w'
def N_(b0:Nat)(v0:Value)(L:aK)(e:E5)(vb:Nat)(hL:eA L)(w:World)(cy:vb<w.heap.size)(Z:am w b0 v0 L)(hv:ag vb #[e.1.1,e.1.2,e.2.1,e.2.2.1,e.2.2.2] 70 w):
 Kp 220 #[v0,.slice (some ⟨vb,0,none⟩) 1 1] w (wb L e w):=by
 have hT:=Bu hL.2.2 e;have b7:=hL.2.2;have c4:=h_ (Dt b0 v0 L o_ w Z);have c7:=h_ (λv W b0 (h:am W b0 v L)=>To b0 v L e hL W h);have J:=h_ (λb0 v W vb i (h1:i<=L.length) (h2:b0<=W.heap.size) h3 h4 h5=>PE b0 v L e vb i h1 o_ W h2 h3 h4 h5);have ca:=mg e.1 L;have az:=@lh e.1 L;obtain⟨a0,dd,rfl,_,_⟩:=Z.form;have HV:∀g,g=plc e.1 L->True:=λ_ _=>trivial;clear HV;obtain⟨⟨A,B⟩,lo,hi,t⟩:=e;simp only[cq] at c7;simp only at hv ca az J;obtain⟨S,hS⟩:∃S,w.heap.size=S:=⟨_,rfl⟩
 have dl:vb<S:=hS▸cy;clear Z cy;go_enter Tryz.func220,Tryz.ntmps220;go_wp2_with fail
 refine c4.out.mono ?_;rintro r w1 ⟨v1,rfl,bz,I⟩;rw[hS] at bz I;have HS:=h_ hS;clear hS c4;have bs:=hv.next (I.mono (by rw[HS.out];exact Ug _))
 obtain⟨a1,bv,rfl,_,a6⟩:=bz.form;have cA:S<=w1.heap.size:=HS.out▸I.size;have db:vb<w1.heap.size:=o_;go_upto_region 3 with fail
 go_loopw [6,17] (λov iv wr=>(iv=.int .i64 0/\ov=.slice a1 L.length bv/\wr=w1)\/(iv=.int .i64 1/\∃M:aK,Hid (fD L ((A,B),lo,hi,t)=some M)/\am wr S ov M/\M.length<=100/\Below S w wr)) (λ_ iv _=>1 - (intOf iv).toNat)
 case atStart=>exact .inl ⟨rfl,rfl,rfl⟩
 case round=>
  rcases hrel with ⟨rfl,rfl,rfl⟩|⟨rfl,M,HM,da,dc,c5⟩
  .rename World=>wr
   obtain⟨d0,d1,d2,d3,d4⟩:=bs.q5;obtain⟨kE,ab⟩:=aw wr #[A,B,lo,hi,t] 70;have aL:=af ab cA I;have bb:=bz.below ab;go_upto_region 5 with fail
   clear d0 d1 d2 d3 d4 ab hv bs bz a6;generalize wr.alloc _=W at *;generalize wr.heap.size=r8 at *;have H1:=h_ (c7.out _ W S bb);obtain⟨a4,aZ,ba,a5,ad⟩:=kE.q5;have bY:=kE.lt;go_wp2_with fail
   refine H1.out.mono ?_;rintro r w2 ⟨rfl,U⟩;have cb:S<=W.heap.size:=HS.out▸aL.size;replace aL:=af U cb aL;replace cb:=Ui cb U.size;replace bb:=bb.below U;replace kE:=kE.next U
   clear a4 aZ ba a5 ad bY U H1;cases hh:cO (A,B) L
   .have cv:Hid (fD L ((A,B),lo,hi,t)=some (L.take (plc (A,B) L)++((A,B),lo,hi,t)::L.drop (plc (A,B) L))):=h_ H_;clear hh az;generalize plc (A,B) L=p at *;obtain⟨a4,aZ,ba,a5,ad⟩:=kE.q5;have bY:=kE.lt;obtain⟨kB,ab⟩:=aw w2 #[A,B,lo,hi,t] 70;have F:=af ab cb aL;have K:=bb.lt;have a9:=bb.below ab;have H2:=h_ (J.out S (.slice a1 L.length bv) (w2.alloc (.cells #[A,B,lo,hi,t] 70)) w2.heap.size p ca (Ui cb ab.size) a9 kB (λg hg=>by have:=(K g hg).2;omega));go_wp2_with fail
    refine H2.out.mono ?_;rintro r w4 ⟨v4,rfl,bo,bq⟩;have ax:=bq.belowGe F (HS.out▸F.size) (λg hg=>by
     have h9:Value.ownBlock (.slice a1 L.length bv)=some g:=by simpa using hg
     exact (K g h9).1)
    go_wp2;go_roundw
    case rel=>exact .inr ⟨rfl,_,cv,bo,by simp;omega,ax⟩
    case measure=>simp [intOf]
   .obtain⟨G,hc⟩:=az.1 hh;obtain⟨aa,cc,c8,_,c0⟩:=bb.form;injection c8 with e1 e2 e3;subst e1 e3;obtain⟨g,rfl,hg,b9,c3,q0,q1,q2,q3,q4⟩:=c0 _ G;have b1:fD L ((A,B),lo,hi,t)=(ek (L[plc (A,B) L]'G) ((A,B),lo,hi,t)).map λm=>L.set (plc (A,B) L) m:=by
     unfold fD;rw[show cO ((A,B),lo,hi,t).1 L=true from hh,Um rfl];rw[show L[plc ((A,B),lo,hi,t).1 L]?=some (L[plc (A,B) L]'G) from Us G]
    have cP:∀W,Kp 277 #[cq (L[plc (A,B) L]'G),cq ((A,B),lo,hi,t)] W λr w'=>r=.returned (.tuple #[cq (oo (L[plc (A,B) L]'G) ((A,B),lo,hi,t)),.bool (ek (L[plc (A,B) L]'G) ((A,B),lo,hi,t)).isSome])/\Below W.heap.size W w':=λW=>Ml (L[plc (A,B) L]'G) ((A,B),lo,hi,t) W;have cs:=λm'=>@Q_ (L[plc (A,B) L]'G) ((A,B),lo,hi,t) m';clear hh az hc c0 e2;have c6:(plc (A,B) L:Int)<(L.length:Int):=o_;generalize plc (A,B) L=p at *;generalize (L[p]'G)=x at *;generalize oo x ((A,B),lo,hi,t)=m at *;generalize ek x ((A,B),lo,hi,t)=mo at *;obtain⟨⟨a2,b2⟩,b6,b8,t2⟩:=x;obtain⟨⟨a3,b3⟩,lo3,hi3,t3⟩:=m;simp only[cq] at cP q0 q1 q2 q3 q4;have bZ:=h_ cP;have cv:=h_ b1;have co:=h_ cs;clear cP b1 cs;obtain⟨a4,aZ,ba,a5,ad⟩:=kE.q5;have bY:=kE.lt;go_upto_region 8 with fail
    generalize c2:mo.isSome=ok at *;have cT:=h_ c2;clear c2;apply fO (λdq Wz=>ah [] w2 Wz/\(λ_=>True) Wz/\w2.heap.size<=dq/\ag dq #[a3,b3,lo3,hi3,t3] 70 Wz)
    .intro bp;refine br [] (λ_=>false) (λ_=>True) (KD (λ_=>True) []) k_ ⟨trivial,bR.nil _⟩ ?_;refine aD ⟨w2,ah.refl _ _,trivial,bR.nil _⟩ [ae,ae,ae,ae,ae] 7 (KD.closed an _) aA ?_;refine aR [5,9] ?_;refine ak.cons ?_ ?_
     .refine dY (v:=.tuple #[.agg #[a3,b3,lo3,hi3,t3],ok]) (some 40) (λ_=>True) an (λ_ _=>by simp) (λw' hC=>(bZ.out w').mono λ_ _ h=>⟨h.1,.of_below h.2,trivial⟩) (λhne=>?_);refine ao ?_;refine aD hne [ac,ac,ac,ac,ac,ac,ae,ae,ae] 3 (KD.closed an _) aA ?_;refine aR [9] ?_;refine ak.cons ?_ ?_
      .refine dm (zs:=#[(),(),(),(),()]) (T:=70) an (λdq cG c1 hne=>?_);refine ao ?_;exact KZ
      exact ak.nil
     refine ak.cons ?_ ?_
     .refine dm (zs:=#[(),(),(),(),()]) (T:=70) an (λdq cG c1 hne=>?_);refine ao ?_;refine aR [5] ?_;refine ak.cons ?_ ?_
      .refine dY (v:=.tuple #[.agg #[a3,b3,lo3,hi3,t3],ok]) (some 40) (λ_=>True) an (λ_ _=>by simp) (λw' hC=>(bZ.out w').mono λ_ _ h=>⟨h.1,.of_below h.2,trivial⟩) (λhne=>?_);refine ao ?_;refine aD hne [ac,ac,ac,ac,ac,ac,ae,ae,ae] 2 (KD.closed an _) aA ?_;exact KZ
      exact ak.nil
     exact ak.nil
    try dsimp only
    rintro rM W3 ⟨bi,_,b4,kM⟩;have b5:=bi.below;have F:=af b5 cb aL;replace cb:=Ui cb b5.size;have a9:=bb.below b5;have c9:=Un hg b5.size;have H:∀o,W3.frozen? ⟨g,o,none⟩=false:=λo=>(b5.frozen (p:=⟨g,o,none⟩) hg).trans (c3 o);replace q0:=(b5.cell (p:=⟨g,p*5,none⟩) hg).trans q0;replace q1:=(b5.cell (p:=⟨g,p*5+1,none⟩) hg).trans q1;replace q2:=(b5.cell (p:=⟨g,p*5+2,none⟩) hg).trans q2;replace q3:=(b5.cell (p:=⟨g,p*5+3,none⟩) hg).trans q3;replace q4:=(b5.cell (p:=⟨g,p*5+4,none⟩) hg).trans q4;clear a4 aZ ba a5 ad bY kE c3 bi b5 bb hg bZ;cases ok
    .have cZ:mo=none:=Option.isNone_iff_eq_none.1 I_;have HN:Hid (gf L ((A,B),lo,hi,t)=none):=h_ (by rw[hT,cv.out,cZ];rfl);go_wp2;refine Uh (v:=.tuple #[.slice none 0 0,false]) za rfl ?_;exact⟨_,by rw[HN.out];rfl,(λM h=>by rw[HN.out] at h;cases h),HS.out▸F⟩
    .obtain⟨m',cB⟩:∃m',mo=some m':=VV.1 cT.out;have cX:=co.out m' cB;have HM:Hid (fD L ((A,B),lo,hi,t)=some (L.set p ((a3,b3),lo3,hi3,t3))):=h_ (by rw[cv.out,cB,<-cX];rfl);have V:=a9.store G ((a3,b3),lo3,hi3,t3);simp only at V;have f0:=H (p*5);have f1:=H (p*5+1);have f2:=H (p*5+2);have f3:=H (p*5+3);have f4:=H (p*5+4);have ax:Below S w _:=(((((F.setCell (p:=⟨g,p*5,none⟩) b9 a3).setCell (p:=⟨g,p*5+1,none⟩) b9 b3).setCell (p:=⟨g,p*5+2,none⟩) b9 lo3).setCell (p:=⟨g,p*5+3,none⟩) b9 hi3).setCell (p:=⟨g,p*5+4,none⟩) b9 t3)
     obtain⟨a8,bx,cu,cF,cQ⟩:=kM.q5;have bX:=kM.lt;clear cB cX cv co cT H a9;go_upto_region 12 with fail
     clear q0 q1 q2 q3 q4 f0 f1 f2 f3 f4 a8 bx cu cF cQ bX;generalize World.setCell _ _ _=W4 at *;go_wp2;go_roundw
     case rel=>exact .inr ⟨rfl,_,HM,V,by simp;omega,ax⟩
     case measure=>simp [intOf]
  .rename World=>wr
   obtain⟨aM,cM,rfl,_,_⟩:=da.form;have cm:(M.length:Int)<=12\/(12:Int)<(M.length:Int):=o_;rcases cm with cm|aG
   .have cz:¬(12:Int)<(M.length:Int):=o_;have aF:Hid (gf L ((A,B),lo,hi,t)=some M):=h_ (by rw[hT,HM.out];simp only[Xu];rw[Um o_]);go_wp2;refine Uh (v:=.tuple #[.slice aM M.length cM,true]) za rfl ?_;exact⟨_,by rw[aF.out];rfl,(λM' h=>by rw[aF.out] at h;injection h with h;subst h;exact HS.out▸da),HS.out▸c5⟩
   .have aF:Hid (gf L ((A,B),lo,hi,t)=none):=h_ (by rw[hT,HM.out];simp only[Xu];rw[Uj o_]);go_wp2;refine Uh (v:=.tuple #[.slice none 0 0,false]) za rfl ?_;exact⟨_,by rw[aF.out];rfl,(λM h=>by rw[aF.out] at h;cases h),HS.out▸c5⟩
def uZ(h:P:=by unfold js;rw[aa];rfl):=h
def vk(h:P:=by unfold iH;rw[hh];rfl):=h
def Gr(h:P:=by simp [results,Tryz.results163,go_sem]):=h
def IK(h:P:=by simp [results,Tryz.results143,go_sem]):=h
def js(L:aK)(e:E5):Option (aK):=if fW e=true then gf L e else none
def eQ(o:Option (aK))(w:World)(r:Ending)(w':World):Prop:=∃v,r=.returned (.tuple #[v,o.isSome])/\(∀M,o=some M->am w' w v M)/\Below w w w'
def eQ.some{M}{w w':World}{v}(h:am w' w v M)(hb:Below w w w'):eQ (some M) w (.returned (.tuple #[v,true])) w':=
 ⟨v,rfl,λM' J=>by injection J with J;subst J;exact h,hb⟩
def eQ.none{w w':World}{v}(hb:Below w w w'):eQ none w (.returned (.tuple #[v,false])) w':=
 ⟨v,rfl,(λM' J=>by cases J),hb⟩
def Og(b0)(v)(L)(e:E5)(hL:eA L)(w)(Z:am w b0 v L):
 Kp 163 #[v,cq e] w (eQ (js L e) w):=by
 have HG:=h_ (λW (hb:Below w w W)=>AZ b0 v L hL W (Z.below hb));have HE:=h_ (xq e);have HM:=h_ (λW vb h1 (hb:Below w w W) h2=>N_ b0 v L e vb hL W h1 (Z.below hb) h2);obtain⟨a,F,rfl,_,_⟩:=Z.form;cases aa:fW e
 .have HV:Hid (js L e=none):=h_ uZ;rw[HV.out];rw[aa] at HE;obtain⟨⟨A,B⟩,lo,hi,t⟩:=e;simp only[cq] at HE ⊢;have⟨kE,J⟩:=aw w #[A,B,lo,hi,t] 70;go_enter Tryz.func163,Tryz.ntmps163;go_upto_region 1 with fail
  generalize w.alloc _=W at *;go_wp2_with fail
  refine (HG.out W J).mono ?_;rintro r w1 ⟨rfl,I⟩;have H:=af I J.size J;replace kE:=kE.next I
  have⟨a4,aZ,ba,a5,ad⟩:=kE.q5;go_wp2_with fail
  refine (HE.out w1).mono ?_;rintro r w2 ⟨rfl,U⟩;have az:=af U H.size H;go_wp2;exact Uh (v:=.tuple #[.slice none 0 0,false]) Gr rfl (eQ.none az)
 .have HV:Hid (js L e=gf L e):=h_ uZ;rw[HV.out];rw[aa] at HE;have HP:Hid (∀W r w',wb L e W r w'->w.heap.size<=W.heap.size->Below w w W->eQ (gf L e) w r w'):=h_ (λW r w' ⟨v,h1,h2,h3⟩ hs hb=>⟨v,h1,λM hM=>(h2 M hM).le hs,af h3 hs hb⟩);have bZ:=h_ (λW vb h1 hb h2=>HM.out W vb h1 hb h2);have g:Hid (∀W r w',wb L e W r w'->∃v,r=.returned (.tuple #[v,.bool (gf L e).isSome])):=h_ (λW r w' ⟨v,h1,_,_⟩=>⟨v,h1⟩);obtain⟨te,V⟩:∃te,(gf L e).isSome=te:=⟨_,rfl⟩
  have ax:=h_ V;obtain⟨P,hP⟩:∃P,wb L e=P:=⟨_,rfl⟩
  obtain⟨R,hR⟩:∃R,gf L e=R:=⟨_,rfl⟩
  rw[hR] at HP g V ⊢;rw[hP] at bZ HP g;rw[V] at g;obtain⟨⟨A,B⟩,lo,hi,t⟩:=e;simp only[cq] at HE bZ ⊢;have⟨kE,J⟩:=aw w #[A,B,lo,hi,t] 70;go_enter Tryz.func163,Tryz.ntmps163;go_upto_region 1 with fail
  generalize w.alloc _=W at *;go_wp2_with fail
  refine (HG.out W J).mono ?_;rintro r w1 ⟨rfl,I⟩;have H:=af I J.size J;replace kE:=kE.next I
  have⟨a4,aZ,ba,a5,ad⟩:=kE.q5;have bY:=kE.lt;go_wp2_with fail
  refine (HE.out w1).mono ?_;rintro r w2 ⟨rfl,U⟩;have az:=af U H.size H;replace kE:=kE.next U
  have⟨a4,aZ,ba,a5,ad⟩:=kE.q5;have⟨kB,ab⟩:=aw w2 #[A,B,lo,hi,t] 70;have aG:=af ab az.size az;have H2:=h_ (bZ.out _ w2 s_ aG kB);go_wp2_with fail
  refine H2.out.mono ?_;intro r w4 G;have bs:=HP.out _ r w4 G aG.size aG;obtain⟨v4,rfl⟩:=g.out _ r w4 G;have HF:=h_ bs;go_wp2;exact Uh (v:=.tuple #[v4,te]) Gr rfl HF.out
def RM(b0)(v)(L)(A B:Int)(hL:eA L)(w)(Z:am w b0 v L):
 Kp 143 #[v,.agg #[A,B]] w (eQ (iH L (A,B)) w):=by
 have HI:=h_ (λW (hb:Below w w W)=>B3 b0 v L A B hL W (Z.below hb));have HC:=h_ (λW (hb:Below w w W)=>Dt b0 v L (Ui hL.2.2 o_) W (Z.below hb));have HD:=h_ (λb0 v i k h1 h2 W h3=>PC b0 v L i k h1 h2 (Ui hL.2.2 o_) W h3);obtain⟨a,F,rfl,_,_⟩:=Z.form;have b7:=hL.2.2;have⟨kC,J⟩:=aw w #[A,B] 42;cases hh:cO (A,B) L
 .rw[hh] at HI;have HV:Hid (iH L (A,B)=none):=h_ vk;rw[HV.out];generalize kJ (A,B) L=ix at *;go_enter Tryz.func143,Tryz.ntmps143;go_upto_region 1 with fail
  generalize w.alloc _=W at *;have⟨a4,a3⟩:=kC.q2;go_wp2_with fail
  refine (HI.out W J).mono ?_;rintro r w1 ⟨rfl,I⟩;go_wp2;exact Uh (v:=.tuple #[.slice none 0 0,false]) IK rfl (eQ.none (af I J.size J))
 .rw[hh] at HI;have⟨G,_⟩:=lh.1 hh;have ac:kJ (A,B) L=(plc (A,B) L:Int):=by unfold kJ;rw[hh];rfl
  rw[ac] at HI;have HV:Hid (iH L (A,B)=some (L.eraseIdx (plc (A,B) L))):=h_ vk;rw[HV.out];generalize plc (A,B) L=p at *;obtain⟨k,hk⟩:∃k:Nat,p+1=k:=⟨_,rfl⟩
  have cy:(p:Int)+1=(k:Int):=o_;have HK:=h_ hk;go_enter Tryz.func143,Tryz.ntmps143;go_upto_region 1 with fail
  generalize w.alloc _=W at *;have⟨a4,a3⟩:=kC.q2;have a5:=kC.lt;go_wp2_with fail
  refine (HI.out W J).mono ?_;rintro r w1 ⟨rfl,I⟩;have H:=af I J.size J;go_wp2_with fail
  refine (HC.out w1 H).mono ?_;rintro r w2 ⟨v2,rfl,bb,U⟩;have az:=af U H.size H;obtain⟨a2,c2,rfl,_,_⟩:=bb.form;have H2:=h_ (HD.out w1 _ p k HK.out.symm G w2 bb);have K:=bb.lt;go_wp2_with fail
  refine H2.out.mono ?_;rintro r w3 ⟨v3,rfl,a9,ab⟩;have aG:=ab.belowGe az az.size (λg hg=>by
   have h9:=by simpa using hg
   have:=(K g h9).1;have:=H.size;omega)
  have HO:=h_ (a9.le H.size);go_wp2;exact Uh (v:=.tuple #[v3,true]) IK rfl (eQ.some HO.out aG)
def dT(h:P:=by first|(simp only[UE,Uw,Vc];done)|(simp only[UE,Uw,Vc];omega)):=h
def vf(h:P:=by simp [results,Tryz.results80,go_sem]):=h
def rl(h:P:=by have:=HN.out;omega):=h
def Jp(h:P:=by rw[U5] at aX;exact aX.le cb):=h
def vo(h:P:=by rw[HN.out];exact aL):=h
def vK(h:P:=by rw[HN.out];exact hm):=h
def E7(h:P:=by simp [results,Tryz.results119,go_sem]):=h
def Ge(h:P:=by simp [results,Tryz.results81,go_sem]):=h
def vE(h:P:=by rw[<-h];simp):=h
def Ha(h:P:=by
 clear hne a7 aX;go_wp2;refine Uh (v:=.tuple #[v9,true]) E7 rfl ?_;exact bs):=h
def IX(h:P:=by
 refine ao ?_;refine aB 7 ?_;refine bI (some 45) (λv7=>λw'=>am w' w2.heap.size v7 (([]:aK)++[((A,B),lo,hi,t)])) r_ r_ r_ (λv7=>V v7 _) (λw' hO h=>dJ r_ r_ r_ hO h.1 h.2.1.rd dT (λ_ _ h _ _=>h)) (λv7 hne=>?_);refine ao ?_;refine aB 9 ?_;refine bI (some 47) (λv9=>λw'=>am w' w2.heap.size v9 (([]:aK)++[((A,B),lo,hi,t)]++([]:aK))) r_ r_ r_ (λv9=>V v9 _) (λw' hO h=>dJ r_ r_ r_ hO h (aa.out w' hO.below) dT (λ_ _ h _ _=>h)) (λv9 hne=>?_);refine ao ?_;refine aD hne [ac,ac,ac,ac,ac,ac,ac,ac,ac,ac,ae,ae] 0 (V v9 _) aA ?_;refine cV λWz a7 aX=>?_
 try dsimp only
 have bs:j_ (([]:aK)) ((A,B),lo,hi,t) w (.returned (.tuple #[v9,true])) Wz:=j_.some HT.out Jp (af a7.below cb bb.out);exact Ha):=h
def rh(h:P:=by
 refine ao ?_;refine aD hne [ac,ac,ac,ac,ac,ac,ac,ac,ac,ac,ae,ae] 0 (V v9 _) aA ?_;refine cV λWz a7 aX=>?_
 try dsimp only
 have bs:j_ L ((A,B),lo,hi,t) w (.returned (.tuple #[v9,true])) Wz:=j_.some HT.out Jp (af a7.below cb bb.out);exact Ha):=h
def Jd(h:P:=by
 refine jc k_ (λWz a7 aX=>?_) _;exact bp r8 Wz ⟨a7,aX.1,o_,aX.2.head⟩):=h
def Ka(h:P:=by
 refine ao ?_;refine aB 4 ?_;refine bI (some 42) (λv4=>bC w2.heap.size v4 (([]:aK)) K [((A,B),lo,hi,t)]) r_ r_ r_ (λv4=>bC.closed _ _ _ _ _) (λw' hO h=>dJ r_ r_ r_ hO h.1 (ab.out w' hO.below) dT (λv' u h1 h2 h3=>h.app h1 h2 h3)) (λv4 hne=>?_);exact IX):=h
def Kr(h:P:=by
 refine ao ?_;refine aB 4 ?_;refine bI (some 42) (λv4=>bC W4.heap.size v4 (L.take p) K [((a3,b3),lo3,hi3,t3)]) r_ r_ r_ (λv4=>bC.closed _ _ _ _ _) (λw' hO h=>dJ r_ r_ r_ hO h.1 (ab.out w' hO.below) dT (λv' u h1 h2 h3=>h.app h1 h2 h3)) (λv4 hne=>?_);refine ao ?_;refine aB 7 ?_;refine bI (some 45) (λv7=>λw'=>am w' W4.heap.size v7 (L.take p++[((a3,b3),lo3,hi3,t3)])) r_ r_ r_ (λv7=>V v7 _) (λw' hO h=>dJ r_ r_ r_ hO h.1 h.2.1.rd dT (λ_ _ h _ _=>h)) (λv7 hne=>?_);refine ao ?_;refine aB 9 ?_;refine bI (some 47) (λv9=>λw'=>am w' W4.heap.size v9 (L.take p++[((a3,b3),lo3,hi3,t3)]++L.drop F)) r_ r_ r_ (λv9=>V v9 _) (λw' hO h=>dJ r_ r_ r_ hO h (aa.out _ _ w' hO.below o_) dT (λ_ _ h _ _=>h)) (λv9 hne=>?_);exact rh):=h
def KM(h:P:=by
 refine ao ?_;refine aB 4 ?_;refine bI (some 42) (λv4=>bC W4.heap.size v4 (L.take p) K [((a3,b3),lo3,hi3,t3)]) r_ r_ r_ (λv4=>bC.closed _ _ _ _ _) (λw' hO h=>dJ r_ r_ r_ hO h.1 (ab.out w' hO.below) dT (λv' u h1 h2 h3=>h.app h1 h2 h3)) (λv4 hne=>?_);refine ao ?_;refine aB 7 ?_;refine bI (some 45) (λv7=>λw'=>am w' W4.heap.size v7 (L.take p++[((a3,b3),lo3,hi3,t3)])) r_ r_ r_ (λv7=>V v7 _) (λw' hO h=>dJ r_ r_ r_ hO h.1 h.2.1.rd dT (λ_ _ h _ _=>h)) (λv7 hne=>?_);refine ao ?_;refine aB 9 ?_;refine bI (some 47) (λv9=>λw'=>am w' W4.heap.size v9 (L.take p++[((a3,b3),lo3,hi3,t3)]++L.drop k)) r_ r_ r_ (λv9=>V v9 _) (λw' hO h=>dJ r_ r_ r_ hO h (aa.out _ _ w' hO.below o_) dT (λ_ _ h _ _=>h)) (λv9 hne=>?_);exact rh):=h
def JP(h:P:=by
 refine ao ?_;refine aB 4 ?_;refine bI (some 42) (λv4=>bC w2.heap.size v4 (L.take F) K [((A,B),lo,hi,t)]) r_ r_ r_ (λv4=>bC.closed _ _ _ _ _) (λw' hO h=>dJ r_ r_ r_ hO h.1 (ab.out w' hO.below) dT (λv' u h1 h2 h3=>h.app h1 h2 h3)) (λv4 hne=>?_);refine ao ?_;refine aB 7 ?_;refine bI (some 45) (λv7=>λw'=>am w' w2.heap.size v7 (L.take F++[((A,B),lo,hi,t)])) r_ r_ r_ (λv7=>V v7 _) (λw' hO h=>dJ r_ r_ r_ hO h.1 h.2.1.rd dT (λ_ _ h _ _=>h)) (λv7 hne=>?_);refine ao ?_;refine aB 9 ?_;refine bI (some 47) (λv9=>λw'=>am w' w2.heap.size v9 (L.take F++[((A,B),lo,hi,t)]++L.drop F)) r_ r_ r_ (λv9=>V v9 _) (λw' hO h=>dJ r_ r_ r_ hO h (aa.out _ _ w' hO.below o_) dT (λ_ _ h _ _=>h)) (λv9 hne=>?_);exact rh):=h
def J8(h:P:=by
 refine ao ?_;refine aB 4 ?_;refine bI (some 42) (λv4=>bC w2.heap.size v4 (L.take p) K [((A,B),lo,hi,t)]) r_ r_ r_ (λv4=>bC.closed _ _ _ _ _) (λw' hO h=>dJ r_ r_ r_ hO h.1 (ab.out w' hO.below) dT (λv' u h1 h2 h3=>h.app h1 h2 h3)) (λv4 hne=>?_);refine ao ?_;refine aB 7 ?_;refine bI (some 45) (λv7=>λw'=>am w' w2.heap.size v7 (L.take p++[((A,B),lo,hi,t)])) r_ r_ r_ (λv7=>V v7 _) (λw' hO h=>dJ r_ r_ r_ hO h.1 h.2.1.rd dT (λ_ _ h _ _=>h)) (λv7 hne=>?_);refine ao ?_;refine aB 9 ?_;refine bI (some 47) (λv9=>λw'=>am w' w2.heap.size v9 (L.take p++[((A,B),lo,hi,t)]++L.drop p)) r_ r_ r_ (λv9=>V v9 _) (λw' hO h=>dJ r_ r_ r_ hO h (aa.out _ _ w' hO.below o_) dT (λ_ _ h _ _=>h)) (λv9 hne=>?_);exact rh):=h
def we(h:P:=by
 exact rh):=h
def KS(h:P:=by
 refine aR [10] ?_;refine ak.cons ?_ ?_
 .refine fk (v:=.agg #[a3,b3,lo3,hi3,t3]) [] [] (.inl cc) an (λ_ _ h _=>h) s_ (λhne=>?_)
  try simp only[Value.cells]
  refine aD hne [ac,ac,ac,ac,ac,ac,ac,ac,ac,ac,ac,ae] 0 (KD.closed an _) aA ?_;exact Jd
 exact ak.nil):=h
def Fx(h:P:=by
 unfold execOp;simp only[K,resolve,invoke,builtin,X3,X4,Xj,Xt,VF,WW,hs,hx,h1]):=h
section
variable {P:Program}{ops:Array Oper}{Q:Exit->Act->au}{ex:List Nat}{W:World}{D:au}
def bI{a:Act}{listed:Array Bool}{f i:Nat}{o:Oper}(dd:Option Tmp)(F:Value->au)(Z:ops[i]?=some o)(G:Region.wanted o (yielded ops a.tmps)=true)
 (bi:o.dst=dd)(U:∀v,aQ (F v))
 (H:∀w,ah ex W w->D w->∃v w',(execOp a.eval o).run P w=.ok (.value v) w'/\ah ex W w'/\F v w')
 (h:∀v,(∃w,ah ex W w/\F v w)->cd P ops Q ex W (λ_=>false) f (listed.setIfInBounds i true) (a.put dd v) (λ_=>True) (F v)):
 eM P ops Q ex W (λ_=>false) f listed a (λ_=>True) D i:=λw hO hd=>by
 unfold wpOp;simp only[Z,G,Vo];refine .inl ?_;obtain⟨v,w',h1,h2,h3⟩:=H w hO hd;unfold Oper.wp;rw[h1];simp only[Oper.upon];rw[bi];exact⟨λ_=>True,F v,U v,λ_ _=>trivial,λ_=>rfl,h2,h3,h v ⟨w',h2,h3⟩⟩
end
def am.closed(b:Nat)(v:Value)(L:aK):aQ (λw=>am w b v L):=λ_ _ h hb=>h.below hb
def kh{a:Act}{o:Oper}{W w:World}{F:Value->au}(H:∀w,(execOp a.eval o).run Tryz.prog w=.ok (.value (.slice (some ⟨w.heap.size,0,none⟩) 0 0)) (w.alloc (.cells #[] 70)))(hO:ah [] W w)
 (hk:∀v w',am w' W.heap.size v []->Below w.heap.size w w'->v.ownBlock=some w.heap.size->F v w'):∃v w',(execOp a.eval o).run Tryz.prog w=.ok (.value v) w'/\ah [] W w'/\F v w':=
 ⟨_,_,H w,hO.alloc _,hk _ _ ((am.empty w).le hO.size) ((Uk _ _).alloc (Ug _) _) rfl⟩
def gW{a:Act}{o:Oper}{W w:World}{F:Value->au}(e:E5)(H:∀w,(execOp a.eval o).run Tryz.prog w=.ok (.value (.slice (some ⟨w.heap.size,0,none⟩) 1 1)) (w.alloc (.cells #[e.1.1,e.1.2,e.2.1,e.2.2.1,e.2.2.2] 70)))(hO:ah [] W w)
 (hk:∀v w',am w' W.heap.size v [e]->Below w.heap.size w w'->v.ownBlock=some w.heap.size->F v w'):∃v w',(execOp a.eval o).run Tryz.prog w=.ok (.value v) w'/\ah [] W w'/\F v w':=
 ⟨_,_,H w,hO.alloc _,hk _ _ ((am.built w e).le hO.size) ((Uk _ _).alloc (Ug _) _) rfl⟩
def dJ{a:Act}{o:Oper}{s x:Operand}{v y:Value}{W w:World}{F:Value->au}{L M:aK}(K:o.op=.call {callee:=.builtin .append,args:=#[s,x],argTypes:=#[28,28]})(hs:a.eval s=v)(hx:a.eval x=y)(hO:ah [] W w)(hv:am w W.heap.size v L)(hy:df w y M)(hl:L.length+M.length<=1000)
 (hk:∀v' w',am w' W.heap.size v' (L++M)->ah v.ownBlock.toList w w'->(v'.ownBlock=v.ownBlock\/v'.ownBlock=some w.heap.size)->F v' w'):∃v' w',(execOp a.eval o).run Tryz.prog w=.ok (.value v') w'/\ah [] W w'/\F v' w':=by
 obtain⟨v',w',h1,h2,h3,h4⟩:=tJ w W.heap.size o.type v y L M hv hy hl hO.size;have a1:ah v.ownBlock.toList w w':=⟨h3.os,h3.tape,h3.output,h3.size,λk hk hn=>h3.block k hk (λh=>hn vE)⟩
 refine⟨v',w',?_,?_,hk v' w' h2 a1 h4⟩
 .exact Fx
 .refine⟨h3.os.trans hO.os,h3.tape.trans hO.tape,h3.output.trans hO.output,Ui hO.size h3.size,λk hk hn=>?_⟩;refine (h3.block k (Un hk hO.size) ?_).trans (hO.block k hk hn);intro h;have:=(hv.lt k h.symm).1;omega
def df.pre{w:World}{b g n F:Nat}{L:aK}(h:am w b (.slice (some ⟨g,0,none⟩) n F) L){k c:Nat}(hk:k<=L.length):df w (.slice (some ⟨g,0,none⟩) k c) (L.take k):=by
 rcases h.rd with ⟨_,h0⟩|⟨g',off,c',h1,h2,h3⟩
 .cases h0
 .injection h1 with e1 e2 e3;injection e1 with e1;injection e1 with e1 e4;subst e1 e4;refine .inr ⟨g,0,c,by rw[UH,WP hk],λhm=>h2 (λh=>hm (by rw[h];simp)),λj u hu=>h3 j u ?_⟩;rw[wC] at hu;rw[WX] at hu;split at hu
  .exact hu
  .cases hu
def df.post{w:World}{b g n F:Nat}{L:aK}(h:am w b (.slice (some ⟨g,0,none⟩) n F) L){k o c m:Nat}(hm:m=L.length - k)(Z:m≠0->o=k*5):df w (.slice (some ⟨g,o,none⟩) m c) (L.drop k):=by
 rcases h.rd with ⟨_,h0⟩|⟨g',off,c',h1,h2,h3⟩
 .cases h0
 .injection h1 with e1 e2 e3;injection e1 with e1;injection e1 with e1 e4;subst e1 e4;refine .inr ⟨g,o,c,by rw[Vs,hm],λhm=>h2 (λh=>hm (by rw[h];simp)),λj u hu=>?_⟩;rw[wN,VR] at hu;have hj:k*5+j<L.length*5:=by rw[<-kc];exact (U2.1 hu).1
  rw[Z o_];have:=h3 (k*5+j) u hu;rwa [U7] at this
def df.postIf{w:World}{b g n F:Nat}{L:aK}(h:am w b (.slice (some ⟨g,0,none⟩) n F) L){k c m:Nat}(hm:m=L.length - k)(hc:L.length<=F):df w (.slice (if F=k then some ⟨g,0,none⟩ else some ⟨g,k*5,none⟩) m c) (L.drop k):=by
 split
 .exact df.post h hm (λh=>by omega)
 .exact df.post h hm (λ_=>rfl)
def SE(b0:Nat)(v:Value)(L:aK)(A B:Int)(hC:be A B=true)(hL:eA L)(w:World)(Z:am w b0 v L):
 Kp 81 #[v,.agg #[A,B]] w (eQ (iH L (A,B)) w):=by
 obtain⟨kC,J⟩:=aw w #[A,B] 42;have HG:=h_ (λW (hb:Below w.heap.size w W)=>tv b0 v L hL W (Z.below hb));have K:=λW=>fP A B W;rw[hC] at K;have HE:=h_ K;have HP:=h_ (λW (hb:Below w.heap.size w W)=>xn b0 v L A B hC hL W (Z.below hb));have HA:=h_ (λW (hb:Below w.heap.size w W)=>yJ b0 v L A B (Ui hL.2.2 o_) W (Z.below hb));have HO:=h_ Z;obtain⟨a,F,rfl,bo,hf⟩:=Z.form;have b7:=hL.2.2;clear K Z;cases hh:cO (A,B) L
 .rw[hh] at HA;have HV:Hid (iH L (A,B)=none):=h_ vk;rw[HV.out];clear HV hh hf HO;generalize plc (A,B) L=p at *;go_enter Tryz.func81,Tryz.ntmps81;go_upto_region 1 with fail
  generalize w.alloc _=W at *;obtain⟨a4,a3⟩:=kC.q2;have a5:=kC.lt
  (refine bP k_ k_ ?_;(repeat (go_big_quiet_step ((first|(go_at_call 117;with_reducible exact Calls.quiet_cls an _ (HG.out _ (af (aU.over _).below J.size J)))|(go_at_call 71;with_reducible exact Calls.quiet_cls an _ (HE.out _))|(go_at_call 121;with_reducible exact Calls.quiet_cls an _ (HP.out _ (af (aU.over _).below J.size J)))|(go_at_call 120;with_reducible exact Calls.quiet_cls an _ (HA.out _ (af (aU.over _).below J.size J)))))));refine wpQuiet_nil ?_;intro w1 I;obtain⟨aZ,a6⟩:=bf I;have ax:=I.size;(try simp only[Uq] at ax))
  have aL:=af I J.size J;clear a4 a3 a5 I J;go_wp2;refine Uh (v:=.tuple #[.slice none 0 0,false]) Ge rfl ?_;exact eQ.none aL
 .rw[hh] at HA;obtain⟨G,_⟩:=lh.1 hh;obtain⟨g,rfl,hg,_⟩:=hf _ G;have HV:Hid (iH L (A,B)=some (L.eraseIdx (plc (A,B) L))):=h_ vk;rw[HV.out];clear HV hh hf;generalize plc (A,B) L=p at *;obtain⟨k,hk⟩:∃k:Nat,p+1=k:=⟨_,rfl⟩
  have cy:(p:Int)+1=(k:Int):=o_;obtain⟨n,hn⟩:∃n,L.length=n:=⟨_,rfl⟩
  have HK:=h_ hk;have HN:=h_ hn;rw[hn] at G bo b7 HG HP HA HO ⊢;have c8:p<=F:=o_;have cM:k<=n:=o_;clear hk hn;go_enter Tryz.func81,Tryz.ntmps81;go_upto_region 1 with fail
  generalize w.alloc _=W at *;obtain⟨a4,a3⟩:=kC.q2;have a5:=kC.lt
  (refine bP k_ k_ ?_;(repeat (go_big_quiet_step ((first|(go_at_call 117;with_reducible exact Calls.quiet_cls an _ (HG.out _ (af (aU.over _).below J.size J)))|(go_at_call 71;with_reducible exact Calls.quiet_cls an _ (HE.out _))|(go_at_call 121;with_reducible exact Calls.quiet_cls an _ (HP.out _ (af (aU.over _).below J.size J)))|(go_at_call 120;with_reducible exact Calls.quiet_cls an _ (HA.out _ (af (aU.over _).below J.size J)))))));refine wpQuiet_nil ?_;intro w1 I;obtain⟨aZ,a6⟩:=bf I;have ax:=I.size;(try simp only[Uq] at ax))
  have aL:=af I J.size J;replace kC:=kC.next I
  clear a4 a3 a5 I J;obtain⟨a4,a3⟩:=kC.q2;have a5:=kC.lt;have az:=h_ (HP.out w1 aL);go_upto_region 3 with fail
  go_wp2_with fail
  refine az.out.mono ?_;rintro r w2 ⟨rfl,U⟩;replace aL:=af U aL.size aL;clear a4 a3 a5 kC az U HP HA HG HE;have bv:=HO.out.below aL;have V:=am.closed w2.heap.size;have a8:w.heap.size<=w2.heap.size:=aL.size;have bb:=h_ aL;clear HO aL;go_upto_region 4 with fail
  refine br [] (λ_=>false) (λ_=>True) (λ_=>True) k_ (trivial) ?_;refine aD ⟨w2,ah.refl _ _,trivial⟩ [ac,ae,ae,ae,ac,ae,ae,ae,ae] 5 an aA ?_;refine aB 0 ?_;refine bI (some 27) (λv0=>λw'=>am w' w2.heap.size v0 []) r_ r_ r_ (λv0=>V v0 []) (λw' hO _=>kh (λ_=>by go_simp) hO (λ_ _ h _ _=>h)) (λv0 hne=>?_);refine ao ?_;refine aB 4 ?_;refine bI (some 31) (λv4=>λw'=>am w' w2.heap.size v4 (L.take p)) r_ r_ r_ (λv4=>V v4 _) (λw' hO h=>dJ r_ r_ r_ hO h (df.pre (bv.below hO.below) rl) (by simp;have:=HN.out;omega) (λ_ _ h _ _=>h)) (λv4 hne=>?_);refine ao ?_;refine aB 9 ?_;refine bI (some 36) (λv9=>λw'=>am w' w2.heap.size v9 (L.take p++L.drop k)) r_ r_ r_ (λv9=>V v9 _) (λw' hO h=>dJ r_ r_ r_ hO h (df.postIf (bv.below hO.below) (by rw[HN.out]) (by rw[HN.out];exact bo)) (by simp;have:=HN.out;omega) (λ_ _ h _ _=>h)) (λv9 hne=>?_);refine ao ?_;refine aD hne [ac,ac,ac,ac,ac,ac,ac,ac,ac,ac,ae,ae] 0 (V v9 _) aA ?_;refine cV λWz a7 aX=>?_
  try dsimp only
  have bs:eQ (some (L.eraseIdx p)) w (.returned (.tuple #[v9,true])) Wz:=eQ.some (by rw[List.eraseIdx_eq_take_drop_succ,HK.out];exact aX.le a8) (af a7.below a8 bb.out);generalize (if F=k then (some ⟨g,0,none⟩:bT) else some ⟨g,k*5,none⟩)=ad;go_wp2;refine Uh (v:=.tuple #[v9,true]) Ge rfl ?_;exact bs
def bC(S:Nat)(v:Value)(L:aK)(u:Value)(M:aK)(w:World):Prop:=am w S v L/\am w S u M/\∀k,v.ownBlock=some k->u.ownBlock≠some k
def bC.closed(S:Nat)(v:Value)(L:aK)(u:Value)(M:aK):aQ (bC S v L u M):=λ_ _ h hb=>⟨h.1.below hb,h.2.1.below hb,h.2.2⟩
def j_(L:aK)(e:E5)(w:World)(r:Ending)(w':World):Prop:=∃v,r=.returned (.tuple #[v,.bool (fD L e).isSome])/\(∀M,fD L e=some M->am w' w.heap.size v M)/\Below w.heap.size w w'
def j_.some{L M:aK}{e:E5}{w w':World}{v:Value}(ht:fD L e=some M)(h:am w' w.heap.size v M)(hb:Below w.heap.size w w'):j_ L e w (.returned (.tuple #[v,true])) w':=
 ⟨v,by rw[ht];rfl,λM' J=>by rw[ht] at J;injection J with J;subst J;exact h,hb⟩
def j_.none{L:aK}{e:E5}{w w':World}{v:Value}(ht:fD L e=none)(hb:Below w.heap.size w w'):j_ L e w (.returned (.tuple #[v,false])) w':=
 ⟨v,by rw[ht];rfl,(λM' J=>by rw[ht] at J;cases J),hb⟩
def bC.mk1{S:Nat}{v u:Value}{L M:aK}{w w':World}(h:am w S v L)(h1:am w' S u M)(hb:Below w.heap.size w w')(hu:u.ownBlock=some w.heap.size):bC S v L u M w':=
 ⟨h.below hb,h1,λk hk aF=>by have:=(h.lt k hk).2;rw[hu] at aF;injection aF;omega⟩
def bC.mk2{S:Nat}{v u:Value}{L M:aK}{w w':World}(h:am w S u M)(h1:am w' S v L)(hb:Below w.heap.size w w')(hv:v.ownBlock=some w.heap.size):bC S v L u M w':=
 ⟨h1,h.below hb,λk hk aF=>by have:=(h.lt k aF).2;rw[hv] at hk;injection hk;omega⟩
def bC.app{S:Nat}{v v' u:Value}{L g M:aK}{w w':World}(h:bC S v L u M w)(h1:am w' S v' g)(Z:ah v.ownBlock.toList w w')(ha:v'.ownBlock=v.ownBlock\/v'.ownBlock=some w.heap.size):bC S v' g u M w':=by
 refine⟨h1,h.2.1.over Z (λk hk hm=>?_),λk hk aF=>?_⟩
 .have:v.ownBlock=some k:=by simpa using hm
  exact h.2.2 k this hk
 .rcases ha with ha|ha
  .exact h.2.2 k (ha▸hk) aF
  .rw[ha] at hk;injection hk with hk;have:=(h.2.1.lt k aF).2;omega
def NI(b0:Nat)(v:Value)(L:aK)(e:E5)(he:fW e=true)(hL:eA L)(w:World)(Z:am w b0 v L):
 Kp 119 #[v,cq e] w (j_ L e w):=by
 have bo:=tu.1 he;obtain⟨⟨A,B⟩,lo,hi,t⟩:=e;simp only at bo;have hC:=bo.1;have dx:=bo.2.2.2.1;clear bo;simp only[cq];obtain⟨kE,J⟩:=aw w #[A,B,lo,hi,t] 70;have HP:=h_ (λW (hb:Below w.heap.size w W)=>xn b0 v L A B hC hL W (Z.below hb));have HA:=h_ (λW (hb:Below w.heap.size w W)=>yJ b0 v L A B (Ui hL.2.2 o_) W (Z.below hb));have HO:=h_ Z;have ca:=mg (A,B) L;have b7:=hL.2.2;cases hh:cO (A,B) L
 .rw[hh] at HA;have HT:Hid (fD L ((A,B),lo,hi,t)=some (L.take (plc (A,B) L)++([((A,B),lo,hi,t)]++L.drop (plc (A,B) L)))):=h_ H_;have c5:(L.take (plc (A,B) L)).length<=12:=by rw[UH];omega
  have c4:(L.drop (plc (A,B) L)).length<=12:=by rw[Vs];omega
  clear hh;rcases Z.2 with ⟨rfl,hn⟩|⟨g,F,aM,rfl,hg,_,aL,_⟩
  .have dq:L=[]:=UX.1 hn;subst dq;have cG:plc (A,B) []=0:=rfl;rw[cG] at HP HA HT c5 c4;clear Z hn ca b7 cG;go_enter Tryz.func119,Tryz.ntmps119;go_upto_region 1 with fail
   generalize w.alloc _=W at *;obtain⟨a4,aZ,ba,a5,ad⟩:=kE.q5;have bY:=kE.lt;go_wp2_with fail
   refine (HP.out W J).mono ?_;rintro r w1 ⟨rfl,I⟩;have H:=af I J.size J;replace kE:=kE.next I
   clear a4 aZ ba a5 ad bY I J;obtain⟨a4,aZ,ba,a5,ad⟩:=kE.q5;have bY:=kE.lt;have a6:=h_ (HA.out w1 H);go_upto_region 3 with fail
   go_wp2_with fail
   refine a6.out.mono ?_;rintro r w2 ⟨rfl,U⟩;have az:=af U H.size H;replace kE:=kE.next U
   clear a4 aZ ba a5 ad bY U H a6 HP HA;obtain⟨a4,aZ,ba,a5,ad⟩:=kE.q5;have bY:=kE.lt;have bb:=h_ az;have cb:w.heap.size<=w2.heap.size:=az.size;have ab:Hid (∀w',Below w2.heap.size w2 w'->df w' (.slice none 0 0) ([]:aK)):=h_ (λ_ _=>.inl ⟨rfl,rfl⟩);have aa:Hid (∀w',Below w2.heap.size w2 w'->df w' (.slice none 0 0) ([]:aK)):=h_ (λ_ _=>.inl ⟨rfl,rfl⟩);clear az;go_upto_region 9 with fail
   clear c5 c4;have V:=am.closed w2.heap.size;refine br [] (λ_=>false) (λ_=>True) (λ_=>True) k_ (trivial) ?_;refine aD ⟨w2,ah.refl _ _,trivial⟩ [ac,ae,ae,ae,ac,ae,ac,ac,ae] 7 an aA ?_;refine aR [0,6] (ak.cons ?_ (ak.cons ?_ ak.nil))
   .refine bI (some 38) (λv0=>λw'=>am w' w2.heap.size v0 []) r_ r_ r_ (λv0=>V v0 []) (λw' hO _=>kh (λ_=>by go_simp) hO (λ_ _ h _ _=>h)) (λv0 hne=>?_);refine ao ?_;refine aR [4,6] (ak.cons ?_ (ak.cons ?_ ak.nil))
    .refine bI (some 42) (λv4=>λw'=>am w' w2.heap.size v4 (([]:aK))) r_ r_ r_ (λv4=>V v4 _) (λw' hO h=>dJ r_ r_ r_ hO h (ab.out w' hO.below) dT (λ_ _ h _ _=>h)) (λv4 hne=>?_);refine ao ?_;refine aB 6 ?_;refine bI (some 44) (λK=>bC w2.heap.size v4 (([]:aK)) K [((A,B),lo,hi,t)]) r_ r_ r_ (λK=>bC.closed _ _ _ _ _) (λw' hO h=>gW (((A,B),lo,hi,t)) (λ_=>by go_simp) hO (λv u h1 h2 h3=>bC.mk1 h h1 h2 h3)) (λK hne=>?_);exact IX
    .refine bI (some 44) (λK=>bC w2.heap.size v0 [] K [((A,B),lo,hi,t)]) r_ r_ r_ (λK=>bC.closed _ _ _ _ _) (λw' hO h=>gW (((A,B),lo,hi,t)) (λ_=>by go_simp) hO (λv u h1 h2 h3=>bC.mk1 h h1 h2 h3)) (λK hne=>?_);exact Ka
   .refine bI (some 44) (λK=>λw'=>am w' w2.heap.size K [((A,B),lo,hi,t)]) r_ r_ r_ (λK=>V K _) (λw' hO _=>gW (((A,B),lo,hi,t)) (λ_=>by go_simp) hO (λ_ _ h _ _=>h)) (λK hne=>?_);refine ao ?_;refine aB 0 ?_;refine bI (some 38) (λv0=>bC w2.heap.size v0 [] K [((A,B),lo,hi,t)]) r_ r_ r_ (λv0=>bC.closed _ _ _ _ _) (λw' hO h=>kh (λ_=>by go_simp) hO (λv u h1 h2 h3=>bC.mk2 h h1 h2 h3)) (λv0 hne=>?_);exact Ka
  .have a9:=h_ (λW (hb:Below w.heap.size w W)=>Z.below hb);have cz:∀q,(q:Int)=q:=λ_=>rfl;clear Z cz;obtain⟨n,hn⟩:∃n,L.length=n:=⟨_,rfl⟩
   have HN:=h_ hn;rw[hn] at aL b7 HP HA a9 ca ⊢;clear hn;generalize plc (A,B) L=p at *;have c8:p<=F:=o_;by_cases bz:F=p
   .subst bz;go_enter Tryz.func119,Tryz.ntmps119;go_upto_region 1 with fail
    generalize w.alloc _=W at *;obtain⟨a4,aZ,ba,a5,ad⟩:=kE.q5;have bY:=kE.lt;go_wp2_with fail
    refine (HP.out W J).mono ?_;rintro r w1 ⟨rfl,I⟩;have H:=af I J.size J;replace kE:=kE.next I
    clear a4 aZ ba a5 ad bY I J;obtain⟨a4,aZ,ba,a5,ad⟩:=kE.q5;have bY:=kE.lt;have a6:=h_ (HA.out w1 H);go_upto_region 3 with fail
    go_wp2_with fail
    refine a6.out.mono ?_;rintro r w2 ⟨rfl,U⟩;have az:=af U H.size H;replace kE:=kE.next U
    clear a4 aZ ba a5 ad bY U H a6 HP HA;obtain⟨a4,aZ,ba,a5,ad⟩:=kE.q5;have bY:=kE.lt;have bb:=h_ az;have cb:w.heap.size<=w2.heap.size:=az.size;have bv:=a9.out w2 az;have ab:Hid (∀w',Below w2.heap.size w2 w'->df w' (.slice (some ⟨g,0,none⟩) F F) (L.take F)):=h_ (λ_ hb=>df.pre (bv.below hb) rl);have aa:Hid (∀m c w',Below w2.heap.size w2 w'->m=n - F->df w' (.slice (if F=F then some ⟨g,0,none⟩ else some ⟨g,F*5,none⟩) m c) (L.drop F)):=h_ (λm _ _ hb hm=>df.postIf (bv.below hb) vK vo);clear az bv a9;go_upto_region 9 with fail
    skip
    have V:=am.closed w2.heap.size;refine br [] (λ_=>false) (λ_=>True) (λ_=>True) k_ (trivial) ?_;refine aD ⟨w2,ah.refl _ _,trivial⟩ [ac,ae,ae,ae,ac,ae,ac,ac,ae] 7 an aA ?_;refine aR [0,6] (ak.cons ?_ (ak.cons ?_ ak.nil))
    .refine bI (some 38) (λv0=>λw'=>am w' w2.heap.size v0 []) r_ r_ r_ (λv0=>V v0 []) (λw' hO _=>kh (λ_=>by go_simp) hO (λ_ _ h _ _=>h)) (λv0 hne=>?_);refine ao ?_;refine aR [4,6] (ak.cons ?_ (ak.cons ?_ ak.nil))
     .refine bI (some 42) (λv4=>λw'=>am w' w2.heap.size v4 (L.take F)) r_ r_ r_ (λv4=>V v4 _) (λw' hO h=>dJ r_ r_ r_ hO h (ab.out w' hO.below) dT (λ_ _ h _ _=>h)) (λv4 hne=>?_);refine ao ?_;refine aB 6 ?_;refine bI (some 44) (λK=>bC w2.heap.size v4 (L.take F) K [((A,B),lo,hi,t)]) r_ r_ r_ (λK=>bC.closed _ _ _ _ _) (λw' hO h=>gW (((A,B),lo,hi,t)) (λ_=>by go_simp) hO (λv u h1 h2 h3=>bC.mk1 h h1 h2 h3)) (λK hne=>?_);refine ao ?_;refine aB 7 ?_;refine bI (some 45) (λv7=>λw'=>am w' w2.heap.size v7 (L.take F++[((A,B),lo,hi,t)])) r_ r_ r_ (λv7=>V v7 _) (λw' hO h=>dJ r_ r_ r_ hO h.1 h.2.1.rd dT (λ_ _ h _ _=>h)) (λv7 hne=>?_);refine ao ?_;refine aB 9 ?_;refine bI (some 47) (λv9=>λw'=>am w' w2.heap.size v9 (L.take F++[((A,B),lo,hi,t)]++L.drop F)) r_ r_ r_ (λv9=>V v9 _) (λw' hO h=>dJ r_ r_ r_ hO h (aa.out _ _ w' hO.below o_) dT (λ_ _ h _ _=>h)) (λv9 hne=>?_);exact we
     .refine bI (some 44) (λK=>bC w2.heap.size v0 [] K [((A,B),lo,hi,t)]) r_ r_ r_ (λK=>bC.closed _ _ _ _ _) (λw' hO h=>gW (((A,B),lo,hi,t)) (λ_=>by go_simp) hO (λv u h1 h2 h3=>bC.mk1 h h1 h2 h3)) (λK hne=>?_);exact JP
    .refine bI (some 44) (λK=>λw'=>am w' w2.heap.size K [((A,B),lo,hi,t)]) r_ r_ r_ (λK=>V K _) (λw' hO _=>gW (((A,B),lo,hi,t)) (λ_=>by go_simp) hO (λ_ _ h _ _=>h)) (λK hne=>?_);refine ao ?_;refine aB 0 ?_;refine bI (some 38) (λv0=>bC w2.heap.size v0 [] K [((A,B),lo,hi,t)]) r_ r_ r_ (λv0=>bC.closed _ _ _ _ _) (λw' hO h=>kh (λ_=>by go_simp) hO (λv u h1 h2 h3=>bC.mk2 h h1 h2 h3)) (λv0 hne=>?_);exact JP
   .
     go_enter Tryz.func119,Tryz.ntmps119;go_upto_region 1 with fail
     generalize w.alloc _=W at *;obtain⟨a4,aZ,ba,a5,ad⟩:=kE.q5;have bY:=kE.lt;go_wp2_with fail
     refine (HP.out W J).mono ?_;rintro r w1 ⟨rfl,I⟩;have H:=af I J.size J;replace kE:=kE.next I
     clear a4 aZ ba a5 ad bY I J;obtain⟨a4,aZ,ba,a5,ad⟩:=kE.q5;have bY:=kE.lt;have a6:=h_ (HA.out w1 H);go_upto_region 3 with fail
     go_wp2_with fail
     refine a6.out.mono ?_;rintro r w2 ⟨rfl,U⟩;have az:=af U H.size H;replace kE:=kE.next U
     clear a4 aZ ba a5 ad bY U H a6 HP HA;obtain⟨a4,aZ,ba,a5,ad⟩:=kE.q5;have bY:=kE.lt;have bb:=h_ az;have cb:w.heap.size<=w2.heap.size:=az.size;have bv:=a9.out w2 az;have ab:Hid (∀w',Below w2.heap.size w2 w'->df w' (.slice (some ⟨g,0,none⟩) p F) (L.take p)):=h_ (λ_ hb=>df.pre (bv.below hb) rl);have aa:Hid (∀m c w',Below w2.heap.size w2 w'->m=n - p->df w' (.slice (if F=p then some ⟨g,0,none⟩ else some ⟨g,p*5,none⟩) m c) (L.drop p)):=h_ (λm _ _ hb hm=>df.postIf (bv.below hb) vK vo);clear az bv a9;go_upto_region 9 with fail
     rw[Uj bz] at aa;have V:=am.closed w2.heap.size;refine br [] (λ_=>false) (λ_=>True) (λ_=>True) k_ (trivial) ?_;refine aD ⟨w2,ah.refl _ _,trivial⟩ [ac,ae,ae,ae,ac,ae,ac,ac,ae] 7 an aA ?_;refine aR [0,6] (ak.cons ?_ (ak.cons ?_ ak.nil))
     .refine bI (some 38) (λv0=>λw'=>am w' w2.heap.size v0 []) r_ r_ r_ (λv0=>V v0 []) (λw' hO _=>kh (λ_=>by go_simp) hO (λ_ _ h _ _=>h)) (λv0 hne=>?_);refine ao ?_;refine aR [4,6] (ak.cons ?_ (ak.cons ?_ ak.nil))
      .refine bI (some 42) (λv4=>λw'=>am w' w2.heap.size v4 (L.take p)) r_ r_ r_ (λv4=>V v4 _) (λw' hO h=>dJ r_ r_ r_ hO h (ab.out w' hO.below) dT (λ_ _ h _ _=>h)) (λv4 hne=>?_);refine ao ?_;refine aB 6 ?_;refine bI (some 44) (λK=>bC w2.heap.size v4 (L.take p) K [((A,B),lo,hi,t)]) r_ r_ r_ (λK=>bC.closed _ _ _ _ _) (λw' hO h=>gW (((A,B),lo,hi,t)) (λ_=>by go_simp) hO (λv u h1 h2 h3=>bC.mk1 h h1 h2 h3)) (λK hne=>?_);refine ao ?_;refine aB 7 ?_;refine bI (some 45) (λv7=>λw'=>am w' w2.heap.size v7 (L.take p++[((A,B),lo,hi,t)])) r_ r_ r_ (λv7=>V v7 _) (λw' hO h=>dJ r_ r_ r_ hO h.1 h.2.1.rd dT (λ_ _ h _ _=>h)) (λv7 hne=>?_);refine ao ?_;refine aB 9 ?_;refine bI (some 47) (λv9=>λw'=>am w' w2.heap.size v9 (L.take p++[((A,B),lo,hi,t)]++L.drop p)) r_ r_ r_ (λv9=>V v9 _) (λw' hO h=>dJ r_ r_ r_ hO h (aa.out _ _ w' hO.below o_) dT (λ_ _ h _ _=>h)) (λv9 hne=>?_);exact we
      .refine bI (some 44) (λK=>bC w2.heap.size v0 [] K [((A,B),lo,hi,t)]) r_ r_ r_ (λK=>bC.closed _ _ _ _ _) (λw' hO h=>gW (((A,B),lo,hi,t)) (λ_=>by go_simp) hO (λv u h1 h2 h3=>bC.mk1 h h1 h2 h3)) (λK hne=>?_);exact J8
     .refine bI (some 44) (λK=>λw'=>am w' w2.heap.size K [((A,B),lo,hi,t)]) r_ r_ r_ (λK=>V K _) (λw' hO _=>gW (((A,B),lo,hi,t)) (λ_=>by go_simp) hO (λ_ _ h _ _=>h)) (λK hne=>?_);refine ao ?_;refine aB 0 ?_;refine bI (some 38) (λv0=>bC w2.heap.size v0 [] K [((A,B),lo,hi,t)]) r_ r_ r_ (λv0=>bC.closed _ _ _ _ _) (λw' hO h=>kh (λ_=>by go_simp) hO (λv u h1 h2 h3=>bC.mk2 h h1 h2 h3)) (λv0 hne=>?_);exact J8
 .rw[hh] at HA;obtain⟨G,hc⟩:=lh.1 hh;rcases Z.2 with ⟨_,hn⟩|⟨g,F,aM,rfl,hg,_,aL,_⟩
  .omega
  .obtain⟨a1,c1,e1,_,c0⟩:=Z.form;obtain⟨g1,e2,bq,b9,c3,q0,q1,q2,q3,q4⟩:=c0 _ G;injection e1 with e1 _ e3;rw[e2] at e1;injection e1 with e1;injection e1 with e1;subst e1 e3;have c9:0<=(L[plc (A,B) L]'G).2.2.2:=(tu.1 (hL.1 _ (UA G))).2.2.2.1;have b1:fD L ((A,B),lo,hi,t)=(ek (L[plc (A,B) L]'G) ((A,B),lo,hi,t)).map λm=>L.take (plc (A,B) L)++([m]++L.drop (plc (A,B) L+1)):=by
    unfold fD;rw[show cO ((A,B),lo,hi,t).1 L=true from hh,Um rfl];rw[show L[plc ((A,B),lo,hi,t).1 L]?=some (L[plc (A,B) L]'G) from Us G];refine congrArg (λf=>Option.map f _) (funext λm=>?_);exact (List.set_eq_take_append_cons_drop ..).trans (Um G)
   have cP:∀W,Kp 174 #[cq (L[plc (A,B) L]'G),cq ((A,B),lo,hi,t)] W λr w'=>r=.returned (.tuple #[cq (kV (L[plc (A,B) L]'G) ((A,B),lo,hi,t)),.bool (ek (L[plc (A,B) L]'G) ((A,B),lo,hi,t)).isSome])/\Below W.heap.size W w':=λW=>QM (L[plc (A,B) L]'G) ((A,B),lo,hi,t) c9 dx W;have cs:=λm'=>@QH (L[plc (A,B) L]'G) ((A,B),lo,hi,t) m';have c5:(L.take (plc (A,B) L)).length<=12:=by rw[UH];omega
   have c4:(L.drop (plc (A,B) L+1)).length<=12:=by rw[Vs];omega
   have a9:=h_ (λW (hb:Below w.heap.size w W)=>Z.below hb);clear hh hc c0 e2 c9 Z;obtain⟨n,hn⟩:∃n,L.length=n:=⟨_,rfl⟩
   have HN:=h_ hn;rw[hn] at aL b7 HP HA a9 ca ⊢;have c6:plc (A,B) L<n:=hn▸G;clear hn;generalize plc (A,B) L=p at *;have c8:p<=F:=o_;have bz:¬F=p:=o_;have cA:(p:Int)<(n:Int):=o_;obtain⟨k,hk⟩:∃k:Nat,p+1=k:=⟨_,rfl⟩
   rw[hk] at b1 c4;have cy:(p:Int)+1=(k:Int):=o_;have cM:k<=n:=o_;have HK:=h_ hk;clear hk;generalize (L[p]'G)=x at *;generalize kV x ((A,B),lo,hi,t)=m at *;generalize ek x ((A,B),lo,hi,t)=mo at *;obtain⟨⟨a2,b2⟩,b6,b8,t2⟩:=x;obtain⟨⟨a3,b3⟩,lo3,hi3,t3⟩:=m;simp only[cq] at cP q0 q1 q2 q3 q4;have bZ:=h_ cP;have cv:=h_ b1;have co:=h_ cs;clear cP b1 cs b9;go_enter Tryz.func119,Tryz.ntmps119;go_upto_region 1 with fail
   generalize w.alloc _=W at *;obtain⟨a4,aZ,ba,a5,ad⟩:=kE.q5;have bY:=kE.lt;go_wp2_with fail
   refine (HP.out W J).mono ?_;rintro r w1 ⟨rfl,I⟩;have H:=af I J.size J;replace kE:=kE.next I
   clear a4 aZ ba a5 ad bY I J;obtain⟨a4,aZ,ba,a5,ad⟩:=kE.q5;have bY:=kE.lt;have a6:=h_ (HA.out w1 H);go_upto_region 3 with fail
   go_wp2_with fail
   refine a6.out.mono ?_;rintro r w2 ⟨rfl,U⟩;have az:=af U H.size H;replace kE:=kE.next U
   clear a4 aZ ba a5 ad bY U H a6 HP HA;obtain⟨a4,aZ,ba,a5,ad⟩:=kE.q5;have bY:=kE.lt;replace q0:=(az.cell (p:=⟨g,p*5,none⟩) bq).trans q0;replace q1:=(az.cell (p:=⟨g,p*5+1,none⟩) bq).trans q1;replace q2:=(az.cell (p:=⟨g,p*5+2,none⟩) bq).trans q2;replace q3:=(az.cell (p:=⟨g,p*5+3,none⟩) bq).trans q3;replace q4:=(az.cell (p:=⟨g,p*5+4,none⟩) bq).trans q4;have cm:=Un bq az.size;go_upto_region 4 with fail
   generalize c2:mo.isSome=ok at *;have cT:=h_ c2;clear c2;apply fO (λr8 Wz=>ah [] w2 Wz/\(λ_=>True) Wz/\w2.heap.size<=r8/\ag r8 #[a3,b3,lo3,hi3,t3] 70 Wz)
   .intro bp;refine br [] (λ_=>false) (λ_=>True) (KD (λ_=>True) []) k_ ⟨trivial,bR.nil _⟩ ?_;refine aD ⟨w2,ah.refl _ _,trivial,bR.nil _⟩ [ae,ae,ae,ae,ae] 7 (KD.closed an _) aA ?_;refine aR [5,9] ?_;refine ak.cons ?_ ?_
    .refine dY (v:=.tuple #[.agg #[a3,b3,lo3,hi3,t3],ok]) (some 28) (λ_=>True) an (λ_ _=>by simp) (λw' hC=>(bZ.out w').mono λ_ _ h=>⟨h.1,.of_below h.2,trivial⟩) (λhne=>?_);refine ao ?_;refine aD hne [ac,ac,ac,ac,ac,ac,ae,ae,ae] 3 (KD.closed an _) aA ?_;refine aR [9] ?_;refine ak.cons ?_ ?_
     .refine dm (zs:=#[(),(),(),(),()]) (T:=70) an (λr8 cc c7 hne=>?_);refine ao ?_;exact KS
     exact ak.nil
    refine ak.cons ?_ ?_
    .refine dm (zs:=#[(),(),(),(),()]) (T:=70) an (λr8 cc c7 hne=>?_);refine ao ?_;refine aR [5] ?_;refine ak.cons ?_ ?_
     .refine dY (v:=.tuple #[.agg #[a3,b3,lo3,hi3,t3],ok]) (some 28) (λ_=>True) an (λ_ _=>by simp) (λw' hC=>(bZ.out w').mono λ_ _ h=>⟨h.1,.of_below h.2,trivial⟩) (λhne=>?_);refine ao ?_;refine aD hne [ac,ac,ac,ac,ac,ac,ae,ae,ae] 2 (KD.closed an _) aA ?_;exact KS
     exact ak.nil
    exact ak.nil
   try dsimp only
   rintro rM W3 ⟨bi,_,b4,kM⟩;have b5:=bi.below;have aG:=af b5 az.size az;have d6:=kE.lt;replace kE:=kE.next b5
   clear q0 q1 q2 q3 q4 a4 aZ ba a5 ad bY bi b5 bZ;have d2:w.heap.size<=W3.heap.size:=aG.size;have d5:w.heap.size≠rM:=o_;cases ok
   .have cZ:mo=none:=Option.isNone_iff_eq_none.1 I_;have HN:Hid (fD L ((A,B),lo,hi,t)=none):=h_ (by rw[cv.out,cZ];rfl);have dy:=h_ aG;go_wp2;refine Uh (v:=.tuple #[.slice none 0 0,false]) E7 rfl ?_;exact j_.none HN.out dy.out
   .obtain⟨m',cB⟩:∃m',mo=some m':=VV.1 cT.out;have cX:=co.out m' cB;have HT:Hid (fD L ((A,B),lo,hi,t)=some (L.take p++([((a3,b3),lo3,hi3,t3)]++L.drop k))):=h_ (by rw[cv.out,cB,<-cX];rfl);obtain⟨a8,bx,cu,cF,cQ⟩:=kM.q5;have bX:=kM.lt;obtain⟨a4,aZ,ba,a5,ad⟩:=kE.q5;have dz:=kE.frozen 0;have d0:=kE.frozen 1;have d1:=kE.frozen 2;have d4:=kE.frozen 3;have d3:=kE.frozen 4;have bY:=kE.lt;have ad:=((((kE.set 0 a3).set 1 b3).set 2 lo3).set 3 hi3).set 4 t3;have ax:=((((aG.setCell (p:=⟨w.heap.size,0,none⟩) (Ug _) a3).setCell (p:=⟨w.heap.size,1,none⟩) (Ug _) b3).setCell (p:=⟨w.heap.size,2,none⟩) (Ug _) lo3).setCell (p:=⟨w.heap.size,3,none⟩) (Ug _) hi3).setCell (p:=⟨w.heap.size,4,none⟩) (Ug _) t3;clear cB cX cv co cT;by_cases aF:F=k
    .subst aF;go_upto_region 8 with fail
     generalize World.setCell _ _ _=W4 at *;simp only[UK,UV,U1] at ad;have bb:=h_ ax;have cb:w.heap.size<=W4.heap.size:=ax.size;have bv:=a9.out W4 ax;have ab:Hid (∀w',Below W4.heap.size W4 w'->df w' (.slice (some ⟨g,0,none⟩) p F) (L.take p)):=h_ (λ_ hb=>df.pre (bv.below hb) rl);have aa:Hid (∀m c w',Below W4.heap.size W4 w'->m=n - F->df w' (.slice (if F=F then some ⟨g,0,none⟩ else some ⟨g,F*5,none⟩) m c) (L.drop F)):=h_ (λm _ _ hb hm=>df.postIf (bv.below hb) vK vo);clear bv a9 ax aG;obtain⟨dd,dl,da,dp,dc⟩:=ad.q5;have db:=ad.lt;go_upto_region 9 with fail
     rw[Um (rfl:F=F)] at aa;have V:=am.closed W4.heap.size;refine br [] (λ_=>false) (λ_=>True) (λ_=>True) k_ (trivial) ?_;refine aD ⟨W4,ah.refl _ _,trivial⟩ [ac,ae,ae,ae,ac,ae,ac,ac,ae] 7 an aA ?_;refine aR [0,6] (ak.cons ?_ (ak.cons ?_ ak.nil))
     .refine bI (some 38) (λv0=>λw'=>am w' W4.heap.size v0 []) r_ r_ r_ (λv0=>V v0 []) (λw' hO _=>kh (λ_=>by go_simp) hO (λ_ _ h _ _=>h)) (λv0 hne=>?_);refine ao ?_;refine aR [4,6] (ak.cons ?_ (ak.cons ?_ ak.nil))
      .refine bI (some 42) (λv4=>λw'=>am w' W4.heap.size v4 (L.take p)) r_ r_ r_ (λv4=>V v4 _) (λw' hO h=>dJ r_ r_ r_ hO h (ab.out w' hO.below) dT (λ_ _ h _ _=>h)) (λv4 hne=>?_);refine ao ?_;refine aB 6 ?_;refine bI (some 44) (λK=>bC W4.heap.size v4 (L.take p) K [((a3,b3),lo3,hi3,t3)]) r_ r_ r_ (λK=>bC.closed _ _ _ _ _) (λw' hO h=>gW (((a3,b3),lo3,hi3,t3)) (λ_=>by go_simp) hO (λv u h1 h2 h3=>bC.mk1 h h1 h2 h3)) (λK hne=>?_);refine ao ?_;refine aB 7 ?_;refine bI (some 45) (λv7=>λw'=>am w' W4.heap.size v7 (L.take p++[((a3,b3),lo3,hi3,t3)])) r_ r_ r_ (λv7=>V v7 _) (λw' hO h=>dJ r_ r_ r_ hO h.1 h.2.1.rd dT (λ_ _ h _ _=>h)) (λv7 hne=>?_);refine ao ?_;refine aB 9 ?_;refine bI (some 47) (λv9=>λw'=>am w' W4.heap.size v9 (L.take p++[((a3,b3),lo3,hi3,t3)]++L.drop F)) r_ r_ r_ (λv9=>V v9 _) (λw' hO h=>dJ r_ r_ r_ hO h (aa.out _ _ w' hO.below o_) dT (λ_ _ h _ _=>h)) (λv9 hne=>?_);exact we
      .refine bI (some 44) (λK=>bC W4.heap.size v0 [] K [((a3,b3),lo3,hi3,t3)]) r_ r_ r_ (λK=>bC.closed _ _ _ _ _) (λw' hO h=>gW (((a3,b3),lo3,hi3,t3)) (λ_=>by go_simp) hO (λv u h1 h2 h3=>bC.mk1 h h1 h2 h3)) (λK hne=>?_);exact Kr
     .refine bI (some 44) (λK=>λw'=>am w' W4.heap.size K [((a3,b3),lo3,hi3,t3)]) r_ r_ r_ (λK=>V K _) (λw' hO _=>gW (((a3,b3),lo3,hi3,t3)) (λ_=>by go_simp) hO (λ_ _ h _ _=>h)) (λK hne=>?_);refine ao ?_;refine aB 0 ?_;refine bI (some 38) (λv0=>bC W4.heap.size v0 [] K [((a3,b3),lo3,hi3,t3)]) r_ r_ r_ (λv0=>bC.closed _ _ _ _ _) (λw' hO h=>kh (λ_=>by go_simp) hO (λv u h1 h2 h3=>bC.mk2 h h1 h2 h3)) (λv0 hne=>?_);exact Kr
    .
      go_upto_region 8 with fail
      generalize World.setCell _ _ _=W4 at *;simp only[UK,UV,U1] at ad;have bb:=h_ ax;have cb:w.heap.size<=W4.heap.size:=ax.size;have bv:=a9.out W4 ax;have ab:Hid (∀w',Below W4.heap.size W4 w'->df w' (.slice (some ⟨g,0,none⟩) p F) (L.take p)):=h_ (λ_ hb=>df.pre (bv.below hb) rl);have aa:Hid (∀m c w',Below W4.heap.size W4 w'->m=n - k->df w' (.slice (if F=k then some ⟨g,0,none⟩ else some ⟨g,k*5,none⟩) m c) (L.drop k)):=h_ (λm _ _ hb hm=>df.postIf (bv.below hb) vK vo);clear bv a9 ax aG;obtain⟨dd,dl,da,dp,dc⟩:=ad.q5;have db:=ad.lt;go_upto_region 9 with fail
      rw[Uj aF] at aa;have V:=am.closed W4.heap.size;refine br [] (λ_=>false) (λ_=>True) (λ_=>True) k_ (trivial) ?_;refine aD ⟨W4,ah.refl _ _,trivial⟩ [ac,ae,ae,ae,ac,ae,ac,ac,ae] 7 an aA ?_;refine aR [0,6] (ak.cons ?_ (ak.cons ?_ ak.nil))
      .refine bI (some 38) (λv0=>λw'=>am w' W4.heap.size v0 []) r_ r_ r_ (λv0=>V v0 []) (λw' hO _=>kh (λ_=>by go_simp) hO (λ_ _ h _ _=>h)) (λv0 hne=>?_);refine ao ?_;refine aR [4,6] (ak.cons ?_ (ak.cons ?_ ak.nil))
       .refine bI (some 42) (λv4=>λw'=>am w' W4.heap.size v4 (L.take p)) r_ r_ r_ (λv4=>V v4 _) (λw' hO h=>dJ r_ r_ r_ hO h (ab.out w' hO.below) dT (λ_ _ h _ _=>h)) (λv4 hne=>?_);refine ao ?_;refine aB 6 ?_;refine bI (some 44) (λK=>bC W4.heap.size v4 (L.take p) K [((a3,b3),lo3,hi3,t3)]) r_ r_ r_ (λK=>bC.closed _ _ _ _ _) (λw' hO h=>gW (((a3,b3),lo3,hi3,t3)) (λ_=>by go_simp) hO (λv u h1 h2 h3=>bC.mk1 h h1 h2 h3)) (λK hne=>?_);refine ao ?_;refine aB 7 ?_;refine bI (some 45) (λv7=>λw'=>am w' W4.heap.size v7 (L.take p++[((a3,b3),lo3,hi3,t3)])) r_ r_ r_ (λv7=>V v7 _) (λw' hO h=>dJ r_ r_ r_ hO h.1 h.2.1.rd dT (λ_ _ h _ _=>h)) (λv7 hne=>?_);refine ao ?_;refine aB 9 ?_;refine bI (some 47) (λv9=>λw'=>am w' W4.heap.size v9 (L.take p++[((a3,b3),lo3,hi3,t3)]++L.drop k)) r_ r_ r_ (λv9=>V v9 _) (λw' hO h=>dJ r_ r_ r_ hO h (aa.out _ _ w' hO.below o_) dT (λ_ _ h _ _=>h)) (λv9 hne=>?_);exact we
       .refine bI (some 44) (λK=>bC W4.heap.size v0 [] K [((a3,b3),lo3,hi3,t3)]) r_ r_ r_ (λK=>bC.closed _ _ _ _ _) (λw' hO h=>gW (((a3,b3),lo3,hi3,t3)) (λ_=>by go_simp) hO (λv u h1 h2 h3=>bC.mk1 h h1 h2 h3)) (λK hne=>?_);exact KM
      .refine bI (some 44) (λK=>λw'=>am w' W4.heap.size K [((a3,b3),lo3,hi3,t3)]) r_ r_ r_ (λK=>V K _) (λw' hO _=>gW (((a3,b3),lo3,hi3,t3)) (λ_=>by go_simp) hO (λ_ _ h _ _=>h)) (λK hne=>?_);refine ao ?_;refine aB 0 ?_;refine bI (some 38) (λv0=>bC W4.heap.size v0 [] K [((a3,b3),lo3,hi3,t3)]) r_ r_ r_ (λv0=>bC.closed _ _ _ _ _) (λw' hO h=>kh (λ_=>by go_simp) hO (λv u h1 h2 h3=>bC.mk2 h h1 h2 h3)) (λv0 hne=>?_);exact KM
def OA(b0:Nat)(v:Value)(L:aK)(e:E5)(hL:eA L)(w:World)(Z:am w b0 v L):
 Kp 80 #[v,cq e] w (eQ (js L e) w):=by
 have HG:=h_ (λW (hb:Below w.heap.size w W)=>tv b0 v L hL W (Z.below hb));have HE:=h_ (xl e);have HT:=h_ (λW (he:fW e=true) (hb:Below w.heap.size w W)=>NI b0 v L e he hL W (Z.below hb));obtain⟨a,F,rfl,_,_⟩:=Z.form;clear Z;cases aa:fW e
 .have HV:Hid (js L e=none):=h_ uZ;rw[HV.out];rw[aa] at HE;clear HV aa HT;obtain⟨⟨A,B⟩,lo,hi,t⟩:=e;simp only[cq] at HE ⊢;obtain⟨kE,J⟩:=aw w #[A,B,lo,hi,t] 70;go_enter Tryz.func80,Tryz.ntmps80;go_upto_region 1 with fail
  generalize w.alloc _=W at *;go_wp2_with fail
  refine (HG.out W J).mono ?_;rintro r w1 ⟨rfl,I⟩;have H:=af I J.size J;replace kE:=kE.next I
  obtain⟨a4,aZ,ba,a5,ad⟩:=kE.q5;have bY:=kE.lt;go_wp2_with fail
  refine (HE.out w1).mono ?_;rintro r w2 ⟨rfl,U⟩;have az:=af U H.size H;go_wp2;refine Uh (v:=.tuple #[.slice none 0 0,false]) vf rfl ?_;exact eQ.none az
 .have HV:Hid (js L e=gf L e):=h_ uZ;rw[HV.out];have ab:=h_ (Bu hL.2.2 e);have aL:=h_ (λM=>@Cx L e hL aa M);have HM:=h_ (λW hb=>HT.out W aa hb);have a7:=h_ tv;have bb:=h_ MC;rw[aa] at HE;clear HV HT aa;obtain⟨te,V⟩:∃te,(fD L e).isSome=te:=⟨_,rfl⟩
  have ax:Hid (∀W r w',j_ L e W r w'->∃v,r=.returned (.tuple #[v,te])/\(∀M,fD L e=some M->am w' W.heap.size v M)/\Below W.heap.size W w'):=h_ (λW r w' ⟨v,h1,h2,h3⟩=>⟨v,V▸h1,h2,h3⟩);obtain⟨T,hT⟩:∃T,fD L e=T:=⟨_,rfl⟩
  obtain⟨R,hR⟩:∃R,gf L e=R:=⟨_,rfl⟩
  obtain⟨P,hP⟩:∃P,j_ L e=P:=⟨_,rfl⟩
  rw[hR] at ab aL ⊢;rw[hT] at ab ax V;rw[hP] at HM ax;have a1:=h_ V;clear hP hR hT V;obtain⟨⟨A,B⟩,lo,hi,t⟩:=e;simp only[cq] at HE HM ⊢;obtain⟨kE,J⟩:=aw w #[A,B,lo,hi,t] 70;go_enter Tryz.func80,Tryz.ntmps80;go_upto_region 1 with fail
  generalize w.alloc _=W at *;go_wp2_with fail
  refine (HG.out W J).mono ?_;rintro r w1 ⟨rfl,I⟩;have H:=af I J.size J;replace kE:=kE.next I
  obtain⟨a4,aZ,ba,a5,ad⟩:=kE.q5;have bY:=kE.lt;go_wp2_with fail
  refine (HE.out w1).mono ?_;rintro r w2 ⟨rfl,U⟩;have az:=af U H.size H;replace kE:=kE.next U
  clear a4 aZ ba a5 ad bY I U H J;obtain⟨a4,aZ,ba,a5,ad⟩:=kE.q5;have bY:=kE.lt;go_upto_region 3 with fail
  go_wp2_with fail
  refine (HM.out w2 az).mono ?_;intro r w3 G;obtain⟨v3,rfl,a2,aF⟩:=ax.out _ _ _ G;have aG:=af aF az.size az;have a6:=h_ a2;clear a2 G a4 aZ ba a5 ad bY kE aF HM HE HG ax;cases te
  .have ec:T=none:=by have:=a1.out;cases T with|none=>rfl|some x=>cases this
   have a8:Hid (R=none):=h_ (by have:=ab.out;rw[ec] at this;exact this);clear ec;go_wp2;refine Uh (v:=.tuple #[.slice none 0 0,false]) vf rfl ?_;exact a8.out▸eQ.none aG
  .obtain⟨M,hM⟩:∃M,T=some M:=VV.1 a1.out;have a9:=a6.out M hM;have aX:R=if M.length<=12 then some M else none:=by have:=ab.out;rw[hM] at this;exact this
   obtain⟨a3,c3,rfl,_,_⟩:=a9.form;by_cases ac:M.length<=12
   .have aM:Hid (R=some M):=h_ (by rw[aX,Um ac]);have ae:=h_ (a7.out w2.heap.size _ M (aL.out M aM.out) w3 a9);have bi:=h_ (a9.le az.size);clear a9 aX hM ac a7 bb aL ab a1 a6;go_wp2_with fail
    refine ae.out.mono ?_;rintro r w4 ⟨rfl,K⟩;have g:=af K aG.size aG;have bo:=h_ (bi.out.below K);go_wp2;refine Uh (v:=.tuple #[.slice a3 M.length c3,true]) vf rfl ?_;exact aM.out▸eQ.some bo.out g
   .have aM:Hid (R=none):=h_ (by rw[aX,Uj ac]);have ae:=h_ (bb.out w2.heap.size _ M o_ w3 a9);clear a9 aX hM ac a7 bb aL ab a1 a6;go_wp2_with fail
    refine ae.out.mono ?_;rintro r w4 ⟨rfl,K⟩;have g:=af K aG.size aG;go_wp2;refine Uh (v:=.tuple #[.slice none 0 0,false]) vf rfl ?_;exact aM.out▸eQ.none g
end Go.Proofs.YtaamhakdhaolmaaGreatDoor
