/- Part 1. -/
import Derived.BigQuiet
import Derived.Deep.QuietTactic
import Derived.Deep.RegionHeld3
import Derived.OrdersHeld
import Derived.Test.YtaamhakdhaolmaaGreatDoorSaa
namespace Go.Proofs.YtaamhakdhaolmaaGreatDoor
open Go.RowKit
set_option maxHeartbeats 8000000
set_option maxRecDepth 100000
variable {P:Prop}
set_option linter.all false
def kH(h:P:=by simpa using h):=h
def vq(h:P:=by simpa using ae):=h
def zY(h:P:=by rw[h] at hr;cases hr):=h
def IR(h:P:=by
 subst ac;exact hy.wpOp hi hD hN hO hd (λw' V K=>⟨N,D,hD,hN,λ_=>rfl,V,K,H⟩)):=h
def Ls(h:P:=by
 refine⟨A.tmps.getD d undef,λE hE bs b8=>?_⟩;have h1:=h E hE bs b8;simp only[fu,wpQuiet] at h1;have I:∀v,fu P ops (Cl ex W E) (λa'=>a'=A) l fl (a.put o.dst v)->A.tmps.getD d undef=v:=λv G=>by
  have:=tQ l fl _ G bY;rw[hd] at this;simp only[Act.put,Array.getElem?_setIfInBounds_self,aG,WB] at this;simp [V6,this]
 split at h1
 .rename_i G;obtain⟨v,hq,hk⟩:=h1;rw[I v hk];exact⟨.inl ⟨G,hq⟩,hk⟩
 .rename_i G;rw[I undef h1];exact⟨.inr ⟨by simpa using G,rfl⟩,h1⟩):=h
def Kg(h:P:=by
 refine⟨λh=>zY,λj hj w hO hd=>?_⟩;by_cases ac:j=i
 .exact IR
 .have:=Y3 hj ac;rw[H.1] at this;cases this):=h
def Hb(h:P:=by
 have h1:=az e he hb;have h0:=(Zk.1 hr).1;rw[a3] at h1;rcases Wv i listed.size with J|J
 .simp [J] at h0 h1;rw[h0] at h1;cases h1
 .simp [Yr J] at h1):=h
def GC(h:P:=by
 intro a h;simp only[wpQuiet] at h ⊢;split
 .rename_i G;simp only[G,WB] at h;exact Oper.quiet_mono g h
 .rename_i G;simp only[G] at h;exact g _ h):=h
def GR(h:P:=by
 have:=h D hD hN hne;have e:a=A:=by revert this;cases ‹List Oper›<;>(intro h;exact h)
 subst e;simpa[mF] using H):=h
def FP(h:P:=by
 refine U k ok hk co ?_ a4;by_cases ab:j=k
 .subst ab;exact ae
 .rw[getD_set_ne true ab] at a1;exact a1):=h
def Gi(h:P:=by
 exact IR):=h
def FX(h:P:=by
 cases K:o.dst with
 |none=>rw[K] at F;simp at F
 |some d=>exact⟨d,rfl⟩):=h
structure ai (ex:List Nat)(W w:World):Prop where
 os:w.os=W.os
 tape:w.tape=W.tape
 output:w.output=W.output
 size:W.heap.size<=w.heap.size
 block:∀k,k<W.heap.size->k∉ex->w.heap[k]?=W.heap[k]?
def ai.refl(ex:List Nat)(W):ai ex W W:=⟨rfl,rfl,rfl,Vj _,λ_ _ _=>rfl⟩
def ai.of_below{ex:List Nat}{W w:World}(h:af W W w):ai ex W w:=⟨h.os,h.tape,h.output,h.size,λk hk _=>h.block k hk⟩
def ai.below{W w}(h:ai [] W w):af W W w:=⟨h.os,h.tape,h.output,h.size,λk hk=>h.block k hk s_⟩
def ai.trans{ex:List Nat}{W w w'}(h:ai ex W w)(k:ai ex w w'):ai ex W w':=
 ⟨k.os.trans h.os,k.tape.trans h.tape,k.output.trans h.output,Vl h.size k.size,λi hi hn=>(k.block i (Vp hi h.size) hn).trans (h.block i hi hn)⟩
def ai.next{ex:List Nat}{W w w'}(h:ai ex W w)(k:af w w w'):ai ex W w':=h.trans (.of_below k)
def ai.drew{ex:List Nat}{W w}(h:ai ex W w):ai ex W w.drew:=h.next ((Vn _ _).drew)
def ai.alloc{ex:List Nat}{W w}(h:ai ex W w)(o:Obj):ai ex W (w.alloc o):=h.next ((Vn _ _).alloc (Vj _) o)
def ai.setCell{ex:List Nat}{W w}(h:ai ex W w){p}(G:W.heap.size<=p.block\/p.block∈ex)(v):ai ex W (w.setCell p v):=
 ⟨h.os,h.tape,h.output,by simpa[World.setCell] using h.size,λk hk hn=>(Below.heap_setCell _ _ _ _ (by
   rintro rfl;rcases G with G|G
   .omega
   .exact hn G)).trans (h.block k hk hn)⟩
def ai.cell{ex:List Nat}{W w}(h:ai ex W w){p}(G:p.block<W.heap.size)(hn:p.block∉ex):w.cell? p=W.cell? p:=World.cell?_of_block (w:=W) (h.block p.block G hn)
def ai.frozen{ex:List Nat}{W w}(h:ai ex W w){p}(G:p.block<W.heap.size)(hn:p.block∉ex):w.frozen? p=W.frozen? p:=World.frozen?_of_block (w:=W) (h.block p.block G hn)
def aQ(D:av):Prop:=∀w w',D w->af w w w'->D w'
def aQ.true:aQ (λ_=>True):=λ_ _ _ _=>trivial
def aQ.and{D E:av}(h:aQ D)(k:aQ E):aQ (λw=>D w/\E w):=λ_ _ ⟨a,b⟩ hb=>⟨h _ _ a hb,k _ _ b hb⟩
structure aU (ex:List Nat)(W)(D:World->Prop) where
 wd:World
 over:ai ex W wd
 more:D wd
instance (ex:List Nat)(W:World):Nonempty (aU ex W (λ_=>True)):=⟨⟨W,ai.refl _ _,trivial⟩⟩
abbrev Cl(ex:List Nat)(W:World)(D:av):av:=λw'=>∃c:aU ex W D,w'=c.wd
@[simp,go_sem] theorem aU.cell?{ex:List Nat}{W:World}{D:av}(c:aU ex W D){p:Addr}(G:p.block<W.heap.size)(hn:p.block∉ex):c.wd.cell? p=W.cell? p:=c.over.cell G hn
@[simp,go_sem] theorem aU.frozen?{ex:List Nat}{W:World}{D:av}(c:aU ex W D){p:Addr}(G:p.block<W.heap.size)(hn:p.block∉ex):c.wd.frozen? p=W.frozen? p:=c.over.frozen G hn
section
variable {P:Program}{ops:Array Oper}{Q:Exit->Act->av}{ex:List Nat}{W:World}{R:Nat->Bool}{N D:av}
def Calls.quiet_cls{f:FuncId}{args}{v}(hD:aQ D)(c:aU ex W D)
 (h:Calls P f args c.wd λe w'=>e=.returned v/\af c.wd.heap.size c.wd w'):Calls P f args c.wd λe b9=>e=.returned v/\∃c':aU ex W D,b9=c'.wd:=
 h.mono λ_ w' ⟨he,hb⟩=>⟨he,⟨w',c.over.next hb,hD _ _ c.more hb⟩,rfl⟩
def Calls.quiet_clsS{f:FuncId}{args}{v}(c:aU ex W D)
 (h:Calls P f args c.wd λe w'=>e=.returned v/\c.wd=w'):Calls P f args c.wd λe b9=>e=.returned v/\∃c':aU ex W D,b9=c'.wd:=
 h.mono λ_ _ ⟨he,hb⟩=>⟨he,c,hb.symm⟩
def BE(w:World)(n):af w w (w.drewN n):=⟨rfl,rfl,rfl,Vj _,λ_ _=>rfl⟩
def ch(P:Program)(ops:Array Oper)(Q:Exit->Act->av)(ex:List Nat)(W:World)(R:Nat->Bool):Nat->Array Bool->Act->(av)->(av)->Prop
 |0,listed,a,_,D=>Region.ready .any ops listed=[]/\∀w,ai ex W w->D w->Q .normal a w
 |fuel+1,listed,a,N,D=>
  (Region.ready .any ops listed=[]->∀w,ai ex W w->D w->Q .normal a w)/\
  ∀i∈Region.ready .any ops listed,∀w,ai ex W w->D w->
   wpOp P ops Q i (λa' w'=>∃N' F:av,aQ F/\(∀u,F u->N' u)/\(R i=false->N'=N)/\ai ex W w'/\F w'/\ch P ops Q ex W R fuel (listed.setIfInBounds i true) a' N' F) a w
theorem Cs:∀(fuel) (listed:Array Bool) (a) (w) (N D:av),ai ex W w->D w->ch P ops Q ex W R fuel listed a N D->wpAny P .any ops Q fuel listed a w
 |0,_,_,_,_,_,Z,hd,h=>⟨h.1,h.2 _ Z hd⟩
 |fuel+1,_,_,_,_,_,Z,hd,h=>⟨λh0=>h.1 h0 _ Z hd,λi hi=>YN (λa' w' ⟨N',F,_,_,_,V,K,J⟩=>Cs fuel _ a' w' N' F V K J) (h.2 i hi _ Z hd)⟩
def jW(P:Program)(ops:Array Oper)(ex:List Nat)(W:World)(N:av)(o:Oper)(v:Value)(a:Act):Prop:=
 ∀D,aQ D->(∀w,D w->N w)->Nonempty (aU ex W D)->YieldsIn P ops (Cl ex W D) o v a
def jW.of_same{o}{v}{a a'}(hy:jW P ops ex W N o v a)(he:execOp a'.eval o=execOp a.eval o)
 (G:Region.wanted o (yielded ops a'.tmps)=Region.wanted o (yielded ops a.tmps)):jW P ops ex W N o v a':=λD h1 h2 h3=>(hy D h1 h2 h3).of_same he G
def jW.wpOp{i}{o}{v}{a}(hi:ops[i]?=some o)(hD:aQ D)(hN:∀w,D w->N w)(hy:jW P ops ex W N o v a)
 {K:Act->av}{w}(hO:ai ex W w)(hd:D w)(h:∀w',ai ex W w'->D w'->K (a.put o.dst v) w'):wpOp P ops Q i K a w:=by
 unfold Go.wpOp;simp only[hi];rcases hy D hD hN ⟨⟨w,hO,hd⟩⟩ with ⟨G,hv⟩|⟨G,rfl⟩
 .simp only[G,WB];refine .inl ?_;have hq:=hv w ⟨⟨w,hO,hd⟩,rfl⟩;unfold Oper.quietAt at hq;unfold Oper.wp;generalize (execOp a.eval o).run P w=r at *;cases r with
  |ok n w'=>
   cases n<;>simp only[Oper.quietUpon] at hq<;>simp only[Oper.upon]
   case value u=>
    obtain⟨rfl,rfl⟩:=hq;exact h _ hO hd
   case skip=>
    obtain⟨rfl,rfl⟩:=hq;exact h _ hO hd
   case enter f args=>
    obtain⟨rfl,hc⟩:=hq;refine hc.mono λe b9 he=>?_;obtain⟨rfl,c,rfl⟩:=he;exact h _ c.over c.more
  |halt x w'=>simp only[Oper.quietUpon] at hq
 .simp only[G,Xq,Zt];exact h _ hO hd
def BQ{j}{oi oj}{v}(hj:ops[j]?=some oj)(aF:oi.apart ops oj=true)
 (g:∀cs b,oi.op≠.select cs b)(J:∀cs b,oj.op≠.select cs b)
 (hQ:∀c a w,Q (.panic c) (a.put oi.dst v) w->Q (.panic c) a w){K:Act->av}{a}{w}
 (hy:jW P ops ex W N oi v a)(h:wpOp P ops Q j K (a.put oi.dst v) w):
 wpOp P ops Q j (λa' w'=>jW P ops ex W N oi v a'/\K (a'.put oi.dst v) w') a w:=by
 have⟨h1,h2,h3⟩:=Oper.apart_spec aF;have keep:∀(a:Act),jW P ops ex W N oi v a->∀u,jW P ops ex W N oi v (a.put oj.dst u):=λa hy u=>
  hy.of_same (execOp_put oi g a oj.dst u h3) (wanted_put oi a oj.dst u h3)
 have H:∀d,jW P ops ex W N oi v {a with defers:=d::a.defers}:=λd=>hy.of_same rfl rfl;unfold wpOp at *;simp only[hj] at *;rw[wanted_put oj a oi.dst v h1] at h;split
 .rename_i G;simp only[G,WB] at h;rcases h with h|⟨F,I⟩
  case inr=>exact .inr ⟨by unfold Oper.asks at *;rw[execOp_put oj J a oi.dst v h1] at F;exact F,I⟩
  refine .inl ?_;unfold Oper.wp at *;rw[execOp_put oj J a oi.dst v h1] at h;generalize (execOp a.eval oj).run P w=r at *;cases r with
  |ok n w'=>
   cases n<;>simp only[Oper.upon] at h ⊢
   case value u=>exact⟨keep a hy u,by rw[<-Yc a v u h2];exact h⟩
   case skip=>exact⟨keep a hy _,by rw[<-Yc a v undef h2];exact h⟩
   case defer d=>
    refine⟨keep _ (H d) _,?_⟩;rw[<-Yc _ v undef h2,<-Act.put_defers];exact h
   case enter f args=>
    refine Calls.mono h λe b9 he=>?_;cases e with
    |returned u=>exact⟨keep a hy u,by rw[<-Yc a v u h2];exact he⟩
    |panicked c=>exact hQ _ _ _ he
    |outgrown=>exact he
   case row row args=>exact Rows.mono h λu b9 he=>⟨keep a hy u,by rw[<-Yc a v u h2];exact he⟩
  |halt x w'=>
   cases x<;>simp only[Oper.upon] at h ⊢
   case panic u=>exact hQ _ _ _ h
 .rename_i G;simp only[G] at h;exact⟨keep a hy _,by rw[<-Yc a v undef h2];exact h⟩
def ND{i}{oi}{v}(hi:ops[i]?=some oi)(Z:∀(j:Nat) (o) cs b,ops[j]?=some o->o.op≠.select cs b)
 (hQ:∀c a d v w,Q (.panic c) (Act.put a d v) w->Q (.panic c) a w):
 ∀(fuel) (listed:Array Bool) (a) (D:av),aQ D->(∀w,D w->N w)->
  (∀j oj,ops[j]?=some oj->j≠i->listed.getD j true=false->(∀e∈oj.after,Region.binds .any e=true->e.on≠i)->oi.apart ops oj=true/\R j=false)->
  i∈Region.ready .any ops listed->R i=false->jW P ops ex W N oi v a->
  ch P ops Q ex W R fuel (listed.setIfInBounds i true) (a.put oi.dst v) N D->ch P ops Q ex W R (fuel+1) listed a N D:=by
 intro fuel
 induction fuel with
 |zero=>
  intro listed a D hD hN _ hr hR hy H;exact Kg
 |succ fuel g=>
  intro listed a D hD hN U hr hR hy H;refine⟨λh=>zY,λj hj w hO hd=>?_⟩;by_cases ac:j=i
  .exact Gi
  .have⟨ae,oj,aZ,az⟩:=Zk.1 hj;have ax:∀e∈oj.after,Region.binds .any e=true->e.on≠i:=λe he hb a3=>by
    exact Hb
   have⟨aF,ad⟩:=U j oj aZ ac ae ax;have h2:=BQ aZ aF (λcs b=>Z i oi cs b hi) (λcs b=>Z j oj cs b aZ) (λc a w=>hQ c a _ _ w) hy (H.2 j (Y3 hj ac) w hO hd);have G:∀k ok,ops[k]?=some ok->k≠i->(listed.setIfInBounds j true).getD k true=false->
    (∀e∈ok.after,Region.binds .any e=true->e.on≠i)->oi.apart ops ok=true/\R k=false:=λk ok hk co a1 a4=>by
    exact FP
   refine YN (λa' w' h3=>?_) h2;have⟨aG,N',F,I,aa,aL,V,K,h4⟩:=h3;obtain rfl:=aL ad;refine⟨_,F,I,aa,λ_=>rfl,V,K,g (listed.setIfInBounds j true) a' F I aa G (Y3 hr (Ne.symm ac)) hR aG ?_⟩;rw[Array.setIfInBounds_comm _ _ ac];exact h4
def fu(P:Program)(ops:Array Oper)(C:av)(K:Act->Prop):List Oper->List Bool->Act->Prop
 |o::l,true::fl,a=>wpQuiet P ops C (λa'=>fu P ops C K l fl a') [o] a
 |_::l,false::fl,a=>fu P ops C K l fl a
 |_,_,a=>K a
def gN{C:av}{K:Act->Prop}{o}{l}{fl:List Bool}{a}(h:wpQuiet P ops C (λa'=>fu P ops C K l fl a') [o] a):fu P ops C K (o::l) (true::fl) a:=h
def gM{C:av}{K:Act->Prop}{o}{l}{fl:List Bool}{a}(h:fu P ops C K l fl a):fu P ops C K (o::l) (false::fl) a:=h
def gO{C:av}{K:Act->Prop}{l}{a}(h:K a):fu P ops C K l [] a:=by cases l<;>exact h
def qf(ops:Array Oper)(R:Nat->Bool):List Bool->Nat->Array Bool->Bool
 |true::fl,k,listed=>(Region.ready .any ops listed).contains k&&Region.free .any ops listed k&&!R k&&
   ((List.range ops.size).all λj=>j==k||listed.getD j true||!R j||match ops[j]? with|some oj=>oj.after.any (λe=>Region.binds .any e&&e.on==k)|none=>true)&&
   qf ops R fl (k+1) (listed.setIfInBounds k true)
 |false::fl,k,listed=>qf ops R fl (k+1) listed
 |[],_,_=>true
def mF:List Bool->Nat->Array Bool->Array Bool
 |true::fl,k,listed=>mF fl (k+1) (listed.setIfInBounds k true)
 |false::fl,k,listed=>mF fl (k+1) listed
 |[],_,listed=>listed
def sw:List Oper->List Bool->List Nat
 |o::l,true::fl=>o.dst.toList++sw l fl
 |_::l,false::fl=>sw l fl
 |_,_=>[]
def lO(n:Nat):List Oper->List Bool->Bool
 |o::l,true::fl=>(match o.dst with|some d=>decide (d<n)&&!(sw l fl).contains d|none=>false)&&lO n l fl
 |_::l,false::fl=>lO n l fl
 |_,_=>true
def tW(a:Act)(d:Option Tmp)(v):(a.put d v).tmps.size=a.tmps.size:=by cases d<;>simp [Act.put]
theorem tQ{C:av}{A}{d}:∀(l) (fl:List Bool) (a),fu P ops C (λa'=>a'=A) l fl a->d∉sw l fl->A.tmps[d]?=a.tmps[d]?
 |[],fl,a,h,_=>by cases fl<;>(simp only[fu] at h;rw[h])
 |o::l,[],a,h,_=>by simp only[fu] at h;rw[h]
 |o::l,false::fl,a,h,hd=>tQ l fl a h hd
 |o::l,true::fl,a,h,hd=>by
  simp only[sw,Wy,not_or] at hd;have G:∀v,(a.put o.dst v).tmps[d]?=a.tmps[d]?:=λv=>by
   cases K:o.dst with
   |none=>rfl
   |some g=>
    rw[K] at hd;simp at hd;simp [Act.put,Array.getElem?_setIfInBounds_ne (Ne.symm hd.1)]
  simp only[fu,wpQuiet] at h;split at h
  .have⟨v,_,h2⟩:=h;exact (tQ l fl _ h2 hd.2).trans (G v)
  .exact (tQ l fl _ h hd.2).trans (G _)
theorem xh{A}(hne:Nonempty (aU ex W D))(hs:Region.noSelect ops=true)(hQ:∀c a d v w,Q (.panic c) (Act.put a d v) w->Q (.panic c) a w){fuel}(hD:aQ D)(hN:∀w,D w->N w):
 ∀(l) (fl:List Bool) (k) (listed:Array Bool) (a),(∀j,l[j]?=ops[k+j]?)->
  qf ops R fl k listed=true->lO a.tmps.size l fl=true->fl.length<=l.length->
  (∀E:av,aQ E->(∀w,E w->N w)->Nonempty (aU ex W E)->fu P ops (Cl ex W E) (λa'=>a'=A) l fl a)->
  ch P ops Q ex W R fuel (mF fl k listed) A N D->ch P ops Q ex W R (fuel+fl.count true) listed a N D
 |_,[],_,listed,a,_,_,_,_,h,H=>by
  exact GR
 |[],_::_,_,_,_,_,_,_,ae,_,_=>by simp at ae
 |o::l,false::fl,k,listed,a,hl,hB,hF,ae,h,H=>by
  have:=xh hne hs hQ hD hN l fl (k+1) listed a (λj=>by have:=hl (j+1);simpa[Xw,XC 1 j] using this) hB hF vq h H;simpa using this
 |o::l,true::fl,k,listed,a,hl,hB,hF,ae,h,H=>by
  have h0:=by simpa using (hl 0).symm
  simp only[qf,VB,Xk] at hB;have⟨⟨⟨⟨hr,hf⟩,hRk⟩,ad⟩,b6⟩:=hB;simp only[lO,VB] at hF;have⟨F,V⟩:=hF;obtain⟨d,hd⟩:∃d,o.dst=some d:=by
   exact FX
  rw[hd] at F;simp at F;have⟨aG,bY⟩:=F;obtain⟨v,hv⟩:∃v,∀E:av,aQ E->(∀w,E w->N w)->Nonempty (aU ex W E)->YieldsIn P ops (Cl ex W E) o v a/\fu P ops (Cl ex W E) (λa'=>a'=A) l fl (a.put o.dst v):=by
   exact Ls
  have g:=xh hne hs hQ hD hN l fl (k+1) (listed.setIfInBounds k true) (a.put o.dst v) (λj=>by have:=hl (j+1);simpa[Xw,XC 1 j] using this) b6 (by rw[tW];exact V) vq (λE hE bs b8=>(hv E hE bs b8).2) H;have U:∀j oj,ops[j]?=some oj->j≠k->listed.getD j true=false->(∀e∈oj.after,Region.binds .any e=true->e.on≠k)->o.apart ops oj=true/\R j=false:=λj oj hj ab a1 a4=>by
   refine⟨Region.free_spec h0 hf j oj hj ab a1 a4,?_⟩;have h1:=VV.1 ad j (Xo.2 (Vz.1 hj).1);simp only[hj,Xt,WO,ab,false_or,a1,Xq,Xk] at h1;rcases h1 with h1|h1
   .exact h1
   .have⟨e,he,hb⟩:=Array.any_eq_true'.1 h1;simp at hb;exact absurd hb.2 (a4 e he hb.1)
  have:=ND h0 (Region.noSelect_spec hs) hQ (fuel+fl.count true) listed a D hD hN U (by simpa using hr) hRk (λE hE bs b8=>(hv E hE bs b8).1) g;simpa[Yy,Xw] using this
def B0(c:List PanicEntry)(a)(d:Option Tmp)(v)(w):NoPanic Q (.panic c) (Act.put a d v) w->NoPanic Q (.panic c) a w:=λh=>h
def bw{id}{l:List Oper}{a}{w}(ex:List Nat)(R:Nat->Bool)(N D:av)(hm:P.follows .mixedOrders=true)(h0:D w.drew)
 (h:ch P l.toArray (NoPanic Q) ex w R l.length (Array.replicate l.length false) a N D):(Code.region id l.toArray true).wp P Q a w:=by
 refine wp_region_noPanic (wp_region_any hm ?_);have:=Cs l.length (Array.replicate l.length false) a w.drew N D (ai.refl ex w).drew h0 h;simpa using this
def MU{id}{l}{a}{w}(ex:List Nat)(D:av)(hm:P.follows .mixedOrders=true)(hB:Region.lexB .any l.toArray=true)(hD:D w.drew)
 (h:Nonempty (aU ex w D)->wpQuiet P l.toArray (λw'=>∃c:aU ex w D,w'=c.wd) (λa'=>∀w',ai ex w w'->D w'->Q .normal a' w') l a):(Code.region id l.toArray true).wp P Q a w:=by
 refine wp_region_quiet (C:=λw'=>∃c:aU ex w D,w'=c.wd) hm hB ⟨⟨w.drew,(ai.refl ex w).drew,hD⟩,rfl⟩ ?_;have F:∀(H:List Oper) (a:Act),wpQuiet P l.toArray (λw'=>∃c:aU ex w D,w'=c.wd) (λa'=>∀w',ai ex w w'->D w'->Q .normal a' w') H a->
  wpQuiet P l.toArray (λw'=>∃c:aU ex w D,w'=c.wd) (λa'=>∀w',(∃c:aU ex w D,w'=c.wd)->Q .normal a' w') H a:=λH=>by
  induction H with
  |nil=>rintro a h w' ⟨c,rfl⟩;exact h _ c.over c.more
  |cons o H g=>
   exact GC
 simpa using F l a (h ⟨⟨w.drew,(ai.refl ex w).drew,hD⟩⟩)
def bR{id}{l}{a}{w}(hm:P.follows .mixedOrders=true)(hB:Region.lexB .any l.toArray=true)
 (h:wpQuiet P l.toArray (λw'=>∃c:aU [] w (λ_=>True),w'=c.wd) (λa'=>∀w',af w w w'->Q .normal a' w') l a):(Code.region id l.toArray true).wp P Q a w:=
 MU [] (λ_=>True) hm hB trivial (λ_=>by
  have F:∀(H:List Oper) (a:Act),wpQuiet P l.toArray (λw'=>∃c:aU [] w (λ_=>True),w'=c.wd) (λa'=>∀w',af w w w'->Q .normal a' w') H a->
   wpQuiet P l.toArray (λw'=>∃c:aU [] w (λ_=>True),w'=c.wd) (λa'=>∀w',ai [] w w'->True->Q .normal a' w') H a:=λH=>by
   induction H with
   |nil=>exactλa h w' Z _=>h _ Z.below
   |cons o H g=>
    exact GC
  exact F l a h)
def lw{l}{a A}{listed:Array Bool}{fuel}(hne:∃w,ai ex W w/\D w)(fl:List Bool)(f)(hD:aQ D)(hN:∀w,D w->N w)(hf:fuel=f+fl.count true)(hs:Region.noSelect l.toArray=true)
 (hB:qf l.toArray R fl 0 listed=true)(hF:lO a.tmps.size l fl=true)(ae:fl.length<=l.length)
 (h:∀E:av,aQ E->(∀w,E w->N w)->Nonempty (aU ex W E)->fu P l.toArray (λw'=>∃c:aU ex W E,w'=c.wd) (λa'=>a'=A) l fl a)
 (H:ch P l.toArray (NoPanic Q) ex W R f (mF fl 0 listed) A N D):ch P l.toArray (NoPanic Q) ex W R fuel listed a N D:=
 hf▸xh (hne.elim λw G=>⟨⟨w,G.1,G.2⟩⟩) hs B0 hD hN l fl 0 listed a s_ hB hF ae h H
def fa(P:Program)(ops:Array Oper)(Q:Exit->Act->av)(ex:List Nat)(W:World)(R:Nat->Bool)(f:Nat)(listed:Array Bool)(a:Act)(N D:av)(i:Nat):Prop:=
 ∀w,ai ex W w->D w->wpOp P ops Q i (λa' w'=>∃N' F:av,aQ F/\(∀u,F u->N' u)/\(R i=false->N'=N)/\ai ex W w'/\F w'/\ch P ops Q ex W R f (listed.setIfInBounds i true) a' N' F) a w
def am(P:Program)(ops:Array Oper)(Q:Exit->Act->av)(ex:List Nat)(W:World)(R:Nat->Bool)(f:Nat)(listed:Array Bool)(a:Act)(N D:av)(rs:List Nat):Prop:=∀i∈rs,fa P ops Q ex W R f listed a N D i
def am.nil{a}{listed:Array Bool}{f}:am P ops Q ex W R f listed a N D []:=λi hi=>by cases hi
def am.cons{a}{listed:Array Bool}{f i}{rs:List Nat}(h:fa P ops Q ex W R f listed a N D i)(hs:am P ops Q ex W R f listed a N D rs):am P ops Q ex W R f listed a N D (i::rs):=λj hj=>by
 rcases VL.1 hj with rfl|hj
 .exact h
 .exact hs j hj
def BJ{a}{listed:Array Bool}{fuel}(rs:List Nat)(f)(hf:fuel=f+1)(hr:Region.ready .any ops listed=rs)(hne:rs≠[])(h:am P ops Q ex W R f listed a N D rs):ch P ops Q ex W R fuel listed a N D:=by
 subst hf;exact⟨λh0=>absurd (hr▸h0) hne,hr▸h⟩
def xE{a}{listed:Array Bool}{f i fn:Nat}{o}{args}{v}(N' F:av)(Z:ops[i]?=some o)(G:Region.wanted o (yielded ops a.tmps)=true)
 (H:∀w,(execOp a.eval o).run P w=.ok (.enter fn args) w)(I:aQ F)(aa:∀u,F u->N' u)(hR:R i=false->N'=N)
 (hc:∀w,ai ex W w->D w->Calls P fn args w λe w'=>e=.returned v/\ai ex w w'/\F w')
 (h:(∃w,ai ex W w/\F w)->ch P ops Q ex W R f (listed.setIfInBounds i true) (a.put o.dst v) N' F):fa P ops Q ex W R f listed a N D i:=λw hO hd=>by
 unfold wpOp;simp only[Z,G,WB];refine .inl ?_;unfold Oper.wp;rw[H w];exact (hc w hO hd).mono λe w' ⟨he,V,K⟩=>by subst he;exact⟨N',F,I,aa,hR,hO.trans V,K,h ⟨w',hO.trans V,K⟩⟩
def jp{a}{listed:Array Bool}(hr:Region.ready .any ops listed=[])(h:∀w,ai ex W w->D w->Q .normal a w):∀fuel,ch P ops Q ex W R fuel listed a N D
 |0=>⟨hr,h⟩
 |_+1=>⟨λ_=>h,λi hi=>by rw[hr] at hi;cases hi⟩
end
def ah(r:Nat)(cs:Array Value)(T:TypeId)(w:World):Prop:=w.heap[r]?=some (.cells cs T (0,0))
def ah.lt{r}{cs}{T}{w}(h:ah r cs T w):r<w.heap.size:=(Vz.1 h).1
def ah.closed(r)(cs)(T):aQ (ah r cs T):=λ_ _ h hb=>(hb.block r (ah.lt h)).trans h
def ah.cell{r}{cs}{T}{w}(h:ah r cs T w)(o):w.cell? ⟨r,o,none⟩=cs[o]?:=by
 unfold ah at h;simp [World.cell?,h]
def ah.frozen{r}{cs}{T}{w}(h:ah r cs T w)(o):w.frozen? ⟨r,o,none⟩=false:=by
 unfold ah at h;simp [World.frozen?,h]
def ah.f2{r T:Nat}{cs:Array Value}{w:World}(h:ah r cs T w):w.frozen? ⟨r,0,none⟩=false/\w.frozen? ⟨r,1,none⟩=false:=⟨h.frozen 0,h.frozen 1⟩
def ah.f3{r T:Nat}{cs:Array Value}{w:World}(h:ah r cs T w):w.frozen? ⟨r,0,none⟩=false/\w.frozen? ⟨r,1,none⟩=false/\w.frozen? ⟨r,2,none⟩=false:=⟨h.frozen 0,h.frozen 1,h.frozen 2⟩
def ah.f4{r T:Nat}{cs:Array Value}{w:World}(h:ah r cs T w):w.frozen? ⟨r,0,none⟩=false/\w.frozen? ⟨r,1,none⟩=false/\w.frozen? ⟨r,2,none⟩=false/\w.frozen? ⟨r,3,none⟩=false:=⟨h.frozen 0,h.frozen 1,h.frozen 2,h.frozen 3⟩
def ah.f5{r T:Nat}{cs:Array Value}{w:World}(h:ah r cs T w):w.frozen? ⟨r,0,none⟩=false/\w.frozen? ⟨r,1,none⟩=false/\w.frozen? ⟨r,2,none⟩=false/\w.frozen? ⟨r,3,none⟩=false/\w.frozen? ⟨r,4,none⟩=false:=⟨h.frozen 0,h.frozen 1,h.frozen 2,h.frozen 3,h.frozen 4⟩
def ah.f6{r T:Nat}{cs:Array Value}{w:World}(h:ah r cs T w):w.frozen? ⟨r,0,none⟩=false/\w.frozen? ⟨r,1,none⟩=false/\w.frozen? ⟨r,2,none⟩=false/\w.frozen? ⟨r,3,none⟩=false/\w.frozen? ⟨r,4,none⟩=false/\w.frozen? ⟨r,5,none⟩=false:=⟨h.frozen 0,h.frozen 1,h.frozen 2,h.frozen 3,h.frozen 4,h.frozen 5⟩
def ah.f7{r T:Nat}{cs:Array Value}{w:World}(h:ah r cs T w):w.frozen? ⟨r,0,none⟩=false/\w.frozen? ⟨r,1,none⟩=false/\w.frozen? ⟨r,2,none⟩=false/\w.frozen? ⟨r,3,none⟩=false/\w.frozen? ⟨r,4,none⟩=false/\w.frozen? ⟨r,5,none⟩=false/\w.frozen? ⟨r,6,none⟩=false:=⟨h.frozen 0,h.frozen 1,h.frozen 2,h.frozen 3,h.frozen 4,h.frozen 5,h.frozen 6⟩
def ah.new(w:World)(cs)(T):ah w cs T (w.alloc (.cells cs T)):=by
 show (w.heap.push _)[w.heap.size]?=_;simp
def ah.next{r}{cs}{T}{w w'}(h:ah r cs T w)(hb:af w w w'):ah r cs T w':=ah.closed r cs T _ _ h hb
def ah.alloc{r}{cs}{T}{w}(h:ah r cs T w)(o:Obj):ah r cs T (w.alloc o):=h.next ((Vn _ _).alloc (Vj _) o)
def ah.drew{r}{cs}{T}{w}(h:ah r cs T w):ah r cs T w.drew:=h
def ah.drewN{r}{cs}{T}{w}(h:ah r cs T w)(n):ah r cs T (w.drewN n):=h
def ah.far{r}{cs}{T}{w}(h:ah r cs T w){p}(G:r≠p.block)(v):ah r cs T (w.setCell p v):=(Below.heap_setCell _ _ _ _ G).trans h
def ah.set{r}{cs}{T}{w}(h:ah r cs T w)(o)(v):ah r (cs.setIfInBounds o v) T (w.setCell ⟨r,o,none⟩ v):=by
 unfold ah at h ⊢;simp [World.setCell,Array.getElem?_modify,h]
def ah.over{ex:List Nat}{W w}{r}{cs}{T}(h:ah r cs T W)(Z:ai ex W w)(hr:r∉ex):ah r cs T w:=(Z.block r (ah.lt h) hr).trans h
section
variable {P:Program}{ops:Array Oper}{Q:Exit->Act->av}{ex:List Nat}{W:World}{R:Nat->Bool}{N D:av}
end
def bU(L:List (Nat×Array Value×TypeId))(w:World):Prop:=∀x∈L,ah x.1 x.2.1 x.2.2 w
def bU.closed(L:List (Nat×Array Value×TypeId)):aQ (bU L):=λ_ _ h hb x hx=>ah.closed _ _ _ _ _ (h x hx) hb
def bU.over{ex:List Nat}{L:List (Nat×Array Value×TypeId)}{w w'}(h:bU L w)(Z:ai ex w w')(hn:∀x∈L,x.1∉ex):bU L w':=λx hx=>(h x hx).over Z (hn x hx)
def bU.cons{L:List (Nat×Array Value×TypeId)}{r}{cs}{T}{w}(h:ah r cs T w)(hs:bU L w):bU ((r,cs,T)::L) w:=λx hx=>by
 rcases VL.1 hx with rfl|hx
 .exact h
 .exact hs x hx
def bU.head{L:List (Nat×Array Value×TypeId)}{r}{cs}{T}{w}(h:bU ((r,cs,T)::L) w):ah r cs T w:=h (r,cs,T) s_
def bU.tail{L:List (Nat×Array Value×TypeId)}{x:Nat×Array Value×TypeId}{w}(h:bU (x::L) w):bU L w:=λy hy=>h y (by simp [hy])
def bU.nil(w):bU [] w:=λx hx=>by cases hx
def mI:Value->Bool
 |.agg _=>false
 |.tuple _=>false
 |_=>true
theorem Bt{P}{r}{T}:∀(vs old) (pre) (w),vs.length=old.length->(∀v∈vs,mI v=true)->ah r (pre++old).toArray T w->
 ∃w',(storeCells ⟨r,0,none⟩ vs pre.length).run P w=.ok () w'/\ai [r] w w'/\ah r (pre++vs).toArray T w'
 |[],[],pre,w,_,_,h=>⟨w,rfl,ai.refl _ _,h⟩
 |[],_::_,_,_,hl,_,_=>by simp at hl
 |_::_,[],_,_,hl,_,_=>by simp at hl
 |v::vs,o::old,pre,w,hl,hv,h=>by
  have hc:w.cell? ⟨r,pre.length,none⟩=some o:=by rw[h.cell];simp
  have hf:=h.frozen pre.length;have h1:=by
   have:=h.set pre.length v;have e:((pre++o::old).toArray.setIfInBounds pre.length v)=((pre++[v])++old).toArray:=by simp
   rw[e] at this;exact this
  have⟨w',hr,Z,hb⟩:=Bt (P:=P) vs old (pre++[v]) (w.setCell ⟨r,pre.length,none⟩ v) (by simpa using hl) (λu hu=>hv u (by simp [hu])) h1;refine⟨w',?_,ai.trans (ai.setCell (ai.refl _ _) (.inr s_) v) Z,by simpa using hb⟩;have e2:(⟨r,0,none⟩:Addr).add pre.length=⟨r,pre.length,none⟩:=by cases pre<;>simp [Addr.add]
  simp only[storeCells,e2];have bv:=hv v s_;rw[show (pre++[v]).length=pre.length+1 by simp] at hr;cases v<;>first
   |(simp [mI] at bv;done)
   |(show Sem.run P (Sem.bind (store _ _) _) w=_
     simp only[store,Sem.bind,Sem.run,hc,hf,Xq,Zt];exact hr)
def BC{P}{r}{T}{zs}{v}{w}(hs:∀w,(sizeOf T).run P w=.ok zs.size w)(hl:v.cells.size=zs.size)(hv:∀u∈v.cells.toList,mI u=true)(h:ah r zs T w):
 ∃w',(Instr.storeAt T (.pointer r) v).run P w=.ok () w'/\ai [r] w w'/\ah r v.cells T w':=by
 obtain⟨w',h1,h2,h3⟩:=Bt (P:=P) v.cells.toList zs.toList [] w (by simpa using hl) hv kH;refine⟨w',?_,h2,by simpa using h3⟩;simp [Instr.storeAt,Instr.sureAddr,storeVar,(hs w),hl];simpa using h1
section
variable {P:Program}{id:Nat}{ops:Array Oper}{b:Bool}{Q:Exit->Act->av}{a:Act}{w:World}
def fZ{A:Nat->Act}(F:Nat->av)(h1:(∀r W1,F r W1->Q .normal (A r) W1)->(Code.region id ops b).wp P Q a w)(h2:∀r W1,F r W1->Q .normal (A r) W1):(Code.region id ops b).wp P Q a w:=h1 h2
def tv{A:Nat->Nat->Act}(F:Nat->Nat->av)(h1:(∀r s W1,F r s W1->Q .normal (A r s) W1)->(Code.region id ops b).wp P Q a w)(h2:∀r s W1,F r s W1->Q .normal (A r s) W1):(Code.region id ops b).wp P Q a w:=h1 h2
end
def KD(C:av)(L:List (Nat×Array Value×TypeId)):av:=λw=>C w/\bU L w
def KD.closed{C:av}(h:aQ C)(L:List (Nat×Array Value×TypeId)):aQ (KD C L):=h.and (bU.closed L)
section
variable {P:Program}{ops:Array Oper}{Q:Exit->Act->av}{ex:List Nat}{W:World}{C:av}{L:List (Nat×Array Value×TypeId)}
def Oo{a}{listed:Array Bool}{f i d:Nat}{o}{zs}{T}(Z:ops[i]?=some o)(G:Region.wanted o (yielded ops a.tmps)=true)(hd:o.dst=some d)
 (H:∀w,(execOp a.eval o).run P w=.ok (.value (.pointer w)) (w.alloc (.cells zs T)))(hC:aQ C)
 (h:∀r,W.heap.size<=r->(∀x∈L,x.1<r)->(∃w,ai ex W w/\KD C ((r,zs,T)::L) w)->ch P ops Q ex W (λ_=>false) f (listed.setIfInBounds i true) (a.put (some d) (.pointer r)) (λ_=>True) (KD C ((r,zs,T)::L))):
 fa P ops Q ex W (λ_=>false) f listed a (λ_=>True) (KD C L) i:=λw hO K=>by
 unfold wpOp;simp only[Z,G,WB];refine .inl ?_;unfold Oper.wp;rw[H w];simp only[Oper.upon,hd];have h1:KD C ((w.heap.size,zs,T)::L) (w.alloc (.cells zs T)):=by
  have hk:=KD.closed hC L _ _ K ((Vn _ _).alloc (Vj _) (.cells zs T));exact⟨hk.1,bU.cons (ah.new w zs T) hk.2⟩
 exact⟨λ_=>True,KD C ((w.heap.size,zs,T)::L),KD.closed hC _,λ_ _=>trivial,λ_=>rfl,hO.alloc _,h1,h w hO.size (λx hx=>(K.2 x hx).lt) ⟨_,hO.alloc _,h1⟩⟩
def OS{a}{listed:Array Bool}{f i fn:Nat}{o}{args}{v}(dd:Option Tmp)(g:av)(Z:ops[i]?=some o)(G:Region.wanted o (yielded ops a.tmps)=true)
 (bi:o.dst=dd)(H:∀w,(execOp a.eval o).run P w=.ok (.enter fn args) w)(F:aQ g)(hL:∀x∈L,x.1∉ex)
 (hc:∀w,C w->Calls P fn args w λe w'=>e=.returned v/\ai ex w w'/\g w')
 (h:(∃w,ai ex W w/\KD g L w)->ch P ops Q ex W (λ_=>false) f (listed.setIfInBounds i true) (a.put dd v) (λ_=>True) (KD g L)):
 fa P ops Q ex W (λ_=>false) f listed a (λ_=>True) (KD C L) i:=
 xE (λ_=>True) (KD g L) Z G H (KD.closed F L) (λ_ _=>trivial) (λ_=>rfl)
  (λw _ hd=>(hc w hd.1).mono λ_ _ ⟨he,V,a2⟩=>⟨he,V,a2,hd.2.over V hL⟩) (by rw[bi];exact h)
def Oz{a}{listed:Array Bool}{f i r}{o}{zs}{T}{x y}{v}(g F:List (Nat×Array Value×TypeId))(Z:ops[i]?=some o)(G:Region.wanted o (yielded ops a.tmps)=true)
 (aL:o.op=.store T x y)(K:o.dst=none)(hx:a.eval x=.pointer r)(hy:a.eval y=v)(a6:∀w,(sizeOf T).run P w=.ok zs.size w)(hl:v.cells.size=zs.size)(hv:∀u∈v.cells.toList,mI u=true)
 (hr:W.heap.size<=r\/r∈ex)(hC:aQ C)(J:∀w w',C w->ai [r] w w'->C w')(hL:∀x∈g++F,x.1≠r)
 (h:(∃w,ai ex W w/\KD C (g++(r,v.cells,T)::F) w)->ch P ops Q ex W (λ_=>false) f (listed.setIfInBounds i true) a (λ_=>True) (KD C (g++(r,v.cells,T)::F))):
 fa P ops Q ex W (λ_=>false) f listed a (λ_=>True) (KD C (g++(r,zs,T)::F)) i:=λw hO hd=>by
 unfold wpOp;simp only[Z,G,WB];refine .inl ?_;have⟨w',h1,h2,h3⟩:=BC (P:=P) a6 hl hv (hd.2 (r,zs,T) s_);have H:(execOp a.eval o).run P w=.ok .skip w':=by
  unfold execOp;rw[aL];simp only[hx,hy];simp [h1]
 unfold Oper.wp;rw[H];simp only[Oper.upon,K,Act.put];have V:ai ex W w':=⟨h2.os.trans hO.os,h2.tape.trans hO.tape,h2.output.trans hO.output,Vl hO.size h2.size,λk hk hn=>(h2.block k (Vp hk hO.size) (by
  intro U;rw[VE] at U;subst U;rcases hr with hr|hr
  .omega
  .exact hn hr)).trans (hO.block k hk hn)⟩
 have I:KD C (g++(r,v.cells,T)::F) w':=⟨J _ _ hd.1 h2,λz hz=>by
  rw[Wy,VL] at hz;rcases hz with hz|rfl|hz
  .exact (hd.2 z (by simp [hz])).over h2 (by simpa using hL z (by simp [hz]))
  .exact h3
  .exact (hd.2 z (by simp [hz])).over h2 (by simpa using hL z (by simp [hz]))⟩
 exact⟨λ_=>True,_,KD.closed hC _,λ_ _=>trivial,λ_=>rfl,V,I,h ⟨w',V,I⟩⟩
end
def ao:aQ (λ_=>True):=aQ.true
def aK{r T:Nat}{cs:Array Value}:aQ (ah r cs T):=ah.closed _ _ _
def ai.belowGe{ex:List Nat}{B}{a W w}(h:ai ex W w)(hB:af B a W)(hs:B<=W.heap.size)(hx:∀k∈ex,B<=k):af B a w:=
 ⟨h.os.trans hB.os,h.tape.trans hB.tape,h.output.trans hB.output,Vl hB.size h.size,λk hk=>(h.block k (Vp hk hs) (λhm=>by have:=hx k hm;omega)).trans (hB.block k hk)⟩
section
variable {P:Program}{ops:Array Oper}{Q:Exit->Act->av}{ex:List Nat}{W:World}{D:av}
def Og{a}{listed:Array Bool}{f i fn:Nat}{o}{args}(dd:Option Tmp)(F:Value->av)(Z:ops[i]?=some o)(G:Region.wanted o (yielded ops a.tmps)=true)
 (bi:o.dst=dd)(H:∀w,(execOp a.eval o).run P w=.ok (.enter fn args) w)(I:∀v,aQ (F v))
 (hc:∀w,ai ex W w->D w->Calls P fn args w λe w'=>∃v,e=.returned v/\ai ex w w'/\F v w')
 (h:∀v,(∃w,ai ex W w/\F v w)->ch P ops Q ex W (λ_=>false) f (listed.setIfInBounds i true) (a.put dd v) (λ_=>True) (F v)):
 fa P ops Q ex W (λ_=>false) f listed a (λ_=>True) D i:=λw hO hd=>by
 unfold wpOp;simp only[Z,G,WB];refine .inl ?_;unfold Oper.wp;rw[H w];refine (hc w hO hd).mono λe w' ⟨v,he,V,K⟩=>?_;subst he;rw[bi];exact⟨λ_=>True,F v,I v,λ_ _=>trivial,λ_=>rfl,hO.trans V,K,h v ⟨w',hO.trans V,K⟩⟩
def mf{a}{listed:Array Bool}{f i fn:Nat}{o}{args}{v}(dd:Option Tmp)(F:av)(Z:ops[i]?=some o)(G:Region.wanted o (yielded ops a.tmps)=true)
 (bi:o.dst=dd)(H:∀w,(execOp a.eval o).run P w=.ok (.enter fn args) w)(I:aQ F)
 (hc:∀w,ai ex W w->D w->Calls P fn args w λe w'=>e=.returned v/\ai ex w w'/\F w')
 (h:(∃w,ai ex W w/\F w)->ch P ops Q ex W (λ_=>false) f (listed.setIfInBounds i true) (a.put dd v) (λ_=>True) F):
 fa P ops Q ex W (λ_=>false) f listed a (λ_=>True) D i:=
 xE (λ_=>True) F Z G H I (λ_ _=>trivial) (λ_=>rfl) hc (by rw[bi];exact h)
def OB{a}{listed:Array Bool}{f i}{o}(r)(zs){T}{x y}{v}(F:av)(Z:ops[i]?=some o)(G:Region.wanted o (yielded ops a.tmps)=true)
 (aL:o.op=.store T x y)(K:o.dst=none)(hx:a.eval x=.pointer r)(hy:a.eval y=v)(a6:∀w,(sizeOf T).run P w=.ok zs.size w)(hl:v.cells.size=zs.size)(hv:∀u∈v.cells.toList,mI u=true)
 (hr:W.heap.size<=r\/r∈ex)(hB:∀w,D w->ah r zs T w)(I:aQ F)(J:∀w w',D w->ai [r] w w'->ah r v.cells T w'->F w')
 (h:(∃w,ai ex W w/\F w)->ch P ops Q ex W (λ_=>false) f (listed.setIfInBounds i true) a (λ_=>True) F):
 fa P ops Q ex W (λ_=>false) f listed a (λ_=>True) D i:=λw hO hd=>by
 unfold wpOp;simp only[Z,G,WB];refine .inl ?_;have⟨w',h1,h2,h3⟩:=BC (P:=P) a6 hl hv (hB w hd);have H:(execOp a.eval o).run P w=.ok .skip w':=by
  unfold execOp;rw[aL];simp only[hx,hy];simp [h1]
 unfold Oper.wp;rw[H];simp only[Oper.upon,K,Act.put];have V:ai ex W w':=⟨h2.os.trans hO.os,h2.tape.trans hO.tape,h2.output.trans hO.output,Vl hO.size h2.size,λk hk hn=>(h2.block k (Vp hk hO.size) (by
  intro U;rw[VE] at U;subst U;rcases hr with hr|hr
  .omega
  .exact hn hr)).trans (hO.block k hk hn)⟩
 exact⟨λ_=>True,F,I,λ_ _=>trivial,λ_=>rfl,V,J _ _ hd h2 h3,h ⟨w',V,J _ _ hd h2 h3⟩⟩
def me{D D2 N:av}{R:Nat->Bool}(h:∀w,D w->D2 w):∀{f} {l:Array Bool} {a},ch P ops Q ex W R f l a N D2->ch P ops Q ex W R f l a N D
 |0,_,_,k=>⟨k.1,λw Z hd=>k.2 w Z (h w hd)⟩
 |_+1,_,_,k=>⟨λh0 w Z hd=>k.1 h0 w Z (h w hd),λi hi w Z hd=>k.2 i hi w Z (h w hd)⟩
end
def ay(w:World)(c0)(g):ah w c0 g (w.alloc (.cells c0 g))/\af w w (w.alloc (.cells c0 g)):=⟨ah.new _ _ _,(Vn _ _).alloc (Vj _) _⟩
def nw(w:World)(c0)(g)(c1)(F):ah w c0 g ((w.alloc (.cells c0 g)).alloc (.cells c1 F))/\ah (w.alloc (.cells c0 g)).heap.size c1 F ((w.alloc (.cells c0 g)).alloc (.cells c1 F))/\af w w ((w.alloc (.cells c0 g)).alloc (.cells c1 F)):=⟨(ah.new _ _ _).alloc _,ah.new _ _ _,((Vn _ _).alloc (Vj _) _).alloc (by simp;try omega) _⟩
def cO(w:World)(c0)(g)(c1)(F):ah w c0 g ((w.alloc (.cells c0 g)).alloc (.cells c1 F))/\ah (w.heap.size+1) c1 F ((w.alloc (.cells c0 g)).alloc (.cells c1 F))/\af w w ((w.alloc (.cells c0 g)).alloc (.cells c1 F)):=by
 have h:=nw w c0 g c1 F;simp at h;exact h
def qo(w:World)(c0)(g)(c1)(F)(c2)(G):ah w c0 g (((w.alloc (.cells c0 g)).alloc (.cells c1 F)).alloc (.cells c2 G))/\ah (w.alloc (.cells c0 g)).heap.size c1 F (((w.alloc (.cells c0 g)).alloc (.cells c1 F)).alloc (.cells c2 G))/\ah ((w.alloc (.cells c0 g)).alloc (.cells c1 F)).heap.size c2 G (((w.alloc (.cells c0 g)).alloc (.cells c1 F)).alloc (.cells c2 G))/\af w w (((w.alloc (.cells c0 g)).alloc (.cells c1 F)).alloc (.cells c2 G)):=⟨((ah.new _ _ _).alloc _).alloc _,(ah.new _ _ _).alloc _,ah.new _ _ _,(((Vn _ _).alloc (Vj _) _).alloc (by simp;try omega) _).alloc (by simp;try omega) _⟩
def fv(w:World)(c0)(g)(c1)(F)(c2)(G):ah w c0 g (((w.alloc (.cells c0 g)).alloc (.cells c1 F)).alloc (.cells c2 G))/\ah (w.heap.size+1) c1 F (((w.alloc (.cells c0 g)).alloc (.cells c1 F)).alloc (.cells c2 G))/\ah (w.heap.size+1+1) c2 G (((w.alloc (.cells c0 g)).alloc (.cells c1 F)).alloc (.cells c2 G))/\af w w (((w.alloc (.cells c0 g)).alloc (.cells c1 F)).alloc (.cells c2 G)):=by
 have h:=qo w c0 g c1 F c2 G;simp at h;exact h
def U8(w:World)(c0)(g)(c1)(F)(c2)(G)(c3)(H):ah w c0 g ((((w.alloc (.cells c0 g)).alloc (.cells c1 F)).alloc (.cells c2 G)).alloc (.cells c3 H))/\ah (w.alloc (.cells c0 g)).heap.size c1 F ((((w.alloc (.cells c0 g)).alloc (.cells c1 F)).alloc (.cells c2 G)).alloc (.cells c3 H))/\ah ((w.alloc (.cells c0 g)).alloc (.cells c1 F)).heap.size c2 G ((((w.alloc (.cells c0 g)).alloc (.cells c1 F)).alloc (.cells c2 G)).alloc (.cells c3 H))/\ah (((w.alloc (.cells c0 g)).alloc (.cells c1 F)).alloc (.cells c2 G)).heap.size c3 H ((((w.alloc (.cells c0 g)).alloc (.cells c1 F)).alloc (.cells c2 G)).alloc (.cells c3 H))/\af w w ((((w.alloc (.cells c0 g)).alloc (.cells c1 F)).alloc (.cells c2 G)).alloc (.cells c3 H)):=⟨(((ah.new _ _ _).alloc _).alloc _).alloc _,((ah.new _ _ _).alloc _).alloc _,(ah.new _ _ _).alloc _,ah.new _ _ _,((((Vn _ _).alloc (Vj _) _).alloc (by simp;try omega) _).alloc (by simp;try omega) _).alloc (by simp;try omega) _⟩
def Bb(w:World)(c0)(g)(c1)(F)(c2)(G)(c3)(H):ah w c0 g ((((w.alloc (.cells c0 g)).alloc (.cells c1 F)).alloc (.cells c2 G)).alloc (.cells c3 H))/\ah (w.heap.size+1) c1 F ((((w.alloc (.cells c0 g)).alloc (.cells c1 F)).alloc (.cells c2 G)).alloc (.cells c3 H))/\ah (w.heap.size+1+1) c2 G ((((w.alloc (.cells c0 g)).alloc (.cells c1 F)).alloc (.cells c2 G)).alloc (.cells c3 H))/\ah (w.heap.size+1+1+1) c3 H ((((w.alloc (.cells c0 g)).alloc (.cells c1 F)).alloc (.cells c2 G)).alloc (.cells c3 H))/\af w w ((((w.alloc (.cells c0 g)).alloc (.cells c1 F)).alloc (.cells c2 G)).alloc (.cells c3 H)):=by
 have h:=U8 w c0 g c1 F c2 G c3 H;simp at h;exact h
def Va(w:World)(c0)(g)(c1)(F)(c2)(G)(c3)(H)(c4)(I):ah w c0 g (((((w.alloc (.cells c0 g)).alloc (.cells c1 F)).alloc (.cells c2 G)).alloc (.cells c3 H)).alloc (.cells c4 I))/\ah (w.alloc (.cells c0 g)).heap.size c1 F (((((w.alloc (.cells c0 g)).alloc (.cells c1 F)).alloc (.cells c2 G)).alloc (.cells c3 H)).alloc (.cells c4 I))/\ah ((w.alloc (.cells c0 g)).alloc (.cells c1 F)).heap.size c2 G (((((w.alloc (.cells c0 g)).alloc (.cells c1 F)).alloc (.cells c2 G)).alloc (.cells c3 H)).alloc (.cells c4 I))/\ah (((w.alloc (.cells c0 g)).alloc (.cells c1 F)).alloc (.cells c2 G)).heap.size c3 H (((((w.alloc (.cells c0 g)).alloc (.cells c1 F)).alloc (.cells c2 G)).alloc (.cells c3 H)).alloc (.cells c4 I))/\ah ((((w.alloc (.cells c0 g)).alloc (.cells c1 F)).alloc (.cells c2 G)).alloc (.cells c3 H)).heap.size c4 I (((((w.alloc (.cells c0 g)).alloc (.cells c1 F)).alloc (.cells c2 G)).alloc (.cells c3 H)).alloc (.cells c4 I))/\af w w (((((w.alloc (.cells c0 g)).alloc (.cells c1 F)).alloc (.cells c2 G)).alloc (.cells c3 H)).alloc (.cells c4 I)):=⟨((((ah.new _ _ _).alloc _).alloc _).alloc _).alloc _,(((ah.new _ _ _).alloc _).alloc _).alloc _,((ah.new _ _ _).alloc _).alloc _,(ah.new _ _ _).alloc _,ah.new _ _ _,(((((Vn _ _).alloc (Vj _) _).alloc (by simp;try omega) _).alloc (by simp;try omega) _).alloc (by simp;try omega) _).alloc (by simp;try omega) _⟩
def U_(w:World)(c0)(g)(c1)(F)(c2)(G)(c3)(H)(c4)(I):ah w c0 g (((((w.alloc (.cells c0 g)).alloc (.cells c1 F)).alloc (.cells c2 G)).alloc (.cells c3 H)).alloc (.cells c4 I))/\ah (w.heap.size+1) c1 F (((((w.alloc (.cells c0 g)).alloc (.cells c1 F)).alloc (.cells c2 G)).alloc (.cells c3 H)).alloc (.cells c4 I))/\ah (w.heap.size+1+1) c2 G (((((w.alloc (.cells c0 g)).alloc (.cells c1 F)).alloc (.cells c2 G)).alloc (.cells c3 H)).alloc (.cells c4 I))/\ah (w.heap.size+1+1+1) c3 H (((((w.alloc (.cells c0 g)).alloc (.cells c1 F)).alloc (.cells c2 G)).alloc (.cells c3 H)).alloc (.cells c4 I))/\ah (w.heap.size+1+1+1+1) c4 I (((((w.alloc (.cells c0 g)).alloc (.cells c1 F)).alloc (.cells c2 G)).alloc (.cells c3 H)).alloc (.cells c4 I))/\af w w (((((w.alloc (.cells c0 g)).alloc (.cells c1 F)).alloc (.cells c2 G)).alloc (.cells c3 H)).alloc (.cells c4 I)):=by
 have h:=Va w c0 g c1 F c2 G c3 H c4 I;simp at h;exact h
section
variable {P:Program}{ops:Array Oper}{Q:Exit->Act->av}{ex:List Nat}{W:World}{R:Nat->Bool}{N D:av}
def Ni{i}{oi}{v}(B:Nat->Bool)(hi:ops[i]?=some oi)(Z:∀(j:Nat) (o) cs b,ops[j]?=some o->o.op≠.select cs b)
 (hQ:∀c a d v w,Q (.panic c) (Act.put a d v) w->Q (.panic c) a w)(hB:∀j oj,ops[j]?=some oj->B j=true->∃e∈oj.after,Region.binds .any e=true/\(e.on=i\/B e.on=true)):
 ∀(fuel) (listed:Array Bool) (a) (D:av),aQ D->(∀w,D w->N w)->
  (∀j,B j=true->listed.getD j true=false)->
  (∀j oj,ops[j]?=some oj->j≠i->listed.getD j true=false->(∀e∈oj.after,Region.binds .any e=true->e.on≠i)->oi.apart ops oj=true/\(B j=false->R j=false))->
  i∈Region.ready .any ops listed->R i=false->B i=false->jW P ops ex W N oi v a->
  ch P ops Q ex W R fuel (listed.setIfInBounds i true) (a.put oi.dst v) N D->ch P ops Q ex W R (fuel+1) listed a N D:=by
 intro fuel
 induction fuel with
 |zero=>
  intro listed a D hD hN _ _ hr hR _ hy H;exact Kg
 |succ fuel g=>
  intro listed a D hD hN aX U hr hR a5 hy H;refine⟨λh=>zY,λj hj w hO hd=>?_⟩;by_cases ac:j=i
  .exact Gi
  .have⟨ae,oj,aZ,az⟩:=Zk.1 hj;have a7:∀m,listed.getD m true=true\/listed.getD m true=false:=λm=>by cases listed.getD m true<;>simp
   have cB:∀m,listed.getD m false=true->listed.getD m true=true:=λm h=>by
    rcases Wv m listed.size with J|J
    .simpa[J] using h
    .simp [Yr J] at h
   have ax:∀e∈oj.after,Region.binds .any e=true->e.on≠i:=λe he hb a3=>by
    exact Hb
   have aM:B j=false:=by
    cases hb:B j
    .rfl
    .have⟨e,he,a2,h9⟩:=hB j oj aZ hb;rcases h9 with h9|h9
     .exact absurd h9 (ax e he a2)
     .have h8:=cB _ (az e he a2);rw[aX _ h9] at h8;cases h8
   have⟨aF,ad⟩:=U j oj aZ ac ae ax;have h2:=BQ aZ aF (λcs b=>Z i oi cs b hi) (λcs b=>Z j oj cs b aZ) (λc a w=>hQ c a _ _ w) hy (H.2 j (Y3 hj ac) w hO hd);have G:∀k ok,ops[k]?=some ok->k≠i->(listed.setIfInBounds j true).getD k true=false->
    (∀e∈ok.after,Region.binds .any e=true->e.on≠i)->oi.apart ops ok=true/\(B k=false->R k=false):=λk ok hk co a1 a4=>by
    exact FP
   refine YN (λa' w' h3=>?_) h2;have⟨aG,N',F,I,aa,aL,V,K,h4⟩:=h3;obtain rfl:=aL (ad aM);refine⟨_,F,I,aa,λ_=>rfl,V,K,g (listed.setIfInBounds j true) a' F I aa (λb hb=>?_) G (Y3 hr (Ne.symm ac)) hR a5 aG ?_⟩
   .have a6:j≠b:=by rintro rfl;rw[aM] at hb;cases hb
    rw[getD_set_ne true a6];exact aX b hb
   .rw[Array.setIfInBounds_comm _ _ ac];exact h4
def pM(ops:Array Oper)(k:Nat):List Nat:=(List.range ops.size).foldl (λB j=>match ops[j]? with|some oj=>if j != k&&oj.after.any (λe=>Region.binds .any e&&(e.on==k||B.contains e.on)) then B++[j] else B|none=>B) []
def DS(ops:Array Oper)(listed:Array Bool)(k:Nat)(B:List Nat):Bool:=!B.contains k&&B.all λj=>!listed.getD j true&&match ops[j]? with|some oj=>oj.after.any (λe=>Region.binds .any e&&(e.on==k||B.contains e.on))|none=>false
def pK(ops:Array Oper)(R:Nat->Bool):List Bool->Nat->Array Bool->Bool
 |true::fl,k,listed=>(Region.ready .any ops listed).contains k&&Region.free .any ops listed k&&!R k&&DS ops listed k (pM ops k)&&
   ((List.range ops.size).all λj=>j==k||listed.getD j true||!R j||(pM ops k).contains j)&&
   pK ops R fl (k+1) (listed.setIfInBounds k true)
 |false::fl,k,listed=>pK ops R fl (k+1) listed
 |[],_,_=>true
theorem xc{A}(hne:Nonempty (aU ex W D))(hs:Region.noSelect ops=true)(hQ:∀c a d v w,Q (.panic c) (Act.put a d v) w->Q (.panic c) a w){fuel}(hD:aQ D)(hN:∀w,D w->N w):
 ∀(l) (fl:List Bool) (k) (listed:Array Bool) (a),(∀j,l[j]?=ops[k+j]?)->
  pK ops R fl k listed=true->lO a.tmps.size l fl=true->fl.length<=l.length->
  (∀E:av,aQ E->(∀w,E w->N w)->Nonempty (aU ex W E)->fu P ops (Cl ex W E) (λa'=>a'=A) l fl a)->
  ch P ops Q ex W R fuel (mF fl k listed) A N D->ch P ops Q ex W R (fuel+fl.count true) listed a N D
 |_,[],_,listed,a,_,_,_,_,h,H=>by
  exact GR
 |[],_::_,_,_,_,_,_,_,ae,_,_=>by simp at ae
 |o::l,false::fl,k,listed,a,hl,hB,hF,ae,h,H=>by
  have:=xc hne hs hQ hD hN l fl (k+1) listed a (λj=>by have:=hl (j+1);simpa[Xw,XC 1 j] using this) hB hF vq h H;simpa using this
 |o::l,true::fl,k,listed,a,hl,hB,hF,ae,h,H=>by
  have h0:=by simpa using (hl 0).symm
  simp only[pK,VB,Xk] at hB;have⟨⟨⟨⟨⟨hr,hf⟩,hRk⟩,a2⟩,ad⟩,b6⟩:=hB;simp only[lO,VB] at hF;have⟨F,V⟩:=hF;obtain⟨d,hd⟩:∃d,o.dst=some d:=by
   exact FX
  rw[hd] at F;simp at F;have⟨aG,bY⟩:=F;obtain⟨v,hv⟩:∃v,∀E:av,aQ E->(∀w,E w->N w)->Nonempty (aU ex W E)->YieldsIn P ops (Cl ex W E) o v a/\fu P ops (Cl ex W E) (λa'=>a'=A) l fl (a.put o.dst v):=by
   exact Ls
  have g:=xc hne hs hQ hD hN l fl (k+1) (listed.setIfInBounds k true) (a.put o.dst v) (λj=>by have:=hl (j+1);simpa[Xw,XC 1 j] using this) b6 (by rw[tW];exact V) vq (λE hE bs b8=>(hv E hE bs b8).2) H;unfold DS at a2;simp only[VB,Xk,VV] at a2;have⟨aa,Z⟩:=a2;have J:∀j,(pM ops k).contains j=true->j∈pM ops k:=λj h=>by simpa using h
  have U:∀j oj,ops[j]?=some oj->j≠k->listed.getD j true=false->(∀e∈oj.after,Region.binds .any e=true->e.on≠k)->o.apart ops oj=true/\((pM ops k).contains j=false->R j=false):=λj oj hj ab a1 a4=>by
   refine⟨Region.free_spec h0 hf j oj hj ab a1 a4,λhb=>?_⟩;have h1:=VV.1 ad j (Xo.2 (Vz.1 hj).1);simp only[Xt,WO,ab,false_or,a1,Xq,Xk,hb,or_false] at h1;exact h1
  have:=Ni (λj=>(pM ops k).contains j) h0 (Region.noSelect_spec hs) hQ
   (λj oj hj hb=>by
     have h1:=(Z j (J j hb)).2;rw[hj] at h1;have⟨e,he,h2⟩:=Array.any_eq_true'.1 h1;simp only[VB,Xt,WO] at h2;exact⟨e,he,h2.1,h2.2⟩)
   (fuel+fl.count true) listed a D hD hN (λj hb=>(Z j (J j hb)).1) U (by simpa using hr) hRk aa (λE hE bs b8=>(hv E hE bs b8).1) g
  simpa[Yy,Xw] using this
def jT{l}{a A}{listed:Array Bool}{fuel}(hne:∃w,ai ex W w/\D w)(fl:List Bool)(f)(hD:aQ D)(hN:∀w,D w->N w)(hf:fuel=f+fl.count true)(hs:Region.noSelect l.toArray=true)
 (hB:pK l.toArray R fl 0 listed=true)(hF:lO a.tmps.size l fl=true)(ae:fl.length<=l.length)
 (h:∀E:av,aQ E->(∀w,E w->N w)->Nonempty (aU ex W E)->fu P l.toArray (λw'=>∃c:aU ex W E,w'=c.wd) (λa'=>a'=A) l fl a)
 (H:ch P l.toArray (NoPanic Q) ex W R f (mF fl 0 listed) A N D):ch P l.toArray (NoPanic Q) ex W R fuel listed a N D:=
 hf▸xc (hne.elim λw G=>⟨⟨w,G.1,G.2⟩⟩) hs B0 hD hN l fl 0 listed a s_ hB hF ae h H
def BR{a}{listed:Array Bool}{f i fn:Nat}{o}{args}(dd:Option Tmp)(N':av)(F:Value->av)(Z:ops[i]?=some o)(G:Region.wanted o (yielded ops a.tmps)=true)
 (bi:o.dst=dd)(H:∀w,(execOp a.eval o).run P w=.ok (.enter fn args) w)(I:∀v,aQ (F v))(aa:∀v u,F v u->N' u)(hR:R i=false->N'=N)
 (hc:∀w,ai ex W w->D w->Calls P fn args w λe w'=>∃v,e=.returned v/\ai ex w w'/\F v w')
 (h:∀v,(∃w,ai ex W w/\F v w)->ch P ops Q ex W R f (listed.setIfInBounds i true) (a.put dd v) N' (F v)):
 fa P ops Q ex W R f listed a N D i:=λw hO hd=>by
 unfold wpOp;simp only[Z,G,WB];refine .inl ?_;unfold Oper.wp;rw[H w];refine (hc w hO hd).mono λe w' ⟨v,he,V,K⟩=>?_;subst he;rw[bi];exact⟨N',F v,I v,aa v,hR,hO.trans V,K,h v ⟨w',hO.trans V,K⟩⟩
def CM{a}{listed:Array Bool}{f i}{o}(dd:Option Tmp)(N':av)(F:Value->av)(Z:ops[i]?=some o)(G:Region.wanted o (yielded ops a.tmps)=true)
 (bi:o.dst=dd)(I:∀v,aQ (F v))(aa:∀v u,F v u->N' u)(hR:R i=false->N'=N)
 (H:∀w,ai ex W w->D w->∃v w',(execOp a.eval o).run P w=.ok (.value v) w'/\ai ex w w'/\F v w')
 (h:∀v,(∃w,ai ex W w/\F v w)->ch P ops Q ex W R f (listed.setIfInBounds i true) (a.put dd v) N' (F v)):
 fa P ops Q ex W R f listed a N D i:=λw hO hd=>by
 unfold wpOp;simp only[Z,G,WB];refine .inl ?_;have⟨v,w',h1,h2,h3⟩:=H w hO hd;unfold Oper.wp;rw[h1];simp only[Oper.upon];rw[bi];exact⟨N',F v,I v,aa v,hR,hO.trans h2,h3,h v ⟨w',hO.trans h2,h3⟩⟩
end
section
variable {P:Program}{ops:Array Oper}{Q:Exit->Act->av}{ex:List Nat}{W:World}{N D:av}
theorem yt:∀{f} {l:Array Bool} {a} {N' D:av},ch P ops Q ex W (λ_=>false) f l a N' D->ch P ops Q ex W (λ_=>false) f l a (λ_=>True) D
 |0,_,_,_,_,k=>k
 |_+1,_,_,_,_,k=>⟨k.1,λi hi w Z hd=>YN (λ_ _ ⟨_,F,h1,_,_,h4,h5,h6⟩=>⟨λ_=>True,F,h1,λ_ _=>trivial,λ_=>rfl,h4,h5,yt h6⟩) (k.2 i hi w Z hd)⟩
def Pe{a}{listed:Array Bool}{f i fn:Nat}{o}{args}{v}(dd:Option Tmp)(F:av)(Z:ops[i]?=some o)(G:Region.wanted o (yielded ops a.tmps)=true)
 (bi:o.dst=dd)(H:∀w,(execOp a.eval o).run P w=.ok (.enter fn args) w)(I:aQ F)(hN:∀w,F w->N w)
 (hc:∀w,ai ex W w->D w->Calls P fn args w λe w'=>e=.returned v/\ai ex w w'/\F w')
 (h:(∃w,ai ex W w/\F w)->ch P ops Q ex W (λ_=>false) f (listed.setIfInBounds i true) (a.put dd v) N F):
 fa P ops Q ex W (λ_=>false) f listed a N D i:=
 xE N F Z G H I hN (λ_=>rfl) hc (by rw[bi];exact h)
def C2{a}{listed:Array Bool}{f i d:Nat}{o}(F:Nat->Value)(zs)(T)(Z:ops[i]?=some o)(G:Region.wanted o (yielded ops a.tmps)=true)(hd:o.dst=some d)
 (H:∀w,(execOp a.eval o).run P w=.ok (.value (F w)) (w.alloc (.cells zs T)))(hD:aQ D)
 (h:∀r,W.heap.size<=r->(∃w,ai ex W w/\(D w/\ah r zs T w))->ch P ops Q ex W (λ_=>false) f (listed.setIfInBounds i true) (a.put (some d) (F r)) (λ_=>True) (λw=>D w/\ah r zs T w)):
 fa P ops Q ex W (λ_=>false) f listed a (λ_=>True) D i:=λw hO K=>by
 unfold wpOp;simp only[Z,G,WB];refine .inl ?_;unfold Oper.wp;rw[H w];simp only[Oper.upon,hd];have h1:D (w.alloc (.cells zs T))/\ah w zs T (w.alloc (.cells zs T)):=⟨hD _ _ K ((Vn _ _).alloc (Vj _) (.cells zs T)),ah.new w zs T⟩
 exact⟨λ_=>True,λw'=>D w'/\ah w zs T w',hD.and aK,λ_ _=>trivial,λ_=>rfl,hO.alloc _,h1,h w hO.size ⟨_,hO.alloc _,h1⟩⟩
end
section
variable {P:Program}{ops:Array Oper}{Q:Exit->Act->av}{ex:List Nat}{W:World}{D:av}
def mj{a}{listed:Array Bool}{f i}{o}(dd:Option Tmp)(F:Value->av)(Z:ops[i]?=some o)(G:Region.wanted o (yielded ops a.tmps)=true)
 (bi:o.dst=dd)(I:∀v,aQ (F v))
 (H:∀w,ai ex W w->D w->∃v w',(execOp a.eval o).run P w=.ok (.value v) w'/\ai ex w w'/\F v w')
 (h:∀v,(∃w,ai ex W w/\F v w)->ch P ops Q ex W (λ_=>false) f (listed.setIfInBounds i true) (a.put dd v) (λ_=>True) (F v)):
 fa P ops Q ex W (λ_=>false) f listed a (λ_=>True) D i:=λw hO hd=>by
 unfold wpOp;simp only[Z,G,WB];refine .inl ?_;have⟨v,w',h1,h2,h3⟩:=H w hO hd;unfold Oper.wp;rw[h1];simp only[Oper.upon];rw[bi];exact⟨λ_=>True,F v,I v,λ_ _=>trivial,λ_=>rfl,hO.trans h2,h3,h v ⟨w',hO.trans h2,h3⟩⟩
end
section
variable {P : Program}{ops : Array Oper}{Q : Exit -> Act -> av}{ex : List Nat}{W : World}{R : Nat -> Bool}{N D : av}
def aD{a : Act}{listed : Array Bool}{f : Nat}(i : Nat)(h : fa P ops Q ex W R f listed a N D i)(hr : Region.ready .any ops listed = [i] := by kernel_rfl) : ch P ops Q ex W R (f + 1) listed a N D :=
  BJ [i] f rfl hr s_ (am.cons h am.nil)
def aR{a : Act}{listed : Array Bool}{f : Nat}(rs : List Nat)(h : am P ops Q ex W R f listed a N D rs)(hr : Region.ready .any ops listed = rs := by kernel_rfl)(hn : rs ≠ [] := by simp) : ch P ops Q ex W R (f + 1) listed a N D :=
  BJ rs f rfl hr hn h
def dn{a : Act}{listed : Array Bool}{f : Nat}(h : ∀ w, ai ex W w -> D w -> Q .normal a w)(hr : Region.ready .any ops listed = [] := by kernel_rfl) : ch P ops (NoPanic Q) ex W R f listed a N D :=
  jp hr (λw h1 h2 => NoPanic.normal (h w h1 h2)) f
def aE{l : List Oper}{a A : Act}{listed : Array Bool}{fuel : Nat}(hne : ∃ w, ai ex W w /\ D w)(fl : List Bool)(f : Nat)(hD : aQ D)(hN : ∀ w, D w -> N w)
    (H : ch P l.toArray (NoPanic Q) ex W R f (mF fl 0 listed) A N D)
    (h : ∀ E : av, aQ E -> (∀ w, E w -> N w) -> Nonempty (aU ex W E) -> fu P l.toArray (λw' => ∃ c : aU ex W E, w' = c.wd) (λa' => a' = A) l fl a := by intro E hE bs b8; (repeat (first | (refine gN ?_; go_big_quiet_step (fail); refine wpQuiet_nil ?_) | refine gM ?_)); exact gO rfl)
    (hf : fuel = f + fl.count true := by kernel_rfl)(hs : Region.noSelect l.toArray = true := by kernel_rfl)(hB : qf l.toArray R fl 0 listed = true := by kernel_rfl)(hF : lO a.tmps.size l fl = true := by kernel_rfl)(ae : fl.length <= l.length := by simp) : ch P l.toArray (NoPanic Q) ex W R fuel listed a N D :=
  lw hne fl f hD hN hf hs hB hF ae h H
def wP{l : List Oper}{a A : Act}{listed : Array Bool}{fuel : Nat}(hne : ∃ w, ai ex W w /\ D w)(fl : List Bool)(f : Nat)(hD : aQ D)(hN : ∀ w, D w -> N w)
    (H : ch P l.toArray (NoPanic Q) ex W R f (mF fl 0 listed) A N D)
    (h : ∀ E : av, aQ E -> (∀ w, E w -> N w) -> Nonempty (aU ex W E) -> fu P l.toArray (λw' => ∃ c : aU ex W E, w' = c.wd) (λa' => a' = A) l fl a := by intro E hE bs b8; (repeat (first | (refine gN ?_; go_big_quiet_step (fail); refine wpQuiet_nil ?_) | refine gM ?_)); exact gO rfl)
    (hf : fuel = f + fl.count true := by kernel_rfl)(hs : Region.noSelect l.toArray = true := by kernel_rfl)(hB : pK l.toArray R fl 0 listed = true := by kernel_rfl)(hF : lO a.tmps.size l fl = true := by kernel_rfl)(ae : fl.length <= l.length := by simp) : ch P l.toArray (NoPanic Q) ex W R fuel listed a N D :=
  jT hne fl f hD hN hf hs hB hF ae h H
end
section
variable {P:Program}{ops:Array Oper}{Q:Exit->Act->av}{ex:List Nat}{W:World}{D:av}
def bN{a}{listed:Array Bool}{f i fn:Nat}{o}{args}(dd:Option Tmp)(F:Value->av)(I:∀v,aQ (F v))(hc:∀w,ai ex W w->D w->Calls P fn args w λe w'=>∃v,e=.returned v/\ai ex w w'/\F v w')(h:∀v,(∃w,ai ex W w/\F v w)->ch P ops Q ex W (λ_=>false) f (listed.setIfInBounds i true) (a.put dd v) (λ_=>True) (F v))(Z:ops[i]?=some o:=by rfl)(G:Region.wanted o (yielded ops a.tmps)=true:=by rfl)(bi:o.dst=dd:=by rfl)(H:∀w,(execOp a.eval o).run P w=.ok (.enter fn args) w:=by intro _;go_simp):
 fa P ops Q ex W (λ_=>false) f listed a (λ_=>True) D i:=Og dd F Z G bi H I hc h
end
section
variable {P:Program}{ops:Array Oper}{Q:Exit->Act->av}{ex:List Nat}{W:World}{R:Nat->Bool}{N D:av}
def jc{a}{listed:Array Bool}{f i fn:Nat}{o}{args}(dd:Option Tmp)(N':av)(F:Value->av)(I:∀v,aQ (F v))(aa:∀v u,F v u->N' u)(hR:R i=false->N'=N)(hc:∀w,ai ex W w->D w->Calls P fn args w λe w'=>∃v,e=.returned v/\ai ex w w'/\F v w')(h:∀v,(∃w,ai ex W w/\F v w)->ch P ops Q ex W R f (listed.setIfInBounds i true) (a.put dd v) N' (F v))(Z:ops[i]?=some o:=by rfl)(G:Region.wanted o (yielded ops a.tmps)=true:=by rfl)(bi:o.dst=dd:=by rfl)(H:∀w,(execOp a.eval o).run P w=.ok (.enter fn args) w:=by intro _;go_simp):
 fa P ops Q ex W R f listed a N D i:=BR dd N' F Z G bi H I aa hR hc h
end
section
variable {P:Program}{ops:Array Oper}{Q:Exit->Act->av}{ex:List Nat}{W:World}{C:av}{L:List (Nat×Array Value×TypeId)}
def ep{a}{listed:Array Bool}{f i fn:Nat}{o}{args}{v}(dd:Option Tmp)(g:av)(F:aQ g)(hL:∀x∈L,x.1∉ex)(hc:∀w,C w->Calls P fn args w λe w'=>e=.returned v/\ai ex w w'/\g w')(h:(∃w,ai ex W w/\KD g L w)->ch P ops Q ex W (λ_=>false) f (listed.setIfInBounds i true) (a.put dd v) (λ_=>True) (KD g L))(Z:ops[i]?=some o:=by rfl)(G:Region.wanted o (yielded ops a.tmps)=true:=by rfl)(bi:o.dst=dd:=by rfl)(H:∀w,(execOp a.eval o).run P w=.ok (.enter fn args) w:=by intro _;go_simp):
 fa P ops Q ex W (λ_=>false) f listed a (λ_=>True) (KD C L) i:=OS dd g Z G bi H F hL hc h
end
section
variable {P:Program}{ops:Array Oper}{Q:Exit->Act->av}{ex:List Nat}{W:World}{C:av}{L:List (Nat×Array Value×TypeId)}
def dB{a}{listed:Array Bool}{f i d:Nat}{o}{zs}{T}(hC:aQ C)(h:∀r,W.heap.size<=r->(∀x∈L,x.1<r)->(∃w,ai ex W w/\KD C ((r,zs,T)::L) w)->ch P ops Q ex W (λ_=>false) f (listed.setIfInBounds i true) (a.put (some d) (.pointer r)) (λ_=>True) (KD C ((r,zs,T)::L)))(Z:ops[i]?=some o:=by rfl)(G:Region.wanted o (yielded ops a.tmps)=true:=by rfl)(hd:o.dst=some d:=by rfl)(H:∀w,(execOp a.eval o).run P w=.ok (.value (.pointer w)) (w.alloc (.cells zs T)):=by intro _;go_simp):
 fa P ops Q ex W (λ_=>false) f listed a (λ_=>True) (KD C L) i:=Oo Z G hd H hC h
end
section
variable {P:Program}{ops:Array Oper}{Q:Exit->Act->av}{ex:List Nat}{W:World}{D:av}
def fC{a}{listed:Array Bool}{f i}{o}(r)(zs){T}{x y}{v}(F:av)(hr:W.heap.size<=r\/r∈ex)(hB:∀w,D w->ah r zs T w)(I:aQ F)(J:∀w w',D w->ai [r] w w'->ah r v.cells T w'->F w')(h:(∃w,ai ex W w/\F w)->ch P ops Q ex W (λ_=>false) f (listed.setIfInBounds i true) a (λ_=>True) F)(Z:ops[i]?=some o:=by rfl)(G:Region.wanted o (yielded ops a.tmps)=true:=by rfl)(aL:o.op=.store T x y:=by rfl)(K:o.dst=none:=by rfl)(hx:a.eval x=.pointer r:=by rfl)(hy:a.eval y=v:=by rfl)(a6:∀w,(sizeOf T).run P w=.ok zs.size w:=by intro _;go_simp)(hl:v.cells.size=zs.size:=by rfl)(hv:∀u∈v.cells.toList,mI u=true:=by simp [Value.cells,mI]):
 fa P ops Q ex W (λ_=>false) f listed a (λ_=>True) D i:=OB r zs F Z G aL K hx hy a6 hl hv hr hB I J h
end
section
variable {P:Program}{ops:Array Oper}{Q:Exit->Act->av}{ex:List Nat}{W:World}{C:av}{L:List (Nat×Array Value×TypeId)}
def fB{a}{listed:Array Bool}{f i r}{o}{zs}{T}{x y}{v}(g F:List (Nat×Array Value×TypeId))(hr:W.heap.size<=r\/r∈ex)(hC:aQ C)(J:∀w w',C w->ai [r] w w'->C w')(hL:∀x∈g++F,x.1≠r)(h:(∃w,ai ex W w/\KD C (g++(r,v.cells,T)::F) w)->ch P ops Q ex W (λ_=>false) f (listed.setIfInBounds i true) a (λ_=>True) (KD C (g++(r,v.cells,T)::F)))(Z:ops[i]?=some o:=by rfl)(G:Region.wanted o (yielded ops a.tmps)=true:=by rfl)(aL:o.op=.store T x y:=by rfl)(K:o.dst=none:=by rfl)(hx:a.eval x=.pointer r:=by rfl)(hy:a.eval y=v:=by rfl)(a6:∀w,(sizeOf T).run P w=.ok zs.size w:=by intro _;go_simp)(hl:v.cells.size=zs.size:=by rfl)(hv:∀u∈v.cells.toList,mI u=true:=by simp [Value.cells,mI]):
 fa P ops Q ex W (λ_=>false) f listed a (λ_=>True) (KD C (g++(r,zs,T)::F)) i:=Oz g F Z G aL K hx hy a6 hl hv hr hC J hL h
end
def ah.q1{r T : Nat}{a0 : Value}{l : List Value}{w : World}(h : ah r (a0::l).toArray T w) : w.cell? ⟨r, 0, none⟩ = some a0 := (h.cell 0).trans s_
def ah.q2{r T : Nat}{a0 a1 : Value}{l : List Value}{w : World}(h : ah r (a0::a1::l).toArray T w) : w.cell? ⟨r, 0, none⟩ = some a0 /\ w.cell? ⟨r, 1, none⟩ = some a1 := ⟨(h.cell 0).trans s_, (h.cell 1).trans s_⟩
def ah.p2{r T : Nat}{a0 a1 : Value}{l : List Value}{w : World}(h : ah r (a0::a1::l).toArray T w) : w.cell? ⟨r, 0, none⟩ = some a0 /\ w.cell? ⟨r, 1, none⟩ = some a1 /\ r < w.heap.size := ⟨h.q2.1, h.q2.2, h.lt⟩
def ah.q3{r T : Nat}{a0 a1 a2 : Value}{l : List Value}{w : World}(h : ah r (a0::a1::a2::l).toArray T w) : w.cell? ⟨r, 0, none⟩ = some a0 /\ w.cell? ⟨r, 1, none⟩ = some a1 /\ w.cell? ⟨r, 2, none⟩ = some a2 := ⟨(h.cell 0).trans s_, (h.cell 1).trans s_, (h.cell 2).trans s_⟩
def ah.p3{r T : Nat}{a0 a1 a2 : Value}{l : List Value}{w : World}(h : ah r (a0::a1::a2::l).toArray T w) : w.cell? ⟨r, 0, none⟩ = some a0 /\ w.cell? ⟨r, 1, none⟩ = some a1 /\ w.cell? ⟨r, 2, none⟩ = some a2 /\ r < w.heap.size := ⟨h.q3.1, h.q3.2.1, h.q3.2.2, h.lt⟩
def ah.q4{r T : Nat}{a0 a1 a2 a3 : Value}{l : List Value}{w : World}(h : ah r (a0::a1::a2::a3::l).toArray T w) : w.cell? ⟨r, 0, none⟩ = some a0 /\ w.cell? ⟨r, 1, none⟩ = some a1 /\ w.cell? ⟨r, 2, none⟩ = some a2 /\ w.cell? ⟨r, 3, none⟩ = some a3 := ⟨(h.cell 0).trans s_, (h.cell 1).trans s_, (h.cell 2).trans s_, (h.cell 3).trans s_⟩
def ah.p4{r T : Nat}{a0 a1 a2 a3 : Value}{l : List Value}{w : World}(h : ah r (a0::a1::a2::a3::l).toArray T w) : w.cell? ⟨r, 0, none⟩ = some a0 /\ w.cell? ⟨r, 1, none⟩ = some a1 /\ w.cell? ⟨r, 2, none⟩ = some a2 /\ w.cell? ⟨r, 3, none⟩ = some a3 /\ r < w.heap.size := ⟨h.q4.1, h.q4.2.1, h.q4.2.2.1, h.q4.2.2.2, h.lt⟩
def ah.q5{r T : Nat}{a0 a1 a2 a3 a4 : Value}{l : List Value}{w : World}(h : ah r (a0::a1::a2::a3::a4::l).toArray T w) : w.cell? ⟨r, 0, none⟩ = some a0 /\ w.cell? ⟨r, 1, none⟩ = some a1 /\ w.cell? ⟨r, 2, none⟩ = some a2 /\ w.cell? ⟨r, 3, none⟩ = some a3 /\ w.cell? ⟨r, 4, none⟩ = some a4 := ⟨(h.cell 0).trans s_, (h.cell 1).trans s_, (h.cell 2).trans s_, (h.cell 3).trans s_, (h.cell 4).trans s_⟩
def ah.p5{r T : Nat}{a0 a1 a2 a3 a4 : Value}{l : List Value}{w : World}(h : ah r (a0::a1::a2::a3::a4::l).toArray T w) : w.cell? ⟨r, 0, none⟩ = some a0 /\ w.cell? ⟨r, 1, none⟩ = some a1 /\ w.cell? ⟨r, 2, none⟩ = some a2 /\ w.cell? ⟨r, 3, none⟩ = some a3 /\ w.cell? ⟨r, 4, none⟩ = some a4 /\ r < w.heap.size := ⟨h.q5.1, h.q5.2.1, h.q5.2.2.1, h.q5.2.2.2.1, h.q5.2.2.2.2, h.lt⟩
def ah.q6{r T : Nat}{a0 a1 a2 a3 a4 a5 : Value}{l : List Value}{w : World}(h : ah r (a0::a1::a2::a3::a4::a5::l).toArray T w) : w.cell? ⟨r, 0, none⟩ = some a0 /\ w.cell? ⟨r, 1, none⟩ = some a1 /\ w.cell? ⟨r, 2, none⟩ = some a2 /\ w.cell? ⟨r, 3, none⟩ = some a3 /\ w.cell? ⟨r, 4, none⟩ = some a4 /\ w.cell? ⟨r, 5, none⟩ = some a5 := ⟨(h.cell 0).trans s_, (h.cell 1).trans s_, (h.cell 2).trans s_, (h.cell 3).trans s_, (h.cell 4).trans s_, (h.cell 5).trans s_⟩
def ah.p6{r T : Nat}{a0 a1 a2 a3 a4 a5 : Value}{l : List Value}{w : World}(h : ah r (a0::a1::a2::a3::a4::a5::l).toArray T w) : w.cell? ⟨r, 0, none⟩ = some a0 /\ w.cell? ⟨r, 1, none⟩ = some a1 /\ w.cell? ⟨r, 2, none⟩ = some a2 /\ w.cell? ⟨r, 3, none⟩ = some a3 /\ w.cell? ⟨r, 4, none⟩ = some a4 /\ w.cell? ⟨r, 5, none⟩ = some a5 /\ r < w.heap.size := ⟨h.q6.1, h.q6.2.1, h.q6.2.2.1, h.q6.2.2.2.1, h.q6.2.2.2.2.1, h.q6.2.2.2.2.2, h.lt⟩
def ah.q7{r T : Nat}{a0 a1 a2 a3 a4 a5 g : Value}{l : List Value}{w : World}(h : ah r (a0::a1::a2::a3::a4::a5::g::l).toArray T w) : w.cell? ⟨r, 0, none⟩ = some a0 /\ w.cell? ⟨r, 1, none⟩ = some a1 /\ w.cell? ⟨r, 2, none⟩ = some a2 /\ w.cell? ⟨r, 3, none⟩ = some a3 /\ w.cell? ⟨r, 4, none⟩ = some a4 /\ w.cell? ⟨r, 5, none⟩ = some a5 /\ w.cell? ⟨r, 6, none⟩ = some g := ⟨(h.cell 0).trans s_, (h.cell 1).trans s_, (h.cell 2).trans s_, (h.cell 3).trans s_, (h.cell 4).trans s_, (h.cell 5).trans s_, (h.cell 6).trans s_⟩
def ah.p7{r T : Nat}{a0 a1 a2 a3 a4 a5 g : Value}{l : List Value}{w : World}(h : ah r (a0::a1::a2::a3::a4::a5::g::l).toArray T w) : w.cell? ⟨r, 0, none⟩ = some a0 /\ w.cell? ⟨r, 1, none⟩ = some a1 /\ w.cell? ⟨r, 2, none⟩ = some a2 /\ w.cell? ⟨r, 3, none⟩ = some a3 /\ w.cell? ⟨r, 4, none⟩ = some a4 /\ w.cell? ⟨r, 5, none⟩ = some a5 /\ w.cell? ⟨r, 6, none⟩ = some g /\ r < w.heap.size := ⟨h.q7.1, h.q7.2.1, h.q7.2.2.1, h.q7.2.2.2.1, h.q7.2.2.2.2.1, h.q7.2.2.2.2.2.1, h.q7.2.2.2.2.2.2, h.lt⟩
def ah.q8{r T : Nat}{a0 a1 a2 a3 a4 a5 g F : Value}{l : List Value}{w : World}(h : ah r (a0::a1::a2::a3::a4::a5::g::F::l).toArray T w) : w.cell? ⟨r, 0, none⟩ = some a0 /\ w.cell? ⟨r, 1, none⟩ = some a1 /\ w.cell? ⟨r, 2, none⟩ = some a2 /\ w.cell? ⟨r, 3, none⟩ = some a3 /\ w.cell? ⟨r, 4, none⟩ = some a4 /\ w.cell? ⟨r, 5, none⟩ = some a5 /\ w.cell? ⟨r, 6, none⟩ = some g /\ w.cell? ⟨r, 7, none⟩ = some F := ⟨(h.cell 0).trans s_, (h.cell 1).trans s_, (h.cell 2).trans s_, (h.cell 3).trans s_, (h.cell 4).trans s_, (h.cell 5).trans s_, (h.cell 6).trans s_, (h.cell 7).trans s_⟩
def ah.p8{r T : Nat}{a0 a1 a2 a3 a4 a5 g F : Value}{l : List Value}{w : World}(h : ah r (a0::a1::a2::a3::a4::a5::g::F::l).toArray T w) : w.cell? ⟨r, 0, none⟩ = some a0 /\ w.cell? ⟨r, 1, none⟩ = some a1 /\ w.cell? ⟨r, 2, none⟩ = some a2 /\ w.cell? ⟨r, 3, none⟩ = some a3 /\ w.cell? ⟨r, 4, none⟩ = some a4 /\ w.cell? ⟨r, 5, none⟩ = some a5 /\ w.cell? ⟨r, 6, none⟩ = some g /\ w.cell? ⟨r, 7, none⟩ = some F /\ r < w.heap.size := ⟨h.q8.1, h.q8.2.1, h.q8.2.2.1, h.q8.2.2.2.1, h.q8.2.2.2.2.1, h.q8.2.2.2.2.2.1, h.q8.2.2.2.2.2.2.1, h.q8.2.2.2.2.2.2.2, h.lt⟩
def ah.q9{r T : Nat}{a0 a1 a2 a3 a4 a5 g F G : Value}{l : List Value}{w : World}(h : ah r (a0::a1::a2::a3::a4::a5::g::F::G::l).toArray T w) : w.cell? ⟨r, 0, none⟩ = some a0 /\ w.cell? ⟨r, 1, none⟩ = some a1 /\ w.cell? ⟨r, 2, none⟩ = some a2 /\ w.cell? ⟨r, 3, none⟩ = some a3 /\ w.cell? ⟨r, 4, none⟩ = some a4 /\ w.cell? ⟨r, 5, none⟩ = some a5 /\ w.cell? ⟨r, 6, none⟩ = some g /\ w.cell? ⟨r, 7, none⟩ = some F /\ w.cell? ⟨r, 8, none⟩ = some G := ⟨(h.cell 0).trans s_, (h.cell 1).trans s_, (h.cell 2).trans s_, (h.cell 3).trans s_, (h.cell 4).trans s_, (h.cell 5).trans s_, (h.cell 6).trans s_, (h.cell 7).trans s_, (h.cell 8).trans s_⟩
end Go.Proofs.YtaamhakdhaolmaaGreatDoor
