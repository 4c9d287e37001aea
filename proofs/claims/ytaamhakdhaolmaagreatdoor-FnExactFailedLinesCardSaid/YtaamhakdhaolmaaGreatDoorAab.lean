/- Part 1. -/
import Derived.BigQuiet
import Derived.Deep.QuietTactic
import Derived.Deep.RegionHeld3
import Derived.OrdersHeld
import Derived.Test.YtaamhakdhaolmaaGreatDoorAaa
namespace Go.Proofs.YtaamhakdhaolmaaGreatDoor
open Go.RowKit
set_option maxHeartbeats 8000000
set_option maxRecDepth 100000
variable {P:Prop}
set_option linter.all false
def kj(h:P:=by simpa using h):=h
def uM(h:P:=by simpa using ac):=h
def zj(h:P:=by rw[h] at hr;cases hr):=h
def H9(h:P:=by
 subst ae;exact hy.wpOp hi hD hN hO hd (λw' ab K=>⟨N,D,hD,hN,λ_=>rfl,ab,K,H⟩)):=h
def Ku(h:P:=by
 refine⟨A.tmps.getD d undef,λE hE bv cb=>?_⟩;have h1:=h E hE bv cb;simp only[fg,wpQuiet] at h1;have J:∀v,fg P ops (Cl ex W E) (λa'=>a'=A) l fl (a.put o.dst v)->A.tmps.getD d undef=v:=λv G=>by
  have:=tk l fl _ G bZ;rw[hd] at this;simp only[Act.put,Array.getElem?_setIfInBounds_self,aG,Vo] at this;simp [U4,this]
 split at h1
 .rename_i G;obtain⟨v,hq,hk⟩:=h1;rw[J v hk];exact⟨.inl ⟨G,hq⟩,hk⟩
 .rename_i G;rw[J undef h1];exact⟨.inr ⟨by simpa using G,rfl⟩,h1⟩):=h
def Jx(h:P:=by
 refine⟨λh=>zj,λj hj w hO hd=>?_⟩;by_cases ae:j=i
 .exact H9
 .have:=XY hj ae;rw[H.1] at this;cases this):=h
def Gv(h:P:=by
 have h1:=az e he hb;have h0:=(Yf.1 hr).1;rw[a5] at h1;rcases Vn i listed.size with J|J
 .simp [J] at h0 h1;rw[h0] at h1;cases h1
 .simp [Xr J] at h1):=h
def FW(h:P:=by
 intro a h;simp only[wpQuiet] at h ⊢;split
 .rename_i G;simp only[G,Vo] at h;exact Oper.quiet_mono g h
 .rename_i G;simp only[G] at h;exact g _ h):=h
def Ga(h:P:=by
 have:=h D hD hN hne;have e:a=A:=by revert this;cases ‹List Oper›<;>(intro h;exact h)
 subst e;simpa[mu] using H):=h
def E8(h:P:=by
 refine V k ok hk cy ?_ aL;by_cases ad:j=k
 .subst ad;exact ac
 .rw[getD_set_ne true ad] at aZ;exact aZ):=h
def FC(h:P:=by
 exact H9):=h
def Fe(h:P:=by
 cases I:o.dst with
 |none=>rw[I] at F;simp at F
 |some d=>exact⟨d,rfl⟩):=h
structure ah (ex:List Nat)(W w:World):Prop where
 os:w.os=W.os
 tape:w.tape=W.tape
 output:w.output=W.output
 size:W.heap.size<=w.heap.size
 block:∀k,k<W.heap.size->k∉ex->w.heap[k]?=W.heap[k]?
def ah.refl(ex:List Nat)(W):ah ex W W:=⟨rfl,rfl,rfl,Ug _,λ_ _ _=>rfl⟩
def ah.of_below{ex:List Nat}{W w:World}(h:Below W W w):ah ex W w:=⟨h.os,h.tape,h.output,h.size,λk hk _=>h.block k hk⟩
def ah.below{W w}(h:ah [] W w):Below W W w:=⟨h.os,h.tape,h.output,h.size,λk hk=>h.block k hk s_⟩
def ah.trans{ex:List Nat}{W w w'}(h:ah ex W w)(k:ah ex w w'):ah ex W w':=
 ⟨k.os.trans h.os,k.tape.trans h.tape,k.output.trans h.output,Ui h.size k.size,λi hi hn=>(k.block i (Un hi h.size) hn).trans (h.block i hi hn)⟩
def ah.next{ex:List Nat}{W w w'}(h:ah ex W w)(k:Below w w w'):ah ex W w':=h.trans (.of_below k)
def ah.drew{ex:List Nat}{W w}(h:ah ex W w):ah ex W w.drew:=h.next ((Uk _ _).drew)
def ah.alloc{ex:List Nat}{W w}(h:ah ex W w)(o:Obj):ah ex W (w.alloc o):=h.next ((Uk _ _).alloc (Ug _) o)
def ah.setCell{ex:List Nat}{W w}(h:ah ex W w){p}(G:W.heap.size<=p.block\/p.block∈ex)(v):ah ex W (w.setCell p v):=
 ⟨h.os,h.tape,h.output,by simpa[World.setCell] using h.size,λk hk hn=>(XM _ _ _ _ (by
   rintro rfl;rcases G with G|G
   .omega
   .exact hn G)).trans (h.block k hk hn)⟩
def ah.cell{ex:List Nat}{W w}(h:ah ex W w){p}(G:p.block<W.heap.size)(hn:p.block∉ex):w.cell? p=W.cell? p:=World.cell?_of_block (w:=W) (h.block p.block G hn)
def ah.frozen{ex:List Nat}{W w}(h:ah ex W w){p}(G:p.block<W.heap.size)(hn:p.block∉ex):w.frozen? p=W.frozen? p:=World.frozen?_of_block (w:=W) (h.block p.block G hn)
def aQ(D:au):Prop:=∀w w',D w->Below w w w'->D w'
def aQ.true:aQ (λ_=>True):=λ_ _ _ _=>trivial
def aQ.and{D E:au}(h:aQ D)(k:aQ E):aQ (λw=>D w/\E w):=λ_ _ ⟨a,b⟩ hb=>⟨h _ _ a hb,k _ _ b hb⟩
structure aU (ex:List Nat)(W)(D:World->Prop) where
 wd:World
 over:ah ex W wd
 more:D wd
instance (ex:List Nat)(W:World):Nonempty (aU ex W (λ_=>True)):=⟨⟨W,ah.refl _ _,trivial⟩⟩
abbrev Cl(ex:List Nat)(W:World)(D:au):au:=λw'=>∃c:aU ex W D,w'=c.wd
@[simp,go_sem] theorem aU.cell?{ex:List Nat}{W:World}{D:au}(c:aU ex W D){p:Addr}(G:p.block<W.heap.size)(hn:p.block∉ex):c.wd.cell? p=W.cell? p:=c.over.cell G hn
@[simp,go_sem] theorem aU.frozen?{ex:List Nat}{W:World}{D:au}(c:aU ex W D){p:Addr}(G:p.block<W.heap.size)(hn:p.block∉ex):c.wd.frozen? p=W.frozen? p:=c.over.frozen G hn
section
variable {P:Program}{ops:Array Oper}{Q:Exit->Act->au}{ex:List Nat}{W:World}{R:Nat->Bool}{N D:au}
def Calls.quiet_cls{f:FuncId}{args}{v}(hD:aQ D)(c:aU ex W D)
 (h:Calls P f args c.wd λe w'=>e=.returned v/\Below c.wd.heap.size c.wd w'):Calls P f args c.wd λe b7=>e=.returned v/\∃c':aU ex W D,b7=c'.wd:=
 h.mono λ_ w' ⟨he,hb⟩=>⟨he,⟨w',c.over.next hb,hD _ _ c.more hb⟩,rfl⟩
def Calls.quiet_clsS{f:FuncId}{args}{v}(c:aU ex W D)
 (h:Calls P f args c.wd λe w'=>e=.returned v/\c.wd=w'):Calls P f args c.wd λe b7=>e=.returned v/\∃c':aU ex W D,b7=c'.wd:=
 h.mono λ_ _ ⟨he,hb⟩=>⟨he,c,hb.symm⟩
def A8(w:World)(n):Below w w (w.drewN n):=⟨rfl,rfl,rfl,Ug _,λ_ _=>rfl⟩
def cd(P:Program)(ops:Array Oper)(Q:Exit->Act->au)(ex:List Nat)(W:World)(R:Nat->Bool):Nat->Array Bool->Act->(au)->(au)->Prop
 |0,listed,a,_,D=>Region.ready .any ops listed=[]/\∀w,ah ex W w->D w->Q .normal a w
 |fuel+1,listed,a,N,D=>
  (Region.ready .any ops listed=[]->∀w,ah ex W w->D w->Q .normal a w)/\
  ∀i∈Region.ready .any ops listed,∀w,ah ex W w->D w->
   wpOp P ops Q i (λa' w'=>∃N' F:au,aQ F/\(∀u,F u->N' u)/\(R i=false->N'=N)/\ah ex W w'/\F w'/\cd P ops Q ex W R fuel (listed.setIfInBounds i true) a' N' F) a w
theorem BU:∀(fuel) (listed:Array Bool) (a) (w) (N D:au),ah ex W w->D w->cd P ops Q ex W R fuel listed a N D->wpAny P .any ops Q fuel listed a w
 |0,_,_,_,_,_,Z,hd,h=>⟨h.1,h.2 _ Z hd⟩
 |fuel+1,_,_,_,_,_,Z,hd,h=>⟨λh0=>h.1 h0 _ Z hd,λi hi=>XK (λa' w' ⟨N',F,_,_,_,V,K,J⟩=>BU fuel _ a' w' N' F V K J) (h.2 i hi _ Z hd)⟩
def jH(P:Program)(ops:Array Oper)(ex:List Nat)(W:World)(N:au)(o:Oper)(v:Value)(a:Act):Prop:=
 ∀D,aQ D->(∀w,D w->N w)->Nonempty (aU ex W D)->YieldsIn P ops (Cl ex W D) o v a
def jH.of_same{o}{v}{a a'}(hy:jH P ops ex W N o v a)(he:execOp a'.eval o=execOp a.eval o)
 (G:Region.wanted o (yielded ops a'.tmps)=Region.wanted o (yielded ops a.tmps)):jH P ops ex W N o v a':=λD h1 h2 h3=>(hy D h1 h2 h3).of_same he G
def jH.wpOp{i}{o}{v}{a}(hi:ops[i]?=some o)(hD:aQ D)(hN:∀w,D w->N w)(hy:jH P ops ex W N o v a)
 {K:Act->au}{w}(hO:ah ex W w)(hd:D w)(h:∀w',ah ex W w'->D w'->K (a.put o.dst v) w'):wpOp P ops Q i K a w:=by
 unfold Go.wpOp;simp only[hi];rcases hy D hD hN ⟨⟨w,hO,hd⟩⟩ with ⟨G,hv⟩|⟨G,rfl⟩
 .simp only[G,Vo];refine .inl ?_;have hq:=hv w ⟨⟨w,hO,hd⟩,rfl⟩;unfold Oper.quietAt at hq;unfold Oper.wp;generalize (execOp a.eval o).run P w=r at *;cases r with
  |ok n w'=>
   cases n<;>simp only[Oper.quietUpon] at hq<;>simp only[Oper.upon]
   case value u=>
    obtain⟨rfl,rfl⟩:=hq;exact h _ hO hd
   case skip=>
    obtain⟨rfl,rfl⟩:=hq;exact h _ hO hd
   case enter f args=>
    obtain⟨rfl,hc⟩:=hq;refine hc.mono λe b7 he=>?_;obtain⟨rfl,c,rfl⟩:=he;exact h _ c.over c.more
  |halt x w'=>simp only[Oper.quietUpon] at hq
 .simp only[G,V6,if_false];exact h _ hO hd
def Bl{j}{oi oj}{v}(hj:ops[j]?=some oj)(aG:oi.apart ops oj=true)
 (g:∀I b,oi.op≠.select I b)(U:∀I b,oj.op≠.select I b)
 (hQ:∀c a w,Q (.panic c) (a.put oi.dst v) w->Q (.panic c) a w){K:Act->au}{a}{w}
 (hy:jH P ops ex W N oi v a)(h:wpOp P ops Q j K (a.put oi.dst v) w):
 wpOp P ops Q j (λa' w'=>jH P ops ex W N oi v a'/\K (a'.put oi.dst v) w') a w:=by
 have⟨h1,h2,h3⟩:=Oper.apart_spec aG;have keep:∀(a:Act),jH P ops ex W N oi v a->∀u,jH P ops ex W N oi v (a.put oj.dst u):=λa hy u=>
  hy.of_same (execOp_put oi g a oj.dst u h3) (wanted_put oi a oj.dst u h3)
 have H:∀d,jH P ops ex W N oi v {a with defers:=d::a.defers}:=λd=>hy.of_same rfl rfl;unfold wpOp at *;simp only[hj] at *;rw[wanted_put oj a oi.dst v h1] at h;split
 .rename_i G;simp only[G,Vo] at h;rcases h with h|⟨F,J⟩
  case inr=>exact .inr ⟨by unfold Oper.asks at *;rw[execOp_put oj U a oi.dst v h1] at F;exact F,J⟩
  refine .inl ?_;unfold Oper.wp at *;rw[execOp_put oj U a oi.dst v h1] at h;generalize (execOp a.eval oj).run P w=r at *;cases r with
  |ok n w'=>
   cases n<;>simp only[Oper.upon] at h ⊢
   case value u=>exact⟨keep a hy u,by rw[<-Xb a v u h2];exact h⟩
   case skip=>exact⟨keep a hy _,by rw[<-Xb a v undef h2];exact h⟩
   case defer d=>
    refine⟨keep _ (H d) _,?_⟩;rw[<-Xb _ v undef h2,<-Act.put_defers];exact h
   case enter f args=>
    refine Calls.mono h λe b7 he=>?_;cases e with
    |returned u=>exact⟨keep a hy u,by rw[<-Xb a v u h2];exact he⟩
    |panicked c=>exact hQ _ _ _ he
    |outgrown=>exact he
   case row row args=>exact Rows.mono h λu b7 he=>⟨keep a hy u,by rw[<-Xb a v u h2];exact he⟩
  |halt x w'=>
   cases x<;>simp only[Oper.upon] at h ⊢
   case panic u=>exact hQ _ _ _ h
 .rename_i G;simp only[G] at h;exact⟨keep a hy _,by rw[<-Xb a v undef h2];exact h⟩
def MN{i}{oi}{v}(hi:ops[i]?=some oi)(Z:∀(j:Nat) (o) I b,ops[j]?=some o->o.op≠.select I b)
 (hQ:∀c a d v w,Q (.panic c) (Act.put a d v) w->Q (.panic c) a w):
 ∀(fuel) (listed:Array Bool) (a) (D:au),aQ D->(∀w,D w->N w)->
  (∀j oj,ops[j]?=some oj->j≠i->listed.getD j true=false->(∀e∈oj.after,Region.binds .any e=true->e.on≠i)->oi.apart ops oj=true/\R j=false)->
  i∈Region.ready .any ops listed->R i=false->jH P ops ex W N oi v a->
  cd P ops Q ex W R fuel (listed.setIfInBounds i true) (a.put oi.dst v) N D->cd P ops Q ex W R (fuel+1) listed a N D:=by
 intro fuel
 induction fuel with
 |zero=>
  intro listed a D hD hN _ hr hR hy H;exact Jx
 |succ fuel g=>
  intro listed a D hD hN V hr hR hy H;refine⟨λh=>zj,λj hj w hO hd=>?_⟩;by_cases ae:j=i
  .exact FC
  .have⟨ac,oj,aM,az⟩:=Yf.1 hj;have aF:∀e∈oj.after,Region.binds .any e=true->e.on≠i:=λe he hb a5=>by
    exact Gv
   have⟨aG,ax⟩:=V j oj aM ae ac aF;have h2:=Bl aM aG (λI b=>Z i oi I b hi) (λI b=>Z j oj I b aM) (λc a w=>hQ c a _ _ w) hy (H.2 j (XY hj ae) w hO hd);have G:∀k ok,ops[k]?=some ok->k≠i->(listed.setIfInBounds j true).getD k true=false->
    (∀e∈ok.after,Region.binds .any e=true->e.on≠i)->oi.apart ops ok=true/\R k=false:=λk ok hk cy aZ aL=>by
    exact E8
   refine XK (λa' w' h3=>?_) h2;have⟨aX,N',F,U,aa,a1,ab,K,h4⟩:=h3;obtain rfl:=a1 ax;refine⟨_,F,U,aa,λ_=>rfl,ab,K,g (listed.setIfInBounds j true) a' F U aa G (XY hr (Ne.symm ae)) hR aX ?_⟩;rw[Array.setIfInBounds_comm _ _ ae];exact h4
def fg(P:Program)(ops:Array Oper)(C:au)(K:Act->Prop):List Oper->List Bool->Act->Prop
 |o::l,true::fl,a=>wpQuiet P ops C (λa'=>fg P ops C K l fl a') [o] a
 |_::l,false::fl,a=>fg P ops C K l fl a
 |_,_,a=>K a
def gB{C:au}{K:Act->Prop}{o}{l}{fl:List Bool}{a}(h:wpQuiet P ops C (λa'=>fg P ops C K l fl a') [o] a):fg P ops C K (o::l) (true::fl) a:=h
def gA{C:au}{K:Act->Prop}{o}{l}{fl:List Bool}{a}(h:fg P ops C K l fl a):fg P ops C K (o::l) (false::fl) a:=h
def gC{C:au}{K:Act->Prop}{l}{a}(h:K a):fg P ops C K l [] a:=by cases l<;>exact h
def pJ(ops:Array Oper)(R:Nat->Bool):List Bool->Nat->Array Bool->Bool
 |true::fl,k,listed=>(Region.ready .any ops listed).contains k&&Region.free .any ops listed k&&!R k&&
   ((List.range ops.size).all λj=>j==k||listed.getD j true||!R j||match ops[j]? with|some oj=>oj.after.any (λe=>Region.binds .any e&&e.on==k)|none=>true)&&
   pJ ops R fl (k+1) (listed.setIfInBounds k true)
 |false::fl,k,listed=>pJ ops R fl (k+1) listed
 |[],_,_=>true
def mu:List Bool->Nat->Array Bool->Array Bool
 |true::fl,k,listed=>mu fl (k+1) (listed.setIfInBounds k true)
 |false::fl,k,listed=>mu fl (k+1) listed
 |[],_,listed=>listed
def rD:List Oper->List Bool->List Nat
 |o::l,true::fl=>o.dst.toList++rD l fl
 |_::l,false::fl=>rD l fl
 |_,_=>[]
def lw(n:Nat):List Oper->List Bool->Bool
 |o::l,true::fl=>(match o.dst with|some d=>decide (d<n)&&!(rD l fl).contains d|none=>false)&&lw n l fl
 |_::l,false::fl=>lw n l fl
 |_,_=>true
def tw(a:Act)(d:Option Tmp)(v):(a.put d v).tmps.size=a.tmps.size:=by cases d<;>simp [Act.put]
theorem tk{C:au}{A}{d}:∀(l) (fl:List Bool) (a),fg P ops C (λa'=>a'=A) l fl a->d∉rD l fl->A.tmps[d]?=a.tmps[d]?
 |[],fl,a,h,_=>by cases fl<;>(simp only[fg] at h;rw[h])
 |o::l,[],a,h,_=>by simp only[fg] at h;rw[h]
 |o::l,false::fl,a,h,hd=>tk l fl a h hd
 |o::l,true::fl,a,h,hd=>by
  simp only[rD,Vx,not_or] at hd;have G:∀v,(a.put o.dst v).tmps[d]?=a.tmps[d]?:=λv=>by
   cases I:o.dst with
   |none=>rfl
   |some g=>
    rw[I] at hd;simp at hd;simp [Act.put,Array.getElem?_setIfInBounds_ne (Ne.symm hd.1)]
  simp only[fg,wpQuiet] at h;split at h
  .have⟨v,_,h2⟩:=h;exact (tk l fl _ h2 hd.2).trans (G v)
  .exact (tk l fl _ h hd.2).trans (G _)
theorem wE{A}(hne:Nonempty (aU ex W D))(hs:Region.noSelect ops=true)(hQ:∀c a d v w,Q (.panic c) (Act.put a d v) w->Q (.panic c) a w){fuel}(hD:aQ D)(hN:∀w,D w->N w):
 ∀(l) (fl:List Bool) (k) (listed:Array Bool) (a),(∀j,l[j]?=ops[k+j]?)->
  pJ ops R fl k listed=true->lw a.tmps.size l fl=true->fl.length<=l.length->
  (∀E:au,aQ E->(∀w,E w->N w)->Nonempty (aU ex W E)->fg P ops (Cl ex W E) (λa'=>a'=A) l fl a)->
  cd P ops Q ex W R fuel (mu fl k listed) A N D->cd P ops Q ex W R (fuel+fl.count true) listed a N D
 |_,[],_,listed,a,_,_,_,_,h,H=>by
  exact Ga
 |[],_::_,_,_,_,_,_,_,ac,_,_=>by simp at ac
 |o::l,false::fl,k,listed,a,hl,hB,hF,ac,h,H=>by
  have:=wE hne hs hQ hD hN l fl (k+1) listed a (λj=>by have:=hl (j+1);simpa[Wb,Wg 1 j] using this) hB hF uM h H;simpa using this
 |o::l,true::fl,k,listed,a,hl,hB,hF,ac,h,H=>by
  have h0:=by simpa using (hl 0).symm
  simp only[pJ,Ux,V0] at hB;have⟨⟨⟨⟨hr,hf⟩,hRk⟩,ax⟩,cy⟩:=hB;simp only[lw,Ux] at hF;have⟨F,U⟩:=hF;obtain⟨d,hd⟩:∃d,o.dst=some d:=by
   exact Fe
  rw[hd] at F;simp at F;have⟨aG,bZ⟩:=F;obtain⟨v,hv⟩:∃v,∀E:au,aQ E->(∀w,E w->N w)->Nonempty (aU ex W E)->YieldsIn P ops (Cl ex W E) o v a/\fg P ops (Cl ex W E) (λa'=>a'=A) l fl (a.put o.dst v):=by
   exact Ku
  have g:=wE hne hs hQ hD hN l fl (k+1) (listed.setIfInBounds k true) (a.put o.dst v) (λj=>by have:=hl (j+1);simpa[Wb,Wg 1 j] using this) cy (by rw[tw];exact U) uM (λE hE bv cb=>(hv E hE bv cb).2) H;have V:∀j oj,ops[j]?=some oj->j≠k->listed.getD j true=false->(∀e∈oj.after,Region.binds .any e=true->e.on≠k)->o.apart ops oj=true/\R j=false:=λj oj hj ad aZ aL=>by
   refine⟨Region.free_spec h0 hf j oj hj ad aZ aL,?_⟩;have h1:=US.1 ax j (V4.2 (Uv.1 hj).1);simp only[hj,V9,VC,ad,false_or,aZ,V6,V0] at h1;rcases h1 with h1|h1
   .exact h1
   .have⟨e,he,hb⟩:=Array.any_eq_true'.1 h1;simp at hb;exact absurd hb.2 (aL e he hb.1)
  have:=MN h0 (Region.noSelect_spec hs) hQ (fuel+fl.count true) listed a D hD hN V (by simpa using hr) hRk (λE hE bv cb=>(hv E hE bv cb).1) g;simpa[Yh,Wb] using this
def Bv(c:List PanicEntry)(a)(d:Option Tmp)(v)(w):NoPanic Q (.panic c) (Act.put a d v) w->NoPanic Q (.panic c) a w:=λh=>h
def br{id}{l:List Oper}{a}{w}(ex:List Nat)(R:Nat->Bool)(N D:au)(hm:P.follows .mixedOrders=true)(h0:D w.drew)
 (h:cd P l.toArray (NoPanic Q) ex w R l.length (Array.replicate l.length false) a N D):(Code.region id l.toArray true).wp P Q a w:=by
 refine wp_region_noPanic (wp_region_any hm ?_);have:=BU l.length (Array.replicate l.length false) a w.drew N D (ah.refl ex w).drew h0 h;simpa using this
def L6{id}{l}{a}{w}(ex:List Nat)(D:au)(hm:P.follows .mixedOrders=true)(hB:Region.lexB .any l.toArray=true)(hD:D w.drew)
 (h:Nonempty (aU ex w D)->wpQuiet P l.toArray (λw'=>∃c:aU ex w D,w'=c.wd) (λa'=>∀w',ah ex w w'->D w'->Q .normal a' w') l a):(Code.region id l.toArray true).wp P Q a w:=by
 refine wp_region_quiet (C:=λw'=>∃c:aU ex w D,w'=c.wd) hm hB ⟨⟨w.drew,(ah.refl ex w).drew,hD⟩,rfl⟩ ?_;have F:∀(H:List Oper) (a:Act),wpQuiet P l.toArray (λw'=>∃c:aU ex w D,w'=c.wd) (λa'=>∀w',ah ex w w'->D w'->Q .normal a' w') H a->
  wpQuiet P l.toArray (λw'=>∃c:aU ex w D,w'=c.wd) (λa'=>∀w',(∃c:aU ex w D,w'=c.wd)->Q .normal a' w') H a:=λH=>by
  induction H with
  |nil=>rintro a h w' ⟨c,rfl⟩;exact h _ c.over c.more
  |cons o H g=>
   exact FW
 simpa using F l a (h ⟨⟨w.drew,(ah.refl ex w).drew,hD⟩⟩)
def bP{id}{l}{a}{w}(hm:P.follows .mixedOrders=true)(hB:Region.lexB .any l.toArray=true)
 (h:wpQuiet P l.toArray (λw'=>∃c:aU [] w (λ_=>True),w'=c.wd) (λa'=>∀w',Below w w w'->Q .normal a' w') l a):(Code.region id l.toArray true).wp P Q a w:=
 L6 [] (λ_=>True) hm hB trivial (λ_=>by
  have F:∀(H:List Oper) (a:Act),wpQuiet P l.toArray (λw'=>∃c:aU [] w (λ_=>True),w'=c.wd) (λa'=>∀w',Below w w w'->Q .normal a' w') H a->
   wpQuiet P l.toArray (λw'=>∃c:aU [] w (λ_=>True),w'=c.wd) (λa'=>∀w',ah [] w w'->True->Q .normal a' w') H a:=λH=>by
   induction H with
   |nil=>exactλa h w' Z _=>h _ Z.below
   |cons o H g=>
    exact FW
  exact F l a h)
def lc{l}{a A}{listed:Array Bool}{fuel}(hne:∃w,ah ex W w/\D w)(fl:List Bool)(f)(hD:aQ D)(hN:∀w,D w->N w)(hf:fuel=f+fl.count true)(hs:Region.noSelect l.toArray=true)
 (hB:pJ l.toArray R fl 0 listed=true)(hF:lw a.tmps.size l fl=true)(ac:fl.length<=l.length)
 (h:∀E:au,aQ E->(∀w,E w->N w)->Nonempty (aU ex W E)->fg P l.toArray (λw'=>∃c:aU ex W E,w'=c.wd) (λa'=>a'=A) l fl a)
 (H:cd P l.toArray (NoPanic Q) ex W R f (mu fl 0 listed) A N D):cd P l.toArray (NoPanic Q) ex W R fuel listed a N D:=
 hf▸wE (hne.elim λw G=>⟨⟨w,G.1,G.2⟩⟩) hs Bv hD hN l fl 0 listed a s_ hB hF ac h H
def eM(P:Program)(ops:Array Oper)(Q:Exit->Act->au)(ex:List Nat)(W:World)(R:Nat->Bool)(f:Nat)(listed:Array Bool)(a:Act)(N D:au)(i:Nat):Prop:=
 ∀w,ah ex W w->D w->wpOp P ops Q i (λa' w'=>∃N' F:au,aQ F/\(∀u,F u->N' u)/\(R i=false->N'=N)/\ah ex W w'/\F w'/\cd P ops Q ex W R f (listed.setIfInBounds i true) a' N' F) a w
def ak(P:Program)(ops:Array Oper)(Q:Exit->Act->au)(ex:List Nat)(W:World)(R:Nat->Bool)(f:Nat)(listed:Array Bool)(a:Act)(N D:au)(rs:List Nat):Prop:=∀i∈rs,eM P ops Q ex W R f listed a N D i
def ak.nil{a}{listed:Array Bool}{f}:ak P ops Q ex W R f listed a N D []:=λi hi=>by cases hi
def ak.cons{a}{listed:Array Bool}{f i}{rs:List Nat}(h:eM P ops Q ex W R f listed a N D i)(hs:ak P ops Q ex W R f listed a N D rs):ak P ops Q ex W R f listed a N D (i::rs):=λj hj=>by
 rcases UM.1 hj with rfl|hj
 .exact h
 .exact hs j hj
def Bc{a}{listed:Array Bool}{fuel}(rs:List Nat)(f)(hf:fuel=f+1)(hr:Region.ready .any ops listed=rs)(hne:rs≠[])(h:ak P ops Q ex W R f listed a N D rs):cd P ops Q ex W R fuel listed a N D:=by
 subst hf;exact⟨λh0=>absurd (hr▸h0) hne,hr▸h⟩
def w_{a}{listed:Array Bool}{f i fn:Nat}{o}{args}{v}(N' F:au)(Z:ops[i]?=some o)(G:Region.wanted o (yielded ops a.tmps)=true)
 (H:∀w,(execOp a.eval o).run P w=.ok (.enter fn args) w)(U:aQ F)(aa:∀u,F u->N' u)(hR:R i=false->N'=N)
 (hc:∀w,ah ex W w->D w->Calls P fn args w λe w'=>e=.returned v/\ah ex w w'/\F w')
 (h:(∃w,ah ex W w/\F w)->cd P ops Q ex W R f (listed.setIfInBounds i true) (a.put o.dst v) N' F):eM P ops Q ex W R f listed a N D i:=λw hO hd=>by
 unfold wpOp;simp only[Z,G,Vo];refine .inl ?_;unfold Oper.wp;rw[H w];exact (hc w hO hd).mono λe w' ⟨he,V,K⟩=>by subst he;exact⟨N',F,U,aa,hR,hO.trans V,K,h ⟨w',hO.trans V,K⟩⟩
def jc{a}{listed:Array Bool}(hr:Region.ready .any ops listed=[])(h:∀w,ah ex W w->D w->Q .normal a w):∀fuel,cd P ops Q ex W R fuel listed a N D
 |0=>⟨hr,h⟩
 |_+1=>⟨λ_=>h,λi hi=>by rw[hr] at hi;cases hi⟩
end
def ag(r:Nat)(I:Array Value)(T:TypeId)(w:World):Prop:=w.heap[r]?=some (.cells I T (0,0))
def ag.lt{r}{I}{T}{w}(h:ag r I T w):r<w.heap.size:=(Uv.1 h).1
def ag.closed(r)(I)(T):aQ (ag r I T):=λ_ _ h hb=>(hb.block r (ag.lt h)).trans h
def ag.cell{r}{I}{T}{w}(h:ag r I T w)(o):w.cell? ⟨r,o,none⟩=I[o]?:=by
 unfold ag at h;simp [World.cell?,h]
def ag.frozen{r}{I}{T}{w}(h:ag r I T w)(o):w.frozen? ⟨r,o,none⟩=false:=by
 unfold ag at h;simp [World.frozen?,h]
def ag.new(w:World)(I)(T):ag w I T (w.alloc (.cells I T)):=by
 show (w.heap.push _)[w.heap.size]?=_;simp
def ag.next{r}{I}{T}{w w'}(h:ag r I T w)(hb:Below w w w'):ag r I T w':=ag.closed r I T _ _ h hb
def ag.alloc{r}{I}{T}{w}(h:ag r I T w)(o:Obj):ag r I T (w.alloc o):=h.next ((Uk _ _).alloc (Ug _) o)
def ag.drew{r}{I}{T}{w}(h:ag r I T w):ag r I T w.drew:=h
def ag.drewN{r}{I}{T}{w}(h:ag r I T w)(n):ag r I T (w.drewN n):=h
def ag.far{r}{I}{T}{w}(h:ag r I T w){p}(G:r≠p.block)(v):ag r I T (w.setCell p v):=(XM _ _ _ _ G).trans h
def ag.set{r}{I}{T}{w}(h:ag r I T w)(o)(v):ag r (I.setIfInBounds o v) T (w.setCell ⟨r,o,none⟩ v):=by
 unfold ag at h ⊢;simp [World.setCell,Array.getElem?_modify,h]
def ag.over{ex:List Nat}{W w}{r}{I}{T}(h:ag r I T W)(Z:ah ex W w)(hr:r∉ex):ag r I T w:=(Z.block r (ag.lt h) hr).trans h
section
variable {P:Program}{ops:Array Oper}{Q:Exit->Act->au}{ex:List Nat}{W:World}{R:Nat->Bool}{N D:au}
end
def bR(L:List (Nat×Array Value×TypeId))(w:World):Prop:=∀x∈L,ag x.1 x.2.1 x.2.2 w
def bR.closed(L:List (Nat×Array Value×TypeId)):aQ (bR L):=λ_ _ h hb x hx=>ag.closed _ _ _ _ _ (h x hx) hb
def bR.over{ex:List Nat}{L:List (Nat×Array Value×TypeId)}{w w'}(h:bR L w)(Z:ah ex w w')(hn:∀x∈L,x.1∉ex):bR L w':=λx hx=>(h x hx).over Z (hn x hx)
def bR.cons{L:List (Nat×Array Value×TypeId)}{r}{I}{T}{w}(h:ag r I T w)(hs:bR L w):bR ((r,I,T)::L) w:=λx hx=>by
 rcases UM.1 hx with rfl|hx
 .exact h
 .exact hs x hx
def bR.head{L:List (Nat×Array Value×TypeId)}{r}{I}{T}{w}(h:bR ((r,I,T)::L) w):ag r I T w:=h (r,I,T) s_
def bR.tail{L:List (Nat×Array Value×TypeId)}{x:Nat×Array Value×TypeId}{w}(h:bR (x::L) w):bR L w:=λy hy=>h y (by simp [hy])
def bR.nil(w):bR [] w:=λx hx=>by cases hx
def mx:Value->Bool
 |.agg _=>false
 |.tuple _=>false
 |_=>true
theorem AW{P}{r}{T}:∀(vs old) (pre) (w),vs.length=old.length->(∀v∈vs,mx v=true)->ag r (pre++old).toArray T w->
 ∃w',(storeCells ⟨r,0,none⟩ vs pre.length).run P w=.ok () w'/\ah [r] w w'/\ag r (pre++vs).toArray T w'
 |[],[],pre,w,_,_,h=>⟨w,rfl,ah.refl _ _,h⟩
 |[],_::_,_,_,hl,_,_=>by simp at hl
 |_::_,[],_,_,hl,_,_=>by simp at hl
 |v::vs,o::old,pre,w,hl,hv,h=>by
  have hc:w.cell? ⟨r,pre.length,none⟩=some o:=by rw[h.cell];simp
  have hf:=h.frozen pre.length;have h1:=by
   have:=h.set pre.length v;have e:((pre++o::old).toArray.setIfInBounds pre.length v)=((pre++[v])++old).toArray:=by simp
   rw[e] at this;exact this
  have⟨w',hr,Z,hb⟩:=AW (P:=P) vs old (pre++[v]) (w.setCell ⟨r,pre.length,none⟩ v) (by simpa using hl) (λu hu=>hv u (by simp [hu])) h1;refine⟨w',?_,ah.trans (ah.setCell (ah.refl _ _) (.inr s_) v) Z,by simpa using hb⟩;have e2:(⟨r,0,none⟩:Addr).add pre.length=⟨r,pre.length,none⟩:=by cases pre<;>simp [Addr.add]
  simp only[storeCells,e2];have bv:=hv v s_;rw[show (pre++[v]).length=pre.length+1 by simp] at hr;cases v<;>first
   |(simp [mx] at bv;done)
   |(show Sem.run P (Sem.bind (store _ _) _) w=_
     simp only[store,Sem.bind,Sem.run,hc,hf,V6,if_false];exact hr)
def A5{P}{r}{T}{zs}{v}{w}(hs:∀w,(sizeOf T).run P w=.ok zs.size w)(hl:v.cells.size=zs.size)(hv:∀u∈v.cells.toList,mx u=true)(h:ag r zs T w):
 ∃w',(Instr.storeAt T (.pointer r) v).run P w=.ok () w'/\ah [r] w w'/\ag r v.cells T w':=by
 obtain⟨w',h1,h2,h3⟩:=AW (P:=P) v.cells.toList zs.toList [] w (by simpa using hl) hv kj;refine⟨w',?_,h2,by simpa using h3⟩;simp [Instr.storeAt,Instr.sureAddr,storeVar,(hs w),hl];simpa using h1
section
variable {P:Program}{id:Nat}{ops:Array Oper}{b:Bool}{Q:Exit->Act->au}{a:Act}{w:World}
def fO{A:Nat->Act}(F:Nat->au)(h1:(∀r W1,F r W1->Q .normal (A r) W1)->(Code.region id ops b).wp P Q a w)(h2:∀r W1,F r W1->Q .normal (A r) W1):(Code.region id ops b).wp P Q a w:=h1 h2
def sL{A:Nat->Nat->Act}(F:Nat->Nat->au)(h1:(∀r s W1,F r s W1->Q .normal (A r s) W1)->(Code.region id ops b).wp P Q a w)(h2:∀r s W1,F r s W1->Q .normal (A r s) W1):(Code.region id ops b).wp P Q a w:=h1 h2
end
def KD(C:au)(L:List (Nat×Array Value×TypeId)):au:=λw=>C w/\bR L w
def KD.closed{C:au}(h:aQ C)(L:List (Nat×Array Value×TypeId)):aQ (KD C L):=h.and (bR.closed L)
section
variable {P:Program}{ops:Array Oper}{Q:Exit->Act->au}{ex:List Nat}{W:World}{C:au}{L:List (Nat×Array Value×TypeId)}
def Nw{a}{listed:Array Bool}{f i d:Nat}{o}{zs}{T}(Z:ops[i]?=some o)(G:Region.wanted o (yielded ops a.tmps)=true)(hd:o.dst=some d)
 (H:∀w,(execOp a.eval o).run P w=.ok (.value (.pointer w)) (w.alloc (.cells zs T)))(hC:aQ C)
 (h:∀r,W.heap.size<=r->(∀x∈L,x.1<r)->(∃w,ah ex W w/\KD C ((r,zs,T)::L) w)->cd P ops Q ex W (λ_=>false) f (listed.setIfInBounds i true) (a.put (some d) (.pointer r)) (λ_=>True) (KD C ((r,zs,T)::L))):
 eM P ops Q ex W (λ_=>false) f listed a (λ_=>True) (KD C L) i:=λw hO K=>by
 unfold wpOp;simp only[Z,G,Vo];refine .inl ?_;unfold Oper.wp;rw[H w];simp only[Oper.upon,hd];have h1:KD C ((w.heap.size,zs,T)::L) (w.alloc (.cells zs T)):=by
  have hk:=KD.closed hC L _ _ K ((Uk _ _).alloc (Ug _) (.cells zs T));exact⟨hk.1,bR.cons (ag.new w zs T) hk.2⟩
 exact⟨λ_=>True,KD C ((w.heap.size,zs,T)::L),KD.closed hC _,λ_ _=>trivial,λ_=>rfl,hO.alloc _,h1,h w hO.size (λx hx=>(K.2 x hx).lt) ⟨_,hO.alloc _,h1⟩⟩
def N8{a}{listed:Array Bool}{f i fn:Nat}{o}{args}{v}(dd:Option Tmp)(g:au)(Z:ops[i]?=some o)(G:Region.wanted o (yielded ops a.tmps)=true)
 (bi:o.dst=dd)(H:∀w,(execOp a.eval o).run P w=.ok (.enter fn args) w)(F:aQ g)(hL:∀x∈L,x.1∉ex)
 (hc:∀w,C w->Calls P fn args w λe w'=>e=.returned v/\ah ex w w'/\g w')
 (h:(∃w,ah ex W w/\KD g L w)->cd P ops Q ex W (λ_=>false) f (listed.setIfInBounds i true) (a.put dd v) (λ_=>True) (KD g L)):
 eM P ops Q ex W (λ_=>false) f listed a (λ_=>True) (KD C L) i:=
 w_ (λ_=>True) (KD g L) Z G H (KD.closed F L) (λ_ _=>trivial) (λ_=>rfl)
  (λw _ hd=>(hc w hd.1).mono λ_ _ ⟨he,V,bb⟩=>⟨he,V,bb,hd.2.over V hL⟩) (by rw[bi];exact h)
def NH{a}{listed:Array Bool}{f i r}{o}{zs}{T}{x y}{v}(g F:List (Nat×Array Value×TypeId))(Z:ops[i]?=some o)(G:Region.wanted o (yielded ops a.tmps)=true)
 (K:o.op=.store T x y)(I:o.dst=none)(hx:a.eval x=.pointer r)(hy:a.eval y=v)(a6:∀w,(sizeOf T).run P w=.ok zs.size w)(hl:v.cells.size=zs.size)(hv:∀u∈v.cells.toList,mx u=true)
 (hr:W.heap.size<=r\/r∈ex)(hC:aQ C)(U:∀w w',C w->ah [r] w w'->C w')(hL:∀x∈g++F,x.1≠r)
 (h:(∃w,ah ex W w/\KD C (g++(r,v.cells,T)::F) w)->cd P ops Q ex W (λ_=>false) f (listed.setIfInBounds i true) a (λ_=>True) (KD C (g++(r,v.cells,T)::F))):
 eM P ops Q ex W (λ_=>false) f listed a (λ_=>True) (KD C (g++(r,zs,T)::F)) i:=λw hO hd=>by
 unfold wpOp;simp only[Z,G,Vo];refine .inl ?_;have⟨w',h1,h2,h3⟩:=A5 (P:=P) a6 hl hv (hd.2 (r,zs,T) s_);have H:(execOp a.eval o).run P w=.ok .skip w':=by
  unfold execOp;rw[K];simp only[hx,hy];simp [h1]
 unfold Oper.wp;rw[H];simp only[Oper.upon,I,Act.put];have ab:ah ex W w':=⟨h2.os.trans hO.os,h2.tape.trans hO.tape,h2.output.trans hO.output,Ui hO.size h2.size,λk hk hn=>(h2.block k (Un hk hO.size) (by
  intro V;rw[UD] at V;subst V;rcases hr with hr|hr
  .omega
  .exact hn hr)).trans (hO.block k hk hn)⟩
 have J:KD C (g++(r,v.cells,T)::F) w':=⟨U _ _ hd.1 h2,λz hz=>by
  rw[Vx,UM] at hz;rcases hz with hz|rfl|hz
  .exact (hd.2 z (by simp [hz])).over h2 (by simpa using hL z (by simp [hz]))
  .exact h3
  .exact (hd.2 z (by simp [hz])).over h2 (by simpa using hL z (by simp [hz]))⟩
 exact⟨λ_=>True,_,KD.closed hC _,λ_ _=>trivial,λ_=>rfl,ab,J,h ⟨w',ab,J⟩⟩
end
def an:aQ (λ_=>True):=aQ.true
def aI{r T:Nat}{I:Array Value}:aQ (ag r I T):=ag.closed _ _ _
def ah.belowGe{ex:List Nat}{B}{a W w}(h:ah ex W w)(hB:Below B a W)(hs:B<=W.heap.size)(hx:∀k∈ex,B<=k):Below B a w:=
 ⟨h.os.trans hB.os,h.tape.trans hB.tape,h.output.trans hB.output,Ui hB.size h.size,λk hk=>(h.block k (Un hk hs) (λhm=>by have:=hx k hm;omega)).trans (hB.block k hk)⟩
section
variable {P:Program}{ops:Array Oper}{Q:Exit->Act->au}{ex:List Nat}{W:World}{D:au}
def Nn{a}{listed:Array Bool}{f i fn:Nat}{o}{args}(dd:Option Tmp)(F:Value->au)(Z:ops[i]?=some o)(G:Region.wanted o (yielded ops a.tmps)=true)
 (bi:o.dst=dd)(H:∀w,(execOp a.eval o).run P w=.ok (.enter fn args) w)(U:∀v,aQ (F v))
 (hc:∀w,ah ex W w->D w->Calls P fn args w λe w'=>∃v,e=.returned v/\ah ex w w'/\F v w')
 (h:∀v,(∃w,ah ex W w/\F v w)->cd P ops Q ex W (λ_=>false) f (listed.setIfInBounds i true) (a.put dd v) (λ_=>True) (F v)):
 eM P ops Q ex W (λ_=>false) f listed a (λ_=>True) D i:=λw hO hd=>by
 unfold wpOp;simp only[Z,G,Vo];refine .inl ?_;unfold Oper.wp;rw[H w];refine (hc w hO hd).mono λe w' ⟨v,he,V,K⟩=>?_;subst he;rw[bi];exact⟨λ_=>True,F v,U v,λ_ _=>trivial,λ_=>rfl,hO.trans V,K,h v ⟨w',hO.trans V,K⟩⟩
def lO{a}{listed:Array Bool}{f i fn:Nat}{o}{args}{v}(dd:Option Tmp)(F:au)(Z:ops[i]?=some o)(G:Region.wanted o (yielded ops a.tmps)=true)
 (bi:o.dst=dd)(H:∀w,(execOp a.eval o).run P w=.ok (.enter fn args) w)(U:aQ F)
 (hc:∀w,ah ex W w->D w->Calls P fn args w λe w'=>e=.returned v/\ah ex w w'/\F w')
 (h:(∃w,ah ex W w/\F w)->cd P ops Q ex W (λ_=>false) f (listed.setIfInBounds i true) (a.put dd v) (λ_=>True) F):
 eM P ops Q ex W (λ_=>false) f listed a (λ_=>True) D i:=
 w_ (λ_=>True) F Z G H U (λ_ _=>trivial) (λ_=>rfl) hc (by rw[bi];exact h)
def NJ{a}{listed:Array Bool}{f i}{o}(r)(zs){T}{x y}{v}(F:au)(Z:ops[i]?=some o)(G:Region.wanted o (yielded ops a.tmps)=true)
 (K:o.op=.store T x y)(I:o.dst=none)(hx:a.eval x=.pointer r)(hy:a.eval y=v)(a6:∀w,(sizeOf T).run P w=.ok zs.size w)(hl:v.cells.size=zs.size)(hv:∀u∈v.cells.toList,mx u=true)
 (hr:W.heap.size<=r\/r∈ex)(hB:∀w,D w->ag r zs T w)(U:aQ F)(J:∀w w',D w->ah [r] w w'->ag r v.cells T w'->F w')
 (h:(∃w,ah ex W w/\F w)->cd P ops Q ex W (λ_=>false) f (listed.setIfInBounds i true) a (λ_=>True) F):
 eM P ops Q ex W (λ_=>false) f listed a (λ_=>True) D i:=λw hO hd=>by
 unfold wpOp;simp only[Z,G,Vo];refine .inl ?_;have⟨w',h1,h2,h3⟩:=A5 (P:=P) a6 hl hv (hB w hd);have H:(execOp a.eval o).run P w=.ok .skip w':=by
  unfold execOp;rw[K];simp only[hx,hy];simp [h1]
 unfold Oper.wp;rw[H];simp only[Oper.upon,I,Act.put];have ab:ah ex W w':=⟨h2.os.trans hO.os,h2.tape.trans hO.tape,h2.output.trans hO.output,Ui hO.size h2.size,λk hk hn=>(h2.block k (Un hk hO.size) (by
  intro V;rw[UD] at V;subst V;rcases hr with hr|hr
  .omega
  .exact hn hr)).trans (hO.block k hk hn)⟩
 exact⟨λ_=>True,F,U,λ_ _=>trivial,λ_=>rfl,ab,J _ _ hd h2 h3,h ⟨w',ab,J _ _ hd h2 h3⟩⟩
def lM{D D2 N:au}{R:Nat->Bool}(h:∀w,D w->D2 w):∀{f} {l:Array Bool} {a},cd P ops Q ex W R f l a N D2->cd P ops Q ex W R f l a N D
 |0,_,_,k=>⟨k.1,λw Z hd=>k.2 w Z (h w hd)⟩
 |_+1,_,_,k=>⟨λh0 w Z hd=>k.1 h0 w Z (h w hd),λi hi w Z hd=>k.2 i hi w Z (h w hd)⟩
end
def aw(w:World)(c0)(g):ag w c0 g (w.alloc (.cells c0 g))/\Below w w (w.alloc (.cells c0 g)):=⟨ag.new _ _ _,(Uk _ _).alloc (Ug _) _⟩
def oh(w:World)(c0)(g)(c1)(F):ag w c0 g ((w.alloc (.cells c0 g)).alloc (.cells c1 F))/\ag (w.alloc (.cells c0 g)).heap.size c1 F ((w.alloc (.cells c0 g)).alloc (.cells c1 F))/\Below w w ((w.alloc (.cells c0 g)).alloc (.cells c1 F)):=⟨(ag.new _ _ _).alloc _,ag.new _ _ _,((Uk _ _).alloc (Ug _) _).alloc (by simp;try omega) _⟩
def cr(w:World)(c0)(g)(c1)(F):ag w c0 g ((w.alloc (.cells c0 g)).alloc (.cells c1 F))/\ag (w.heap.size+1) c1 F ((w.alloc (.cells c0 g)).alloc (.cells c1 F))/\Below w w ((w.alloc (.cells c0 g)).alloc (.cells c1 F)):=by
 have h:=oh w c0 g c1 F;simp at h;exact h
def pW(w:World)(c0)(g)(c1)(F)(c2)(G):ag w c0 g (((w.alloc (.cells c0 g)).alloc (.cells c1 F)).alloc (.cells c2 G))/\ag (w.alloc (.cells c0 g)).heap.size c1 F (((w.alloc (.cells c0 g)).alloc (.cells c1 F)).alloc (.cells c2 G))/\ag ((w.alloc (.cells c0 g)).alloc (.cells c1 F)).heap.size c2 G (((w.alloc (.cells c0 g)).alloc (.cells c1 F)).alloc (.cells c2 G))/\Below w w (((w.alloc (.cells c0 g)).alloc (.cells c1 F)).alloc (.cells c2 G)):=⟨((ag.new _ _ _).alloc _).alloc _,(ag.new _ _ _).alloc _,ag.new _ _ _,(((Uk _ _).alloc (Ug _) _).alloc (by simp;try omega) _).alloc (by simp;try omega) _⟩
def fh(w:World)(c0)(g)(c1)(F)(c2)(G):ag w c0 g (((w.alloc (.cells c0 g)).alloc (.cells c1 F)).alloc (.cells c2 G))/\ag (w.heap.size+1) c1 F (((w.alloc (.cells c0 g)).alloc (.cells c1 F)).alloc (.cells c2 G))/\ag (w.heap.size+1+1) c2 G (((w.alloc (.cells c0 g)).alloc (.cells c1 F)).alloc (.cells c2 G))/\Below w w (((w.alloc (.cells c0 g)).alloc (.cells c1 F)).alloc (.cells c2 G)):=by
 have h:=pW w c0 g c1 F c2 G;simp at h;exact h
def T6(w:World)(c0)(g)(c1)(F)(c2)(G)(c3)(H):ag w c0 g ((((w.alloc (.cells c0 g)).alloc (.cells c1 F)).alloc (.cells c2 G)).alloc (.cells c3 H))/\ag (w.alloc (.cells c0 g)).heap.size c1 F ((((w.alloc (.cells c0 g)).alloc (.cells c1 F)).alloc (.cells c2 G)).alloc (.cells c3 H))/\ag ((w.alloc (.cells c0 g)).alloc (.cells c1 F)).heap.size c2 G ((((w.alloc (.cells c0 g)).alloc (.cells c1 F)).alloc (.cells c2 G)).alloc (.cells c3 H))/\ag (((w.alloc (.cells c0 g)).alloc (.cells c1 F)).alloc (.cells c2 G)).heap.size c3 H ((((w.alloc (.cells c0 g)).alloc (.cells c1 F)).alloc (.cells c2 G)).alloc (.cells c3 H))/\Below w w ((((w.alloc (.cells c0 g)).alloc (.cells c1 F)).alloc (.cells c2 G)).alloc (.cells c3 H)):=⟨(((ag.new _ _ _).alloc _).alloc _).alloc _,((ag.new _ _ _).alloc _).alloc _,(ag.new _ _ _).alloc _,ag.new _ _ _,((((Uk _ _).alloc (Ug _) _).alloc (by simp;try omega) _).alloc (by simp;try omega) _).alloc (by simp;try omega) _⟩
def AH(w:World)(c0)(g)(c1)(F)(c2)(G)(c3)(H):ag w c0 g ((((w.alloc (.cells c0 g)).alloc (.cells c1 F)).alloc (.cells c2 G)).alloc (.cells c3 H))/\ag (w.heap.size+1) c1 F ((((w.alloc (.cells c0 g)).alloc (.cells c1 F)).alloc (.cells c2 G)).alloc (.cells c3 H))/\ag (w.heap.size+1+1) c2 G ((((w.alloc (.cells c0 g)).alloc (.cells c1 F)).alloc (.cells c2 G)).alloc (.cells c3 H))/\ag (w.heap.size+1+1+1) c3 H ((((w.alloc (.cells c0 g)).alloc (.cells c1 F)).alloc (.cells c2 G)).alloc (.cells c3 H))/\Below w w ((((w.alloc (.cells c0 g)).alloc (.cells c1 F)).alloc (.cells c2 G)).alloc (.cells c3 H)):=by
 have h:=T6 w c0 g c1 F c2 G c3 H;simp at h;exact h
def T9(w:World)(c0)(g)(c1)(F)(c2)(G)(c3)(H)(c4)(I):ag w c0 g (((((w.alloc (.cells c0 g)).alloc (.cells c1 F)).alloc (.cells c2 G)).alloc (.cells c3 H)).alloc (.cells c4 I))/\ag (w.alloc (.cells c0 g)).heap.size c1 F (((((w.alloc (.cells c0 g)).alloc (.cells c1 F)).alloc (.cells c2 G)).alloc (.cells c3 H)).alloc (.cells c4 I))/\ag ((w.alloc (.cells c0 g)).alloc (.cells c1 F)).heap.size c2 G (((((w.alloc (.cells c0 g)).alloc (.cells c1 F)).alloc (.cells c2 G)).alloc (.cells c3 H)).alloc (.cells c4 I))/\ag (((w.alloc (.cells c0 g)).alloc (.cells c1 F)).alloc (.cells c2 G)).heap.size c3 H (((((w.alloc (.cells c0 g)).alloc (.cells c1 F)).alloc (.cells c2 G)).alloc (.cells c3 H)).alloc (.cells c4 I))/\ag ((((w.alloc (.cells c0 g)).alloc (.cells c1 F)).alloc (.cells c2 G)).alloc (.cells c3 H)).heap.size c4 I (((((w.alloc (.cells c0 g)).alloc (.cells c1 F)).alloc (.cells c2 G)).alloc (.cells c3 H)).alloc (.cells c4 I))/\Below w w (((((w.alloc (.cells c0 g)).alloc (.cells c1 F)).alloc (.cells c2 G)).alloc (.cells c3 H)).alloc (.cells c4 I)):=⟨((((ag.new _ _ _).alloc _).alloc _).alloc _).alloc _,(((ag.new _ _ _).alloc _).alloc _).alloc _,((ag.new _ _ _).alloc _).alloc _,(ag.new _ _ _).alloc _,ag.new _ _ _,(((((Uk _ _).alloc (Ug _) _).alloc (by simp;try omega) _).alloc (by simp;try omega) _).alloc (by simp;try omega) _).alloc (by simp;try omega) _⟩
def T8(w:World)(c0)(g)(c1)(F)(c2)(G)(c3)(H)(c4)(I):ag w c0 g (((((w.alloc (.cells c0 g)).alloc (.cells c1 F)).alloc (.cells c2 G)).alloc (.cells c3 H)).alloc (.cells c4 I))/\ag (w.heap.size+1) c1 F (((((w.alloc (.cells c0 g)).alloc (.cells c1 F)).alloc (.cells c2 G)).alloc (.cells c3 H)).alloc (.cells c4 I))/\ag (w.heap.size+1+1) c2 G (((((w.alloc (.cells c0 g)).alloc (.cells c1 F)).alloc (.cells c2 G)).alloc (.cells c3 H)).alloc (.cells c4 I))/\ag (w.heap.size+1+1+1) c3 H (((((w.alloc (.cells c0 g)).alloc (.cells c1 F)).alloc (.cells c2 G)).alloc (.cells c3 H)).alloc (.cells c4 I))/\ag (w.heap.size+1+1+1+1) c4 I (((((w.alloc (.cells c0 g)).alloc (.cells c1 F)).alloc (.cells c2 G)).alloc (.cells c3 H)).alloc (.cells c4 I))/\Below w w (((((w.alloc (.cells c0 g)).alloc (.cells c1 F)).alloc (.cells c2 G)).alloc (.cells c3 H)).alloc (.cells c4 I)):=by
 have h:=T9 w c0 g c1 F c2 G c3 H c4 I;simp at h;exact h
section
variable {P:Program}{ops:Array Oper}{Q:Exit->Act->au}{ex:List Nat}{W:World}{R:Nat->Bool}{N D:au}
def Mr{i}{oi}{v}(B:Nat->Bool)(hi:ops[i]?=some oi)(Z:∀(j:Nat) (o) I b,ops[j]?=some o->o.op≠.select I b)
 (hQ:∀c a d v w,Q (.panic c) (Act.put a d v) w->Q (.panic c) a w)(hB:∀j oj,ops[j]?=some oj->B j=true->∃e∈oj.after,Region.binds .any e=true/\(e.on=i\/B e.on=true)):
 ∀(fuel) (listed:Array Bool) (a) (D:au),aQ D->(∀w,D w->N w)->
  (∀j,B j=true->listed.getD j true=false)->
  (∀j oj,ops[j]?=some oj->j≠i->listed.getD j true=false->(∀e∈oj.after,Region.binds .any e=true->e.on≠i)->oi.apart ops oj=true/\(B j=false->R j=false))->
  i∈Region.ready .any ops listed->R i=false->B i=false->jH P ops ex W N oi v a->
  cd P ops Q ex W R fuel (listed.setIfInBounds i true) (a.put oi.dst v) N D->cd P ops Q ex W R (fuel+1) listed a N D:=by
 intro fuel
 induction fuel with
 |zero=>
  intro listed a D hD hN _ _ hr hR _ hy H;exact Jx
 |succ fuel g=>
  intro listed a D hD hN a4 V hr hR a6 hy H;refine⟨λh=>zj,λj hj w hO hd=>?_⟩;by_cases ae:j=i
  .exact FC
  .have⟨ac,oj,aM,az⟩:=Yf.1 hj;have a8:∀m,listed.getD m true=true\/listed.getD m true=false:=λm=>by cases listed.getD m true<;>simp
   have cz:∀m,listed.getD m false=true->listed.getD m true=true:=λm h=>by
    rcases Vn m listed.size with J|J
    .simpa[J] using h
    .simp [Xr J] at h
   have aF:∀e∈oj.after,Region.binds .any e=true->e.on≠i:=λe he hb a5=>by
    exact Gv
   have a3:B j=false:=by
    cases hb:B j
    .rfl
    .have⟨e,he,a2,h9⟩:=hB j oj aM hb;rcases h9 with h9|h9
     .exact absurd h9 (aF e he a2)
     .have h8:=cz _ (az e he a2);rw[a4 _ h9] at h8;cases h8
   have⟨aG,ax⟩:=V j oj aM ae ac aF;have h2:=Bl aM aG (λI b=>Z i oi I b hi) (λI b=>Z j oj I b aM) (λc a w=>hQ c a _ _ w) hy (H.2 j (XY hj ae) w hO hd);have G:∀k ok,ops[k]?=some ok->k≠i->(listed.setIfInBounds j true).getD k true=false->
    (∀e∈ok.after,Region.binds .any e=true->e.on≠i)->oi.apart ops ok=true/\(B k=false->R k=false):=λk ok hk cy aZ aL=>by
    exact E8
   refine XK (λa' w' h3=>?_) h2;have⟨aX,N',F,U,aa,a1,ab,K,h4⟩:=h3;obtain rfl:=a1 (ax a3);refine⟨_,F,U,aa,λ_=>rfl,ab,K,g (listed.setIfInBounds j true) a' F U aa (λb hb=>?_) G (XY hr (Ne.symm ae)) hR a6 aX ?_⟩
   .have a7:j≠b:=by rintro rfl;rw[a3] at hb;cases hb
    rw[getD_set_ne true a7];exact a4 b hb
   .rw[Array.setIfInBounds_comm _ _ ae];exact h4
def pu(ops:Array Oper)(k:Nat):List Nat:=(List.range ops.size).foldl (λB j=>match ops[j]? with|some oj=>if j != k&&oj.after.any (λe=>Region.binds .any e&&(e.on==k||B.contains e.on)) then B++[j] else B|none=>B) []
def Di(ops:Array Oper)(listed:Array Bool)(k:Nat)(B:List Nat):Bool:=!B.contains k&&B.all λj=>!listed.getD j true&&match ops[j]? with|some oj=>oj.after.any (λe=>Region.binds .any e&&(e.on==k||B.contains e.on))|none=>false
def pq(ops:Array Oper)(R:Nat->Bool):List Bool->Nat->Array Bool->Bool
 |true::fl,k,listed=>(Region.ready .any ops listed).contains k&&Region.free .any ops listed k&&!R k&&Di ops listed k (pu ops k)&&
   ((List.range ops.size).all λj=>j==k||listed.getD j true||!R j||(pu ops k).contains j)&&
   pq ops R fl (k+1) (listed.setIfInBounds k true)
 |false::fl,k,listed=>pq ops R fl (k+1) listed
 |[],_,_=>true
theorem wz{A}(hne:Nonempty (aU ex W D))(hs:Region.noSelect ops=true)(hQ:∀c a d v w,Q (.panic c) (Act.put a d v) w->Q (.panic c) a w){fuel}(hD:aQ D)(hN:∀w,D w->N w):
 ∀(l) (fl:List Bool) (k) (listed:Array Bool) (a),(∀j,l[j]?=ops[k+j]?)->
  pq ops R fl k listed=true->lw a.tmps.size l fl=true->fl.length<=l.length->
  (∀E:au,aQ E->(∀w,E w->N w)->Nonempty (aU ex W E)->fg P ops (Cl ex W E) (λa'=>a'=A) l fl a)->
  cd P ops Q ex W R fuel (mu fl k listed) A N D->cd P ops Q ex W R (fuel+fl.count true) listed a N D
 |_,[],_,listed,a,_,_,_,_,h,H=>by
  exact Ga
 |[],_::_,_,_,_,_,_,_,ac,_,_=>by simp at ac
 |o::l,false::fl,k,listed,a,hl,hB,hF,ac,h,H=>by
  have:=wz hne hs hQ hD hN l fl (k+1) listed a (λj=>by have:=hl (j+1);simpa[Wb,Wg 1 j] using this) hB hF uM h H;simpa using this
 |o::l,true::fl,k,listed,a,hl,hB,hF,ac,h,H=>by
  have h0:=by simpa using (hl 0).symm
  simp only[pq,Ux,V0] at hB;have⟨⟨⟨⟨⟨hr,hf⟩,hRk⟩,a2⟩,ax⟩,cy⟩:=hB;simp only[lw,Ux] at hF;have⟨F,U⟩:=hF;obtain⟨d,hd⟩:∃d,o.dst=some d:=by
   exact Fe
  rw[hd] at F;simp at F;have⟨aG,bZ⟩:=F;obtain⟨v,hv⟩:∃v,∀E:au,aQ E->(∀w,E w->N w)->Nonempty (aU ex W E)->YieldsIn P ops (Cl ex W E) o v a/\fg P ops (Cl ex W E) (λa'=>a'=A) l fl (a.put o.dst v):=by
   exact Ku
  have g:=wz hne hs hQ hD hN l fl (k+1) (listed.setIfInBounds k true) (a.put o.dst v) (λj=>by have:=hl (j+1);simpa[Wb,Wg 1 j] using this) cy (by rw[tw];exact U) uM (λE hE bv cb=>(hv E hE bv cb).2) H;unfold Di at a2;simp only[Ux,V0,US] at a2;have⟨aa,Z⟩:=a2;have K:∀j,(pu ops k).contains j=true->j∈pu ops k:=λj h=>by simpa using h
  have V:∀j oj,ops[j]?=some oj->j≠k->listed.getD j true=false->(∀e∈oj.after,Region.binds .any e=true->e.on≠k)->o.apart ops oj=true/\((pu ops k).contains j=false->R j=false):=λj oj hj ad aZ aL=>by
   refine⟨Region.free_spec h0 hf j oj hj ad aZ aL,λhb=>?_⟩;have h1:=US.1 ax j (V4.2 (Uv.1 hj).1);simp only[V9,VC,ad,false_or,aZ,V6,V0,hb,or_false] at h1;exact h1
  have:=Mr (λj=>(pu ops k).contains j) h0 (Region.noSelect_spec hs) hQ
   (λj oj hj hb=>by
     have h1:=(Z j (K j hb)).2;rw[hj] at h1;have⟨e,he,h2⟩:=Array.any_eq_true'.1 h1;simp only[Ux,V9,VC] at h2;exact⟨e,he,h2.1,h2.2⟩)
   (fuel+fl.count true) listed a D hD hN (λj hb=>(Z j (K j hb)).1) V (by simpa using hr) hRk aa (λE hE bv cb=>(hv E hE bv cb).1) g
  simpa[Yh,Wb] using this
def jE{l}{a A}{listed:Array Bool}{fuel}(hne:∃w,ah ex W w/\D w)(fl:List Bool)(f)(hD:aQ D)(hN:∀w,D w->N w)(hf:fuel=f+fl.count true)(hs:Region.noSelect l.toArray=true)
 (hB:pq l.toArray R fl 0 listed=true)(hF:lw a.tmps.size l fl=true)(ac:fl.length<=l.length)
 (h:∀E:au,aQ E->(∀w,E w->N w)->Nonempty (aU ex W E)->fg P l.toArray (λw'=>∃c:aU ex W E,w'=c.wd) (λa'=>a'=A) l fl a)
 (H:cd P l.toArray (NoPanic Q) ex W R f (mu fl 0 listed) A N D):cd P l.toArray (NoPanic Q) ex W R fuel listed a N D:=
 hf▸wz (hne.elim λw G=>⟨⟨w,G.1,G.2⟩⟩) hs Bv hD hN l fl 0 listed a s_ hB hF ac h H
def Bm{a}{listed:Array Bool}{f i fn:Nat}{o}{args}(dd:Option Tmp)(N':au)(F:Value->au)(Z:ops[i]?=some o)(G:Region.wanted o (yielded ops a.tmps)=true)
 (bi:o.dst=dd)(H:∀w,(execOp a.eval o).run P w=.ok (.enter fn args) w)(U:∀v,aQ (F v))(aa:∀v u,F v u->N' u)(hR:R i=false->N'=N)
 (hc:∀w,ah ex W w->D w->Calls P fn args w λe w'=>∃v,e=.returned v/\ah ex w w'/\F v w')
 (h:∀v,(∃w,ah ex W w/\F v w)->cd P ops Q ex W R f (listed.setIfInBounds i true) (a.put dd v) N' (F v)):
 eM P ops Q ex W R f listed a N D i:=λw hO hd=>by
 unfold wpOp;simp only[Z,G,Vo];refine .inl ?_;unfold Oper.wp;rw[H w];refine (hc w hO hd).mono λe w' ⟨v,he,V,K⟩=>?_;subst he;rw[bi];exact⟨N',F v,U v,aa v,hR,hO.trans V,K,h v ⟨w',hO.trans V,K⟩⟩
def Cf{a}{listed:Array Bool}{f i}{o}(dd:Option Tmp)(N':au)(F:Value->au)(Z:ops[i]?=some o)(G:Region.wanted o (yielded ops a.tmps)=true)
 (bi:o.dst=dd)(U:∀v,aQ (F v))(aa:∀v u,F v u->N' u)(hR:R i=false->N'=N)
 (H:∀w,ah ex W w->D w->∃v w',(execOp a.eval o).run P w=.ok (.value v) w'/\ah ex w w'/\F v w')
 (h:∀v,(∃w,ah ex W w/\F v w)->cd P ops Q ex W R f (listed.setIfInBounds i true) (a.put dd v) N' (F v)):
 eM P ops Q ex W R f listed a N D i:=λw hO hd=>by
 unfold wpOp;simp only[Z,G,Vo];refine .inl ?_;have⟨v,w',h1,h2,h3⟩:=H w hO hd;unfold Oper.wp;rw[h1];simp only[Oper.upon];rw[bi];exact⟨N',F v,U v,aa v,hR,hO.trans h2,h3,h v ⟨w',hO.trans h2,h3⟩⟩
end
section
variable {P:Program}{ops:Array Oper}{Q:Exit->Act->au}{ex:List Nat}{W:World}{N D:au}
theorem xS:∀{f} {l:Array Bool} {a} {N' D:au},cd P ops Q ex W (λ_=>false) f l a N' D->cd P ops Q ex W (λ_=>false) f l a (λ_=>True) D
 |0,_,_,_,_,k=>k
 |_+1,_,_,_,_,k=>⟨k.1,λi hi w Z hd=>XK (λ_ _ ⟨_,F,h1,_,_,h4,h5,h6⟩=>⟨λ_=>True,F,h1,λ_ _=>trivial,λ_=>rfl,h4,h5,xS h6⟩) (k.2 i hi w Z hd)⟩
def Ou{a}{listed:Array Bool}{f i fn:Nat}{o}{args}{v}(dd:Option Tmp)(F:au)(Z:ops[i]?=some o)(G:Region.wanted o (yielded ops a.tmps)=true)
 (bi:o.dst=dd)(H:∀w,(execOp a.eval o).run P w=.ok (.enter fn args) w)(U:aQ F)(hN:∀w,F w->N w)
 (hc:∀w,ah ex W w->D w->Calls P fn args w λe w'=>e=.returned v/\ah ex w w'/\F w')
 (h:(∃w,ah ex W w/\F w)->cd P ops Q ex W (λ_=>false) f (listed.setIfInBounds i true) (a.put dd v) N F):
 eM P ops Q ex W (λ_=>false) f listed a N D i:=
 w_ N F Z G H U hN (λ_=>rfl) hc (by rw[bi];exact h)
def Cv{a}{listed:Array Bool}{f i d:Nat}{o}(F:Nat->Value)(zs)(T)(Z:ops[i]?=some o)(G:Region.wanted o (yielded ops a.tmps)=true)(hd:o.dst=some d)
 (H:∀w,(execOp a.eval o).run P w=.ok (.value (F w)) (w.alloc (.cells zs T)))(hD:aQ D)
 (h:∀r,W.heap.size<=r->(∃w,ah ex W w/\(D w/\ag r zs T w))->cd P ops Q ex W (λ_=>false) f (listed.setIfInBounds i true) (a.put (some d) (F r)) (λ_=>True) (λw=>D w/\ag r zs T w)):
 eM P ops Q ex W (λ_=>false) f listed a (λ_=>True) D i:=λw hO K=>by
 unfold wpOp;simp only[Z,G,Vo];refine .inl ?_;unfold Oper.wp;rw[H w];simp only[Oper.upon,hd];have h1:D (w.alloc (.cells zs T))/\ag w zs T (w.alloc (.cells zs T)):=⟨hD _ _ K ((Uk _ _).alloc (Ug _) (.cells zs T)),ag.new w zs T⟩
 exact⟨λ_=>True,λw'=>D w'/\ag w zs T w',hD.and aI,λ_ _=>trivial,λ_=>rfl,hO.alloc _,h1,h w hO.size ⟨_,hO.alloc _,h1⟩⟩
end
section
variable {P:Program}{ops:Array Oper}{Q:Exit->Act->au}{ex:List Nat}{W:World}{D:au}
def lY{a}{listed:Array Bool}{f i}{o}(dd:Option Tmp)(F:Value->au)(Z:ops[i]?=some o)(G:Region.wanted o (yielded ops a.tmps)=true)
 (bi:o.dst=dd)(U:∀v,aQ (F v))
 (H:∀w,ah ex W w->D w->∃v w',(execOp a.eval o).run P w=.ok (.value v) w'/\ah ex w w'/\F v w')
 (h:∀v,(∃w,ah ex W w/\F v w)->cd P ops Q ex W (λ_=>false) f (listed.setIfInBounds i true) (a.put dd v) (λ_=>True) (F v)):
 eM P ops Q ex W (λ_=>false) f listed a (λ_=>True) D i:=λw hO hd=>by
 unfold wpOp;simp only[Z,G,Vo];refine .inl ?_;have⟨v,w',h1,h2,h3⟩:=H w hO hd;unfold Oper.wp;rw[h1];simp only[Oper.upon];rw[bi];exact⟨λ_=>True,F v,U v,λ_ _=>trivial,λ_=>rfl,hO.trans h2,h3,h v ⟨w',hO.trans h2,h3⟩⟩
end
section
variable {P : Program}{ops : Array Oper}{Q : Exit -> Act -> au}{ex : List Nat}{W : World}{R : Nat -> Bool}{N D : au}
def aB{a : Act}{listed : Array Bool}{f : Nat}(i : Nat)(h : eM P ops Q ex W R f listed a N D i)(hr : Region.ready .any ops listed = [i] := by kernel_rfl) : cd P ops Q ex W R (f + 1) listed a N D :=
  Bc [i] f rfl hr (by simp) (ak.cons h ak.nil)
def aR{a : Act}{listed : Array Bool}{f : Nat}(rs : List Nat)(h : ak P ops Q ex W R f listed a N D rs)(hr : Region.ready .any ops listed = rs := by kernel_rfl)(hn : rs ≠ [] := by simp) : cd P ops Q ex W R (f + 1) listed a N D :=
  Bc rs f rfl hr hn h
def cV{a : Act}{listed : Array Bool}{f : Nat}(h : ∀ w, ah ex W w -> D w -> Q .normal a w)(hr : Region.ready .any ops listed = [] := by kernel_rfl) : cd P ops (NoPanic Q) ex W R f listed a N D :=
  jc hr (λw h1 h2 => NoPanic.normal (h w h1 h2)) f
def aD{l : List Oper}{a A : Act}{listed : Array Bool}{fuel : Nat}(hne : ∃ w, ah ex W w /\ D w)(fl : List Bool)(f : Nat)(hD : aQ D)(hN : ∀ w, D w -> N w)
    (H : cd P l.toArray (NoPanic Q) ex W R f (mu fl 0 listed) A N D)
    (h : ∀ E : au, aQ E -> (∀ w, E w -> N w) -> Nonempty (aU ex W E) -> fg P l.toArray (λw' => ∃ c : aU ex W E, w' = c.wd) (λa' => a' = A) l fl a := by intro E hE bv cb; (repeat (first | (refine gB ?_; go_big_quiet_step (fail); refine wpQuiet_nil ?_) | refine gA ?_)); exact gC rfl)
    (hf : fuel = f + fl.count true := by kernel_rfl)(hs : Region.noSelect l.toArray = true := by kernel_rfl)(hB : pJ l.toArray R fl 0 listed = true := by kernel_rfl)(hF : lw a.tmps.size l fl = true := by kernel_rfl)(ac : fl.length <= l.length := by simp) : cd P l.toArray (NoPanic Q) ex W R fuel listed a N D :=
  lc hne fl f hD hN hf hs hB hF ac h H
def wk{l : List Oper}{a A : Act}{listed : Array Bool}{fuel : Nat}(hne : ∃ w, ah ex W w /\ D w)(fl : List Bool)(f : Nat)(hD : aQ D)(hN : ∀ w, D w -> N w)
    (H : cd P l.toArray (NoPanic Q) ex W R f (mu fl 0 listed) A N D)
    (h : ∀ E : au, aQ E -> (∀ w, E w -> N w) -> Nonempty (aU ex W E) -> fg P l.toArray (λw' => ∃ c : aU ex W E, w' = c.wd) (λa' => a' = A) l fl a := by intro E hE bv cb; (repeat (first | (refine gB ?_; go_big_quiet_step (fail); refine wpQuiet_nil ?_) | refine gA ?_)); exact gC rfl)
    (hf : fuel = f + fl.count true := by kernel_rfl)(hs : Region.noSelect l.toArray = true := by kernel_rfl)(hB : pq l.toArray R fl 0 listed = true := by kernel_rfl)(hF : lw a.tmps.size l fl = true := by kernel_rfl)(ac : fl.length <= l.length := by simp) : cd P l.toArray (NoPanic Q) ex W R fuel listed a N D :=
  jE hne fl f hD hN hf hs hB hF ac h H
end
section
variable {P:Program}{ops:Array Oper}{Q:Exit->Act->au}{ex:List Nat}{W:World}{D:au}
def bG{a}{listed:Array Bool}{f i fn:Nat}{o}{args}(dd:Option Tmp)(F:Value->au)(U:∀v,aQ (F v))(hc:∀w,ah ex W w->D w->Calls P fn args w λe w'=>∃v,e=.returned v/\ah ex w w'/\F v w')(h:∀v,(∃w,ah ex W w/\F v w)->cd P ops Q ex W (λ_=>false) f (listed.setIfInBounds i true) (a.put dd v) (λ_=>True) (F v))(Z:ops[i]?=some o:=by rfl)(G:Region.wanted o (yielded ops a.tmps)=true:=by rfl)(bi:o.dst=dd:=by rfl)(H:∀w,(execOp a.eval o).run P w=.ok (.enter fn args) w:=by intro _;go_simp):
 eM P ops Q ex W (λ_=>false) f listed a (λ_=>True) D i:=Nn dd F Z G bi H U hc h
end
section
variable {P:Program}{ops:Array Oper}{Q:Exit->Act->au}{ex:List Nat}{W:World}{R:Nat->Bool}{N D:au}
def iR{a}{listed:Array Bool}{f i fn:Nat}{o}{args}(dd:Option Tmp)(N':au)(F:Value->au)(U:∀v,aQ (F v))(aa:∀v u,F v u->N' u)(hR:R i=false->N'=N)(hc:∀w,ah ex W w->D w->Calls P fn args w λe w'=>∃v,e=.returned v/\ah ex w w'/\F v w')(h:∀v,(∃w,ah ex W w/\F v w)->cd P ops Q ex W R f (listed.setIfInBounds i true) (a.put dd v) N' (F v))(Z:ops[i]?=some o:=by rfl)(G:Region.wanted o (yielded ops a.tmps)=true:=by rfl)(bi:o.dst=dd:=by rfl)(H:∀w,(execOp a.eval o).run P w=.ok (.enter fn args) w:=by intro _;go_simp):
 eM P ops Q ex W R f listed a N D i:=Bm dd N' F Z G bi H U aa hR hc h
end
section
variable {P:Program}{ops:Array Oper}{Q:Exit->Act->au}{ex:List Nat}{W:World}{C:au}{L:List (Nat×Array Value×TypeId)}
def dY{a}{listed:Array Bool}{f i fn:Nat}{o}{args}{v}(dd:Option Tmp)(g:au)(F:aQ g)(hL:∀x∈L,x.1∉ex)(hc:∀w,C w->Calls P fn args w λe w'=>e=.returned v/\ah ex w w'/\g w')(h:(∃w,ah ex W w/\KD g L w)->cd P ops Q ex W (λ_=>false) f (listed.setIfInBounds i true) (a.put dd v) (λ_=>True) (KD g L))(Z:ops[i]?=some o:=by rfl)(G:Region.wanted o (yielded ops a.tmps)=true:=by rfl)(bi:o.dst=dd:=by rfl)(H:∀w,(execOp a.eval o).run P w=.ok (.enter fn args) w:=by intro _;go_simp):
 eM P ops Q ex W (λ_=>false) f listed a (λ_=>True) (KD C L) i:=N8 dd g Z G bi H F hL hc h
end
section
variable {P:Program}{ops:Array Oper}{Q:Exit->Act->au}{ex:List Nat}{W:World}{C:au}{L:List (Nat×Array Value×TypeId)}
def dm{a}{listed:Array Bool}{f i d:Nat}{o}{zs}{T}(hC:aQ C)(h:∀r,W.heap.size<=r->(∀x∈L,x.1<r)->(∃w,ah ex W w/\KD C ((r,zs,T)::L) w)->cd P ops Q ex W (λ_=>false) f (listed.setIfInBounds i true) (a.put (some d) (.pointer r)) (λ_=>True) (KD C ((r,zs,T)::L)))(Z:ops[i]?=some o:=by rfl)(G:Region.wanted o (yielded ops a.tmps)=true:=by rfl)(hd:o.dst=some d:=by rfl)(H:∀w,(execOp a.eval o).run P w=.ok (.value (.pointer w)) (w.alloc (.cells zs T)):=by intro _;go_simp):
 eM P ops Q ex W (λ_=>false) f listed a (λ_=>True) (KD C L) i:=Nw Z G hd H hC h
end
section
variable {P:Program}{ops:Array Oper}{Q:Exit->Act->au}{ex:List Nat}{W:World}{D:au}
def fm{a}{listed:Array Bool}{f i}{o}(r)(zs){T}{x y}{v}(F:au)(hr:W.heap.size<=r\/r∈ex)(hB:∀w,D w->ag r zs T w)(U:aQ F)(J:∀w w',D w->ah [r] w w'->ag r v.cells T w'->F w')(h:(∃w,ah ex W w/\F w)->cd P ops Q ex W (λ_=>false) f (listed.setIfInBounds i true) a (λ_=>True) F)(Z:ops[i]?=some o:=by rfl)(G:Region.wanted o (yielded ops a.tmps)=true:=by rfl)(K:o.op=.store T x y:=by rfl)(I:o.dst=none:=by rfl)(hx:a.eval x=.pointer r:=by rfl)(hy:a.eval y=v:=by rfl)(a6:∀w,(sizeOf T).run P w=.ok zs.size w:=by intro _;go_simp)(hl:v.cells.size=zs.size:=by rfl)(hv:∀u∈v.cells.toList,mx u=true:=by simp [Value.cells,mx]):
 eM P ops Q ex W (λ_=>false) f listed a (λ_=>True) D i:=NJ r zs F Z G K I hx hy a6 hl hv hr hB U J h
end
section
variable {P:Program}{ops:Array Oper}{Q:Exit->Act->au}{ex:List Nat}{W:World}{C:au}{L:List (Nat×Array Value×TypeId)}
def fk{a}{listed:Array Bool}{f i r}{o}{zs}{T}{x y}{v}(g F:List (Nat×Array Value×TypeId))(hr:W.heap.size<=r\/r∈ex)(hC:aQ C)(U:∀w w',C w->ah [r] w w'->C w')(hL:∀x∈g++F,x.1≠r)(h:(∃w,ah ex W w/\KD C (g++(r,v.cells,T)::F) w)->cd P ops Q ex W (λ_=>false) f (listed.setIfInBounds i true) a (λ_=>True) (KD C (g++(r,v.cells,T)::F)))(Z:ops[i]?=some o:=by rfl)(G:Region.wanted o (yielded ops a.tmps)=true:=by rfl)(K:o.op=.store T x y:=by rfl)(I:o.dst=none:=by rfl)(hx:a.eval x=.pointer r:=by rfl)(hy:a.eval y=v:=by rfl)(a6:∀w,(sizeOf T).run P w=.ok zs.size w:=by intro _;go_simp)(hl:v.cells.size=zs.size:=by rfl)(hv:∀u∈v.cells.toList,mx u=true:=by simp [Value.cells,mx]):
 eM P ops Q ex W (λ_=>false) f listed a (λ_=>True) (KD C (g++(r,zs,T)::F)) i:=NH g F Z G K I hx hy a6 hl hv hr hC U hL h
end
def ag.q1{r T : Nat}{a0 : Value}{l : List Value}{w : World}(h : ag r (a0::l).toArray T w) : w.cell? ⟨r, 0, none⟩ = some a0 := (h.cell 0).trans (by simp)
def ag.q2{r T : Nat}{a0 a1 : Value}{l : List Value}{w : World}(h : ag r (a0::a1::l).toArray T w) : w.cell? ⟨r, 0, none⟩ = some a0 /\ w.cell? ⟨r, 1, none⟩ = some a1 := ⟨(h.cell 0).trans (by simp), (h.cell 1).trans (by simp)⟩
def ag.q3{r T : Nat}{a0 a1 a2 : Value}{l : List Value}{w : World}(h : ag r (a0::a1::a2::l).toArray T w) : w.cell? ⟨r, 0, none⟩ = some a0 /\ w.cell? ⟨r, 1, none⟩ = some a1 /\ w.cell? ⟨r, 2, none⟩ = some a2 := ⟨(h.cell 0).trans (by simp), (h.cell 1).trans (by simp), (h.cell 2).trans (by simp)⟩
def ag.q4{r T : Nat}{a0 a1 a2 a3 : Value}{l : List Value}{w : World}(h : ag r (a0::a1::a2::a3::l).toArray T w) : w.cell? ⟨r, 0, none⟩ = some a0 /\ w.cell? ⟨r, 1, none⟩ = some a1 /\ w.cell? ⟨r, 2, none⟩ = some a2 /\ w.cell? ⟨r, 3, none⟩ = some a3 := ⟨(h.cell 0).trans (by simp), (h.cell 1).trans (by simp), (h.cell 2).trans (by simp), (h.cell 3).trans (by simp)⟩
def ag.q5{r T : Nat}{a0 a1 a2 a3 a4 : Value}{l : List Value}{w : World}(h : ag r (a0::a1::a2::a3::a4::l).toArray T w) : w.cell? ⟨r, 0, none⟩ = some a0 /\ w.cell? ⟨r, 1, none⟩ = some a1 /\ w.cell? ⟨r, 2, none⟩ = some a2 /\ w.cell? ⟨r, 3, none⟩ = some a3 /\ w.cell? ⟨r, 4, none⟩ = some a4 := ⟨(h.cell 0).trans (by simp), (h.cell 1).trans (by simp), (h.cell 2).trans (by simp), (h.cell 3).trans (by simp), (h.cell 4).trans (by simp)⟩
def ag.q6{r T : Nat}{a0 a1 a2 a3 a4 a5 : Value}{l : List Value}{w : World}(h : ag r (a0::a1::a2::a3::a4::a5::l).toArray T w) : w.cell? ⟨r, 0, none⟩ = some a0 /\ w.cell? ⟨r, 1, none⟩ = some a1 /\ w.cell? ⟨r, 2, none⟩ = some a2 /\ w.cell? ⟨r, 3, none⟩ = some a3 /\ w.cell? ⟨r, 4, none⟩ = some a4 /\ w.cell? ⟨r, 5, none⟩ = some a5 := ⟨(h.cell 0).trans (by simp), (h.cell 1).trans (by simp), (h.cell 2).trans (by simp), (h.cell 3).trans (by simp), (h.cell 4).trans (by simp), (h.cell 5).trans (by simp)⟩
def ag.q7{r T : Nat}{a0 a1 a2 a3 a4 a5 g : Value}{l : List Value}{w : World}(h : ag r (a0::a1::a2::a3::a4::a5::g::l).toArray T w) : w.cell? ⟨r, 0, none⟩ = some a0 /\ w.cell? ⟨r, 1, none⟩ = some a1 /\ w.cell? ⟨r, 2, none⟩ = some a2 /\ w.cell? ⟨r, 3, none⟩ = some a3 /\ w.cell? ⟨r, 4, none⟩ = some a4 /\ w.cell? ⟨r, 5, none⟩ = some a5 /\ w.cell? ⟨r, 6, none⟩ = some g := ⟨(h.cell 0).trans (by simp), (h.cell 1).trans (by simp), (h.cell 2).trans (by simp), (h.cell 3).trans (by simp), (h.cell 4).trans (by simp), (h.cell 5).trans (by simp), (h.cell 6).trans (by simp)⟩
def ag.q8{r T : Nat}{a0 a1 a2 a3 a4 a5 g F : Value}{l : List Value}{w : World}(h : ag r (a0::a1::a2::a3::a4::a5::g::F::l).toArray T w) : w.cell? ⟨r, 0, none⟩ = some a0 /\ w.cell? ⟨r, 1, none⟩ = some a1 /\ w.cell? ⟨r, 2, none⟩ = some a2 /\ w.cell? ⟨r, 3, none⟩ = some a3 /\ w.cell? ⟨r, 4, none⟩ = some a4 /\ w.cell? ⟨r, 5, none⟩ = some a5 /\ w.cell? ⟨r, 6, none⟩ = some g /\ w.cell? ⟨r, 7, none⟩ = some F := ⟨(h.cell 0).trans (by simp), (h.cell 1).trans (by simp), (h.cell 2).trans (by simp), (h.cell 3).trans (by simp), (h.cell 4).trans (by simp), (h.cell 5).trans (by simp), (h.cell 6).trans (by simp), (h.cell 7).trans (by simp)⟩
def ag.q9{r T : Nat}{a0 a1 a2 a3 a4 a5 g F G : Value}{l : List Value}{w : World}(h : ag r (a0::a1::a2::a3::a4::a5::g::F::G::l).toArray T w) : w.cell? ⟨r, 0, none⟩ = some a0 /\ w.cell? ⟨r, 1, none⟩ = some a1 /\ w.cell? ⟨r, 2, none⟩ = some a2 /\ w.cell? ⟨r, 3, none⟩ = some a3 /\ w.cell? ⟨r, 4, none⟩ = some a4 /\ w.cell? ⟨r, 5, none⟩ = some a5 /\ w.cell? ⟨r, 6, none⟩ = some g /\ w.cell? ⟨r, 7, none⟩ = some F /\ w.cell? ⟨r, 8, none⟩ = some G := ⟨(h.cell 0).trans (by simp), (h.cell 1).trans (by simp), (h.cell 2).trans (by simp), (h.cell 3).trans (by simp), (h.cell 4).trans (by simp), (h.cell 5).trans (by simp), (h.cell 6).trans (by simp), (h.cell 7).trans (by simp), (h.cell 8).trans (by simp)⟩
end Go.Proofs.YtaamhakdhaolmaaGreatDoor
