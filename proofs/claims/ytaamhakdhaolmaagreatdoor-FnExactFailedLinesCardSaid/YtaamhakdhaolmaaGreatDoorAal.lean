/- Part 11. -/
import Derived.Deep.Upon
import Derived.Test.YtaamhakdhaolmaaGreatDoorAaf
namespace Go.Proofs.YtaamhakdhaolmaaGreatDoor
open Go.RowKit
set_option maxHeartbeats 8000000
set_option maxRecDepth 100000
variable {P:Prop}
set_option linter.all false
def Ij(h:P:=by
 rw[U7];show (match w.heap[g]? with|some (.cells I _ _)=>_|_=>_)=_;rw[hh];exact h4.symm):=h
def dO(e:E5):List Value:=[.int .i64 e.1.1,.int .i64 e.1.2,.int .i64 e.2.1,.int .i64 e.2.2.1,.int .i64 e.2.2.2]
def cq(e:E5):Value:=.agg #[e.1.1,e.1.2,e.2.1,e.2.2.1,e.2.2.2]
def bw(L:aK):List Value:=L.flatMap dO
def qk(L M):bw (L++M)=bw L++bw M:=by simp [bw]
def kY(e:E5)(L):bw (e::L)=dO e++bw L:=by simp [bw]
def kc(L):(bw L).length=L.length*5:=by
 induction L with
 |nil=>rfl
 |cons p L g=>rw[kY];simp [dO,g];omega
def oG(L):∀i (h:i<L.length) k,k<5->(bw L)[i*5+k]?=(dO L[i])[k]?:=by
 induction L with
 |nil=>intro i h;simp at h
 |cons p L g=>
  intro i h k hk;rw[kY];cases i with
  |zero=>rw[VI (by simp [dO];omega)];simp
  |succ i=>
   rw[Vk (by simp [dO];omega)];rw[show (i+1)*5+k - (dO p).length=i*5+k by simp [dO];omega,(g i kj k hk)];simp
def sW(L):∀u∈bw L,u.oneCell'=true:=by
 intro u hu;simp only[bw,List.mem_flatMap,dO] at hu;have⟨e,_,hu⟩:=hu;simp at hu;rcases hu with rfl|rfl|rfl|rfl|rfl<;>rfl
def wC(L):∀i,bw (L.take i)=(bw L).take (i*5):=by
 induction L with
 |nil=>intro i;simp [bw]
 |cons p r g=>
  intro i;cases i with
  |zero=>simp [bw]
  |succ i=>
   rw[WN,kY,g i,kY,show (i+1)*5=i*5+5 by omega];rfl
def wN(L):∀i,bw (L.drop i)=(bw L).drop (i*5):=by
 induction L with
 |nil=>intro i;simp [bw]
 |cons p r g=>
  intro i;cases i with
  |zero=>simp
  |succ i=>
   rw[UI,g i,kY,show (i+1)*5=i*5+5 by omega];rfl
def am(w:World)(G:Nat)(v:Value)(L:aK):Prop:=w.ownsRow G 70 5 v L.length (bw L)
def am.nil(w)(G):am w G (.slice none 0 0) []:=Wv _ _ _ _
def am.below{w w1}{G}{v}{L}(h:am w G v L)(hb:Below w w w1):am w1 G v L:=qv h hb
def am.le{w}{G base'}{v}{L}(h:am w G v L)(hb:base'<=G):am w base' v L:=ur h hb
def am.over{ex:List Nat}{w w1}{G}{v}{L}(h:am w G v L)(Z:ah ex w w1)(hn:∀k,v.ownBlock=some k->k∉ex):am w1 G v L:=mN h Z hn
def am.lt{w}{G}{v}{L}(h:am w G v L):∀k,v.ownBlock=some k->G<=k/\k<w.heap.size:=fH h
def am.form{w}{G}{v}{L}(h:am w G v L):∃(a:bT) (F:Nat),v=.slice a L.length F/\L.length<=F/\∀i (hi:i<L.length),∃g,a=some ⟨g,0,none⟩/\g<w.heap.size/\G<=g/\(∀o,w.frozen? ⟨g,o,none⟩=false)/\w.cell? ⟨g,i*5,none⟩=some (.int .i64 L[i].1.1)/\w.cell? ⟨g,i*5+1,none⟩=some (.int .i64 L[i].1.2)/\w.cell? ⟨g,i*5+2,none⟩=some (.int .i64 L[i].2.1)/\w.cell? ⟨g,i*5+3,none⟩=some (.int .i64 L[i].2.2.1)/\w.cell? ⟨g,i*5+4,none⟩=some (.int .i64 L[i].2.2.2):=by
 obtain⟨a,F,rfl,hc,hf⟩:=nD h;refine⟨a,F,rfl,hc,λi hi=>?_⟩;obtain⟨g,rfl,h1,h2,h3,h4⟩:=hf i hi;refine⟨g,rfl,h1,h2,h3,h4 0 _ o_ (oG L i hi 0 o_),h4 1 _ o_ (oG L i hi 1 o_),h4 2 _ o_ (oG L i hi 2 o_),h4 3 _ o_ (oG L i hi 3 o_),h4 4 _ o_ (oG L i hi 4 o_)⟩
def am.built(w:World)(e:E5):am (w.alloc (.cells #[e.1.1,e.1.2,e.2.1,e.2.2.1,e.2.2.2] 70)) w (.slice w 1 1) [e]:=by
 unfold am;rw[show bw [e]=dO e by simp [bw]];exact (Cz w 70 5 (dO e) rfl)
def am.empty(w:World):am (w.alloc (.cells #[] 70)) w (.slice w 0 0) []:=World.ownsRow_lit w #[] 0 (Ug _) (by unfold maxLen;omega) rfl
def Tryz.infoE:(Tryz.prog.info? 70).map (λi=>(i.zero,i.size,i.bytes))=some (some (.agg #[(),(),(),(),()]),5,40):=by kernel_rfl
def df(w:World)(x:Value)(M:aK):Prop:=(M=[]/\x=.slice none 0 0)\/∃g off c,x=.slice (some ⟨g,off,none⟩) M.length c/\(M≠[]->g<w.heap.size)/\∀j u,(bw M)[j]?=some u->w.cell? ⟨g,off+j,none⟩=some u
def df.below{w w1}{x}{M}(h:df w x M)(hb:Below w w w1):df w1 x M:=by
 rcases h with h|⟨g,off,c,h1,h2,h3⟩
 .exact .inl h
 .refine .inr ⟨g,off,c,h1,λhm=>Un (h2 hm) hb.size,λj u hu=>?_⟩;have hm:M≠[]:=λhm=>by rw[hm] at hu;simp [bw] at hu
  rw[hb.cell (p:=⟨g,off+j,none⟩) (h2 hm)];exact h3 j u hu
def am.rd{w}{G}{v}{L}(h:am w G v L):df w v L:=by
 rcases h.2 with ⟨hv,hn⟩|⟨g,F,aM,hv,_,hh,_,_,_,ht⟩
 .exact .inl ⟨UX.1 hn,hv⟩
 .refine .inr ⟨g,0,F,hv,λ_=>(Uv.1 hh).1,λj u hu=>?_⟩;have aG:j<L.length*5:=by rw[<-kc];exact (U2.1 hu).1
  have h4:(aM.toList.take (L.length*5))[j]?=aM.toList[j]?:=UR aG;rw[ht,hu] at h4;rw[VJ] at h4;exact Ij
def tJ(w)(G)(ty)(v x)(L M)(V:am w G v L)(hx:df w x M)(hn:L.length+M.length<=1000)(U:G<=w.heap.size):
 ∃v' w',(Builtin.append_ #[28,28] ty #[v,x]).run Tryz.prog w=.ok v' w'/\am w' G v' (L++M)/\w.grownBy w' v.ownBlock/\(v'.ownBlock=v.ownBlock\/v'.ownBlock=some w.heap.size):=by
 have⟨i0,hi,bi,ax,a8⟩:=VE Tryz.infoE;rcases hx with ⟨rfl,rfl⟩|⟨g,off,c,rfl,_,hc⟩
 .have⟨a,F,hv,bo,_⟩:=nD V;subst hv;refine⟨_,w,run_append_nothing w 28 28 ty 70 i0 Tryz.underlying28 hi a _ F bo _ ?_,by simpa using V,World.grownBy.refl _ _,.inl rfl⟩;exact Src.ofNil w Tryz.underlying28 0
 .have⟨v',w',h1,h2,h3,_,h5⟩:=run_append_own_at (P:=Tryz.prog) w G 28 ty 70 i0 (.agg #[.int .i64 0,.int .i64 0,.int .i64 0,.int .i64 0,.int .i64 0]) 5 40 Tryz.underlying28 hi bi ax a8 rfl d_ v L.length (bw L) V ⟨g,off,none⟩ M.length c (bw M) (kc M) (λj u hj=>by
   rw[show (⟨g,off,none⟩:Addr).add j=⟨g,off+j,none⟩ by cases j<;>simp [Addr.add]];exact hc j u hj) (sW M) pv o_ U
  refine⟨v',w',h1,?_,h3,h5⟩;unfold am;rw[UE,qk];exact h2
end Go.Proofs.YtaamhakdhaolmaaGreatDoor
