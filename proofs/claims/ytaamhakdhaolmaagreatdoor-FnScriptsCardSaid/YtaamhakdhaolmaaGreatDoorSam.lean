/- Part 12. -/
import Derived.Deep.Upon
import Derived.Test.YtaamhakdhaolmaaGreatDoorSaf
namespace Go.Proofs.YtaamhakdhaolmaaGreatDoor
open Go.RowKit Go.Proofs.Tryz
set_option maxHeartbeats 8000000
set_option maxRecDepth 100000
variable {P:Prop}
set_option linter.all false
def I0(h:P:=by
 rw[V9];show (match w.heap[g]? with|some (.cells cs _ _)=>_|_=>_)=_;rw[hh];exact h4.symm):=h
def dY(e:E5):List Value:=[.int .i64 e.1.1,.int .i64 e.1.2,.int .i64 e.2.1,.int .i64 e.2.2.1,.int .i64 e.2.2.2]
def cI(e:E5):Value:=.agg #[e.1.1,e.1.2,e.2.1,e.2.2.1,e.2.2.2]
def bH(L:bM):List Value:=L.flatMap dY
def wZ(L M):bH (L++M)=bH L++bH M:=by simp [bH]
def mS(e:E5)(L):bH (e::L)=dY e++bH L:=by simp [bH]
def lq(L):(bH L).length=L.length*5:=by
 induction L with
 |nil=>rfl
 |cons p L g=>rw[mS];simp [dY,g];omega
def oR(L):∀i (h:i<L.length) k,k<5->(bH L)[i*5+k]?=(dY L[i])[k]?:=by
 induction L with
 |nil=>intro i h;simp at h
 |cons p L g=>
  intro i h k hk;rw[mS];cases i with
  |zero=>rw[WR (by simp [dY];omega)];simp
  |succ i=>
   rw[Wp (by simp [dY];omega)];rw[show (i+1)*5+k - (dY p).length=i*5+k by simp [dY];omega,(g i kH k hk)];simp
def tC(L):∀u∈bH L,u.oneCell'=true:=by
 intro u hu;simp only[bH,List.mem_flatMap,dY] at hu;have⟨e,_,hu⟩:=hu;simp at hu;rcases hu with rfl|rfl|rfl|rfl|rfl<;>rfl
def xf(L):∀i,bH (L.take i)=(bH L).take (i*5):=by
 induction L with
 |nil=>intro i;simp [bH]
 |cons p r g=>
  intro i;cases i with
  |zero=>simp [bH]
  |succ i=>
   rw[YF,mS,g i,mS,show (i+1)*5=i*5+5 by omega];rfl
def xo(L):∀i,bH (L.drop i)=(bH L).drop (i*5):=by
 induction L with
 |nil=>intro i;simp [bH]
 |cons p r g=>
  intro i;cases i with
  |zero=>simp
  |succ i=>
   rw[VQ,g i,mS,show (i+1)*5=i*5+5 by omega];rfl
def an(w:World)(G:Nat)(v:Value)(L:bM):Prop:=w.ownsRow G 70 5 v L.length (bH L)
def an.nil(w)(G):an w G (.slice none 0 0) []:=XK _ _ _ _
def an.below{w w1}{G}{v}{L}(h:an w G v L)(hb:af w w w1):an w1 G v L:=qQ h hb
def an.le{w}{G base'}{v}{L}(h:an w G v L)(hb:base'<=G):an w base' v L:=uQ h hb
def an.over{ex:List Nat}{w w1}{G}{v}{L}(h:an w G v L)(Z:ai ex w w1)(hn:∀k,v.ownBlock=some k->k∉ex):an w1 G v L:=m_ h Z hn
def an.lt{w}{G}{v}{L}(h:an w G v L):∀k,v.ownBlock=some k->G<=k/\k<w.heap.size:=fR h
def an.form{w}{G}{v}{L}(h:an w G v L):∃(a:ck) (F:Nat),v=.slice a L.length F/\L.length<=F/\∀i (hi:i<L.length),∃g,a=some ⟨g,0,none⟩/\g<w.heap.size/\G<=g/\(∀o,w.frozen? ⟨g,o,none⟩=false)/\w.cell? ⟨g,i*5,none⟩=some (.int .i64 L[i].1.1)/\w.cell? ⟨g,i*5+1,none⟩=some (.int .i64 L[i].1.2)/\w.cell? ⟨g,i*5+2,none⟩=some (.int .i64 L[i].2.1)/\w.cell? ⟨g,i*5+3,none⟩=some (.int .i64 L[i].2.2.1)/\w.cell? ⟨g,i*5+4,none⟩=some (.int .i64 L[i].2.2.2):=by
 obtain⟨a,F,rfl,hc,hf⟩:=nQ h;refine⟨a,F,rfl,hc,λi hi=>?_⟩;obtain⟨g,rfl,h1,h2,h3,h4⟩:=hf i hi;refine⟨g,rfl,h1,h2,h3,h4 0 _ o_ (oR L i hi 0 o_),h4 1 _ o_ (oR L i hi 1 o_),h4 2 _ o_ (oR L i hi 2 o_),h4 3 _ o_ (oR L i hi 3 o_),h4 4 _ o_ (oR L i hi 4 o_)⟩
def an.built(w:World)(e:E5):an (w.alloc (.cells #[e.1.1,e.1.2,e.2.1,e.2.2.1,e.2.2.2] 70)) w (.slice w 1 1) [e]:=by
 unfold an;rw[show bH [e]=dY e by simp [bH]];exact (C7 w 70 5 (dY e) rfl)
def an.empty(w:World):an (w.alloc (.cells #[] 70)) w (.slice w 0 0) []:=World.ownsRow_lit w #[] 0 (Vj _) (by unfold maxLen;omega) rfl
def Tryz.infoE:(prog.info? 70).map (λi=>(i.zero,i.size,i.bytes))=some (some (.agg #[(),(),(),(),()]),5,40):=by kernel_rfl
def dv(w:World)(x:Value)(M:bM):Prop:=(M=[]/\x=.slice none 0 0)\/∃g off c,x=.slice (some ⟨g,off,none⟩) M.length c/\(M≠[]->g<w.heap.size)/\∀j u,(bH M)[j]?=some u->w.cell? ⟨g,off+j,none⟩=some u
def dv.below{w w1}{x}{M}(h:dv w x M)(hb:af w w w1):dv w1 x M:=by
 rcases h with h|⟨g,off,c,h1,h2,h3⟩
 .exact .inl h
 .refine .inr ⟨g,off,c,h1,λhm=>Vp (h2 hm) hb.size,λj u hu=>?_⟩;have hm:M≠[]:=λhm=>by rw[hm] at hu;simp [bH] at hu
  rw[hb.cell (p:=⟨g,off+j,none⟩) (h2 hm)];exact h3 j u hu
def an.rd{w}{G}{v}{L}(h:an w G v L):dv w v L:=by
 rcases h.2 with ⟨hv,hn⟩|⟨g,F,cur,hv,_,hh,_,_,_,ht⟩
 .exact .inl ⟨VY.1 hn,hv⟩
 .refine .inr ⟨g,0,F,hv,λ_=>(Vz.1 hh).1,λj u hu=>?_⟩;have aG:j<L.length*5:=by rw[<-lq];exact (V3.1 hu).1
  have h4:(cur.toList.take (L.length*5))[j]?=cur.toList[j]?:=VU aG;rw[ht,hu] at h4;rw[WS] at h4;exact I0
def uh(w)(G)(ty)(v x)(L M)(V:an w G v L)(hx:dv w x M)(hn:L.length+M.length<=1000)(H:G<=w.heap.size):
 ∃v' w',(Builtin.append_ #[28,28] ty #[v,x]).run prog w=.ok v' w'/\an w' G v' (L++M)/\w.grownBy w' v.ownBlock/\(v'.ownBlock=v.ownBlock\/v'.ownBlock=some w.heap.size):=by
 have⟨U,hi,bi,ac,ba⟩:=WL Tryz.infoE;rcases hx with ⟨rfl,rfl⟩|⟨g,off,c,rfl,_,hc⟩
 .have⟨a,F,hv,bo,_⟩:=nQ V;subst hv;refine⟨_,w,run_append_nothing w 28 28 ty 70 U underlying28 hi a _ F bo _ ?_,by simpa using V,World.grownBy.refl _ _,.inl rfl⟩;exact Src.ofNil w underlying28 0
 .have⟨v',w',h1,h2,h3,_,h5⟩:=run_append_own_at (P:=prog) w G 28 ty 70 U (.agg #[.int .i64 0,.int .i64 0,.int .i64 0,.int .i64 0,.int .i64 0]) 5 40 underlying28 hi bi ac ba rfl d_ v L.length (bH L) V ⟨g,off,none⟩ M.length c (bH M) (lq M) (λj u hj=>by
   rw[show (⟨g,off,none⟩:Addr).add j=⟨g,off+j,none⟩ by cases j<;>simp [Addr.add]];exact hc j u hj) (tC M) pN o_ H
  refine⟨v',w',h1,?_,h3,h5⟩;unfold an;rw[VI,wZ];exact h2
end Go.Proofs.YtaamhakdhaolmaaGreatDoor
