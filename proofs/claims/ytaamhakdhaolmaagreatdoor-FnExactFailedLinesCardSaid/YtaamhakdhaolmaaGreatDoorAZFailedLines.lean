/- Part 34. -/
import Derived.Test.YtaamhakdhaolmaaGreatDoorAbh
namespace Go.Proofs.YtaamhakdhaolmaaGreatDoor
open Go.RowKit
set_option maxHeartbeats 8000000
set_option maxRecDepth 100000
variable {P:Prop}
set_option linter.all false
def Il(h:P:=by
 unfold execOp;simp only[Z,resolve,invoke,builtin,X3,X4,Xj,Xt,VF,WW,hs,hx,h1]):=h
def gO(w:World)(x:Value)(M:List Int):Prop:=(M=[]/\x=.slice none 0 0)\/∃g off c,x=.slice (some ⟨g,off,none⟩) M.length c/\(M≠[]->g<w.heap.size)/\∀j u,(M.map (Value.int .i64))[j]?=some u->w.cell? ⟨g,off+j,none⟩=some u
def gO.below{w w1}{x}{M}(h:gO w x M)(hb:Below w w w1):gO w1 x M:=by
 rcases h with h|⟨g,off,c,h1,h2,h3⟩
 .exact .inl h
 .refine .inr ⟨g,off,c,h1,λhm=>Un (h2 hm) hb.size,λj u hu=>?_⟩;have hm:M≠[]:=λhm=>by rw[hm] at hu;simp at hu
  rw[hb.cell (p:=⟨g,off+j,none⟩) (h2 hm)];exact h3 j u hu
def aq.rdj{w}{G}{v}{L}(h:aq w G v L):gO w v L:=by
 rcases h.2 with ⟨hv,hn⟩|⟨g,F,aM,hv,_,hh,_,_,_,ht⟩
 .exact .inl ⟨UX.1 hn,hv⟩
 .refine .inr ⟨g,0,F,hv,λ_=>(Uv.1 hh).1,λj u hu=>?_⟩;have aG:=by simpa using (U2.1 hu).1
  have h4:(aM.toList.take (L.length*1))[j]?=aM.toList[j]?:=UR o_;rw[ht,hu,VJ] at h4;exact Ij
def aq.empty(w:World):aq (w.alloc (.cells #[] 3)) w (.slice w 0 0) []:=
 ⟨rfl,.inr ⟨w,0,#[],rfl,Ug _,ag.new w _ _,Ug _,by unfold maxLen;omega,rfl,rfl⟩⟩
def Qq(w)(G)(ty)(v x)(L M)(V:aq w G v L)(hx:gO w x M)(hn:L.length+M.length<=1000)(U:G<=w.heap.size):
 ∃v' w',(Builtin.append_ #[22,22] ty #[v,x]).run Tryz.prog w=.ok v' w'/\aq w' G v' (L++M)/\ah v.ownBlock.toList w w':=by
 have⟨i0,hi,bi,ax,a8⟩:=VE Tryz.infoI;rcases hx with ⟨rfl,rfl⟩|⟨g,off,c,rfl,_,hc⟩
 .have⟨a,F,hv,bo,_⟩:=nD V;subst hv;refine⟨_,w,run_append_nothing w 22 22 ty 3 i0 Tryz.underlying22 hi a _ F bo _ ?_,by simpa using V,.refl _ _⟩;exact Src.ofNil w Tryz.underlying22 0
 .have⟨v',w',h1,h2,h3,_,_⟩:=run_append_own_at (P:=Tryz.prog) w G 22 ty 3 i0 (.int .i64 0) 1 8 Tryz.underlying22 hi bi ax a8 rfl d_ v L.length (L.map (Value.int .i64)) V ⟨g,off,none⟩ M.length c (M.map (Value.int .i64)) s_ (λj u hj=>by
   rw[show (⟨g,off,none⟩:Addr).add j=⟨g,off+j,none⟩ by cases j<;>simp [Addr.add]];exact hc j u hj) (by intro u hu;simp at hu;obtain⟨y,_,rfl⟩:=hu;rfl) pv o_ U
  refine⟨v',w',h1,?_,h3.os,h3.tape,h3.output,h3.size,λk hk hn=>h3.block k hk (λh=>hn vE)⟩;unfold aq;rw[UE,VN];exact h2
def KF{a:Act}{o}{s x}{w}{G}{v y}{L M}(Z:o.op=.call {callee:=.builtin .append,args:=#[s,x],argTypes:=#[22,22]})(hs:a.eval s=v)(hx:a.eval x=y)(V:aq w G v L)(hr:gO w y M)(hn:L.length+M.length<=1000)(U:G<=w.heap.size):
 ∃v' w',(execOp a.eval o).run Tryz.prog w=.ok (.value v') w'/\aq w' G v' (L++M)/\ah v.ownBlock.toList w w':=by
 have⟨v',w',h1,h2,h3⟩:=Qq w G o.type v y L M V hr hn U;refine⟨v',w',?_,h2,h3⟩;exact Il
def oF{ops}{rest}{o}{a}{Q}{w}(aa:o.guard=none)(s x)
 (Z:o.op=.call {callee:=.builtin .append,args:=#[s,x],argTypes:=#[22,22]})
 (G)(v y)(L M)(hs:a.eval s=v)(hx:a.eval x=y)(V:aq w G v L)(hr:gO w y M)(hn:L.length+M.length<=1000)(U:G<=w.heap.size)
 (h:∀v' w',aq w' G v' (L++M)->ah v.ownBlock.toList w w'->wpList Tryz.prog ops Q rest (a.put o.dst v') w'):wpList Tryz.prog ops Q (o::rest) a w:=by
 have⟨v',w',he,h2,h3⟩:=KF Z hs hx V hr hn U;refine X0 aa λK hK=>?_;unfold Oper.wp;rw[he];simp only[Oper.upon];exact hK _ _ (h v' w' h2 h3)
def fF:List Int->Int->List Int
 |[],n=>[n]
 |x::l,n=>if x<n then x::fF l n else if x=n then x::l else n::x::l
theorem yb:∀(L) (n) (k),k<=L.length->(∀i (h:i<L.length),i<k->L[i]<n)->(∀h:k<L.length,¬L[k]<n)->fF L n=if L[k]?=some n then L else L.take k++n::L.drop k
 |[],n,k,hk,_,_=>by
  obtain rfl:k=0:=by simpa using hk
  rfl
 |x::l,n,0,_,_,h2=>by
  have hx:=h2 s_;simp only[Ws] at hx;unfold fF;rw[Uj hx];by_cases he:x=n
  .rw[Um he,Um (by simp [he])]
  .rw[Uj he,Uj (by simpa using he)];rfl
 |x::l,n,k+1,hk,h1,h2=>by
  have hx:=h1 0 s_ o_;simp at hx;unfold fF;rw[Um hx,yb l n k vm (λi h hi=>by have:=h1 (i+1) kj o_;simpa using this) (λh=>by have:=h2 kj;simpa using this)];simp;split<;>rfl
def CL(L)(n x):x∈fF L n↔x∈L\/x=n:=by
 induction L with
 |nil=>simp [fF]
 |cons y l g=>
  unfold fF;split
  .simp only[UM,g];constructor
   .rintro (h|h|h)
    .exact .inl (.inl h)
    .exact .inl (.inr h)
    .exact .inr h
   .rintro ((h|h)|h)
    .exact .inl h
    .exact .inr (.inl h)
    .exact .inr (.inr h)
  .split
   .rename_i h;subst h;simp only[UM];constructor
    .exact .inl
    .rintro (h|h)
     .exact h
     .exact .inl h
   .simp;constructor
    .rintro (h|h|h)
     .exact .inr h
     .exact .inl (.inl h)
     .exact .inl (.inr h)
    .rintro ((h|h)|h)
     .exact .inr (.inl h)
     .exact .inr (.inr h)
     .exact .inl h
def Nm{L}(h:L.Pairwise (·<·))(n):(fF L n).Pairwise (·<·):=by
 induction L with
 |nil=>simp [fF]
 |cons y l g=>
  rw[V8] at h;unfold fF;split
  .rename_i hy;rw[V8];refine⟨λa ha=>?_,g h.2⟩;rcases (CL l n a).1 ha with ha|ha
   .exact h.1 a ha
   .omega
  .split
   .rw[V8];exact h
   .rename_i h1 h2;rw[V8,V8];refine⟨λa ha=>?_,h⟩;rcases UM.1 ha with rfl|ha
    .omega
    .have:=h.1 a ha;omega
def Qt(L)(n):(fF L n).length<=L.length+1:=by
 induction L with
 |nil=>simp [fF]
 |cons y l g=>
  unfold fF;split
  .simp;omega
  .split
   .simp
   .simp
theorem B2:∀{L M:List Int},L.Pairwise (·<·)->M.Pairwise (·<·)->(∀x,x∈L↔x∈M)->L=M
 |[],[],_,_,_=>rfl
 |[],y::m,_,_,h=>by have:=(h y).2 s_;simp at this
 |x::l,[],_,_,h=>by have:=(h x).1 s_;simp at this
 |x::l,y::m,hl,hm,h=>by
  rw[V8] at hl hm;have bi:x=y:=by
   have h1:=(h x).1 s_;have h2:=(h y).2 s_;rcases UM.1 h1 with h1|h1
   .exact h1
   .rcases UM.1 h2 with h2|h2
    .exact h2.symm
    .have:=hl.1 y h2;have:=hm.1 x h1;omega
  subst bi;rw[B2 hl.2 hm.2 λz=>?_];constructor
  .intro hz;have:=hl.1 z hz;rcases UM.1 ((h z).1 (by simp [hz])) with h1|h1
   .omega
   .exact h1
  .intro hz;have:=hm.1 z hz;rcases UM.1 ((h z).2 (by simp [hz])) with h1|h1
   .omega
   .exact h1
def jO(L:List Int)(M:List Int):List Int:=M.foldl fF L
def Ps(M):∀(L) (x),x∈jO L M↔x∈L\/x∈M:=by
 induction M with
 |nil=>intro L x;simp [jO]
 |cons m M g=>
  intro L x;show x∈jO (fF L m) M↔_;rw[g,CL,UM,or_assoc]
def MU(M):∀{L},L.Pairwise (·<·)->(jO L M).Pairwise (·<·):=by
 induction M with
 |nil=>intro L h;exact h
 |cons m M g=>intro L h;exact g (Nm h m)
def PQ(M):∀(L),(jO L M).length<=L.length+M.length:=by
 induction M with
 |nil=>intro L;exact Ug _
 |cons m M g=>
  intro L;have h1:=g (fF L m);have h2:=Qt L m;show (jO (fF L m) M).length<=_;simp;omega
def gF(t:aj):Bool:=cp t||cN t
def Q2(rs):jO [] (bK cp rs++bK cN rs)=bK gF rs:=by
 refine B2 (MU _ s_) (OI _ _) λx=>?_;rw[Ps,Vx,tV,tV,tV];simp only[List.not_mem_nil,false_or];unfold gF;constructor
 .rintro (⟨i,h,h1,h2⟩|⟨i,h,h1,h2⟩)
  .exact⟨i,h,by rw[h1];rfl,h2⟩
  .exact⟨i,h,by rw[h1,Bool.or_true],h2⟩
 .rintro⟨i,h,h1,h2⟩;rcases Bool.or_eq_true_iff.1 h1 with h1|h1
  .exact .inl ⟨i,h,h1,h2⟩
  .exact .inr ⟨i,h,h1,h2⟩
def zL(h:P:=by intro j hj;have:=(fH G j (je hj)).1;omega):=h
def Ap(h:P:=by intro j hj;exact (fH bb j (je hj)).1):=h
def I5(h:P:=by
 go_wp2;go_ret;refine⟨v3,rfl,?_,a4⟩;rw[HP.out];have:=a9.le hb;rwa [U5] at this):=h
def Kq(h:P:=by
 have a2:Below w.heap.size w (w.alloc (.cells #[] 3)):=(Uk _ _).alloc (Ug _) _;have G:=aq.empty w;go_upto_region 6 with fail
 go_upto_region 7 with (at_builtin;refine oF rfl _ _ rfl w.heap.size _ _ [] (L.take (L.length)) rfl rfl G ((H1.out _ a2)) u_ s_ ?_;intro v1 w1 bz bi;have bx:Below w.heap.size w w1:=bi.belowGe a2 a2.size zL;rw[VA] at bz)
 have ax:=bx.size;have K:(L.take (L.length)).length<1000000000000:=by rw[UH];omega
 go_upto_region 8 with (at_builtin;refine fN (y:=n) rfl _ _ rfl w.heap.size _ (L.take (L.length)) rfl bz rfl K ax ?_;intro v2 w2 bb U cm;have aa:Below w.heap.size w w2:=bx.trans U)
 have a8:=aa.size;go_wp2_with (at_builtin;refine oF rfl _ _ rfl w.heap.size _ _ (L.take (L.length)++[n]) (L.drop (L.length)) rfl rfl bb ((H2.out _ aa)) u_ a8 ?_;intro v3 w3 a9 ab;have a4:Below w.heap.size w w3:=ab.belowGe aa aa.size Ap)
 exact I5):=h
def gO.pre{w}{g n F:Nat}{L}(h:gO w (.slice g n F) L){k c}(hk:k<=L.length):gO w (.slice g k c) (L.take k):=by
 rcases h with ⟨_,h0⟩|⟨g',off,c',h1,h2,h3⟩
 .cases h0
 .injection h1 with e1 e2 e3;injection e1 with e1;injection e1 with e1 e4;subst e1 e4;refine .inr ⟨g,0,c,by rw[UH,WP hk],λhm=>h2 (λh=>hm (by rw[h];simp)),λj u hu=>h3 j u ?_⟩;rw[List.map_take,WX] at hu;split at hu
  .exact hu
  .cases hu
def gO.post{w}{g n F:Nat}{L}(h:gO w (.slice g n F) L){k o c m}(hm:m=L.length - k)(Z:m≠0->o=k):gO w (.slice (some ⟨g,o,none⟩) m c) (L.drop k):=by
 rcases h with ⟨_,h0⟩|⟨g',off,c',h1,h2,h3⟩
 .cases h0
 .injection h1 with e1 e2 e3;injection e1 with e1;injection e1 with e1 e4;subst e1 e4;refine .inr ⟨g,o,c,by rw[Vs,hm],λhm=>h2 (λh=>hm (by rw[h];simp)),λj u hu=>?_⟩;rw[List.map_drop,VR] at hu;have hj:=by simpa using (U2.1 hu).1
  rw[Z o_];have:=h3 (k+j) u hu;rwa [U7] at this
def RH(b:Nat)(v:Value)(L:List Int)(n:Int)(hL:L.length<=100)(w:World)(hb:b<=w.heap.size)(Z:aq w b v L):
 Kp 41 #[v,n] w λe w'=>∃v',e=.returned v'/\aq w' b v' (fF L n)/\Below w w w':=by
 rcases Z.2 with ⟨rfl,hn⟩|⟨g,F,aM,rfl,hg,hh,aL,az,aF,V⟩
 .have I:=UX.1 hn;subst I;have HP:Hid (fF [] n=([]:List Int).take 0++n::([]:List Int).drop 0):=h_ rfl;have H1:=h_ (λ(W:World) (_:Below w w W)=>(show gO W (.slice none 0 0) (([]:List Int).take 0) from .inl ⟨rfl,rfl⟩));have H2:=h_ (λ(W:World) (_:Below w w W)=>(show gO W (.slice none 0 0) (([]:List Int).drop 0) from .inl ⟨rfl,rfl⟩));clear Z hn;go_enter Tryz.func41,Tryz.ntmps41;go_wp2;go_loopw [5] (λkv wr=>kv=.int .i64 0/\wr=w) (λ_ _=>0)
  case atStart=>exact⟨rfl,rfl⟩
  case round=>
   obtain⟨rfl,rfl⟩:=hrel
   rename World=>w
   have a2:Below w w (w.alloc (.cells #[] 3)):=(Uk _ _).alloc (Ug _) _;have G:=aq.empty w;go_upto_region 7 with fail
   generalize w.alloc _=w1,Value.slice w 0 0=v1 at *;go_upto_region 8 with (at_builtin;refine fN (y:=n) rfl _ _ rfl w _ [] rfl G rfl s_ a2.size ?_;intro v2 w2 bb U cm;have aa:Below w.heap.size w w2:=a2.trans U)
   have a8:=aa.size;go_wp2_with (at_builtin;refine oF rfl _ _ rfl w _ _ ([]++[n]) [] rfl rfl bb (.inl ⟨rfl,rfl⟩) s_ a8 ?_;intro v3 w3 a9 ab;have a4:Below w.heap.size w w3:=ab.belowGe aa aa.size Ap)
   go_wp2;go_ret;exact⟨v3,rfl,a9.le hb,a4⟩
 .have⟨a',ae,ac,hf⟩:=Z.form;have HC:Hid (∀i (h:i<L.length),w.cell? ⟨g,i,none⟩=some (.int .i64 L[i])):=h_ λi h=>by
   have⟨g',e1,e2,_⟩:=hf i h;injection ac with bs;rw[<-bs] at e1;injection e1 with e1;injection e1 with e1;subst e1;rw[e2,Us h];rfl
  have bq:g<w.heap.size:=(Uv.1 hh).1;have J:=Z.rdj;clear hf ac hh aF V az;go_enter Tryz.func41,Tryz.ntmps41;go_wp2;go_loopw [5] (λkv wr=>∃k:Nat,kv=.int .i64 k/\k<=L.length/\(∀i (h:i<L.length),i<k->L[i]<n)/\wr=w) (λkv _=>L.length - (intOf kv).toNat)
  case atStart=>exact⟨0,rfl,UB _,λi _ h=>by omega,rfl⟩
  case round=>
   obtain⟨k,rfl,b3,aG,rfl⟩:=hrel
   rename World=>w
   by_cases hk:k<L.length
   .have q0:=HC.out k hk;by_cases hx:L[k]<n
    .have b6:∀i (h:i<L.length),i<k+1->L[i]<n:=λi h hi=>by
      rcases Vn i k with h9|h9
      .exact aG i h h9
      .obtain rfl:i=k:=by omega
       exact hx
     have aX:=h_ b6;clear b6 aG;generalize L[k]=x at *;have cy:(k:Int)<(L.length:Int):=o_;go_wp2;go_roundw
     case rel=>exact⟨k+1,by go_num,by omega,aX.out,trivial⟩
     case measure=>exact aO
    .have H:=yb L n k b3 aG (λ_=>hx);rw[Us hk] at H;have cy:(k:Int)<(L.length:Int):=o_;by_cases he:L[k]=n
     .rw[he,Um rfl] at H;have HP:=h_ H;clear H aG;rw[he] at q0;generalize L[k]=x at *;go_wp2;go_ret;exact⟨_,rfl,by rw[HP.out];exact Z,Uk _ _⟩
     .rw[Uj (by simpa using he)] at H;have HP:=h_ H;clear H aG;generalize L[k]=x at *;have a6:(x==n)=false:=by rw[Uz];exact he
      have H1:=h_ (λ(W:World) (hW:Below w w W)=>J.below hW |>.pre (k:=k) (c:=F) b3);have H2:=h_ (λ(W:World) (hW:Below w w W)=>J.below hW |>.post (k:=k) (o:=k) (c:=F - k) rfl (λ_=>rfl));have ad:k<=100:=o_;have a2:Below w w (w.alloc (.cells #[] 3)):=(Uk _ _).alloc (Ug _) _;have G:=aq.empty w;go_upto_region 6 with fail
      go_upto_region 7 with (at_builtin;refine oF rfl _ _ rfl w _ _ [] (L.take k) rfl rfl G ((H1.out _ a2)) u_ s_ ?_;intro v1 w1 bz bi;have bx:Below w.heap.size w w1:=bi.belowGe a2 a2.size zL;rw[VA] at bz)
      have ax:=bx.size;have K:(L.take k).length<1000000000000:=by rw[UH];omega
      go_upto_region 8 with (at_builtin;refine fN (y:=n) rfl _ _ rfl w _ (L.take k) rfl bz rfl K ax ?_;intro v2 w2 bb U cm;have aa:Below w.heap.size w w2:=bx.trans U)
      have a8:=aa.size;go_wp2_with (at_builtin;refine oF rfl _ _ rfl w _ _ (L.take k++[n]) (L.drop k) rfl rfl bb ((H2.out _ aa)) u_ a8 ?_;intro v3 w3 a9 ab;have a4:Below w.heap.size w w3:=ab.belowGe aa aa.size Ap)
      exact I5
   .obtain rfl:k=L.length:=by omega
    have H:=yb L n L.length b3 aG (λh=>by omega);rw[VS (Ug _),Uj s_] at H;have HP:=h_ H;have H1:=h_ (λ(W:World) (hW:Below w w W)=>J.below hW |>.pre (k:=L.length) (c:=F) b3);have ad:L.length<=100:=o_;clear H aG;by_cases bo:F=L.length
    .have H2:=h_ (λ(W:World) (hW:Below w w W)=>J.below hW |>.post (k:=L.length) (o:=0) (m:=0) (c:=0) o_ (λh=>absurd rfl h));subst bo;exact Kq
    .have H2:=h_ (λ(W:World) (hW:Below w w W)=>J.below hW |>.post (k:=L.length) (o:=L.length) (m:=0) (c:=F - L.length) o_ (λh=>absurd rfl h));exact Kq
def Ix(h:P:=by
 have aX:A0.length<1000000000000:=o_;go_wp2_with (at_builtin;refine fN (y:=(k:Int)+1) rfl _ _ rfl W2.heap.size _ A0 rfl Z rfl aX a6 ?_;intro v' w4 bo K bY)
 go_roundw
 case rel=>exact⟨k+1,by go_num,by omega,by rw[H1.out,HB.out];exact bo,a8.trans K⟩
 case measure=>exact aO):=h
def H6(h:P:=by
 go_enter Tryz.func40,Tryz.ntmps40;go_wp2;go_ret;exact⟨_,rfl,G,a2⟩):=h
def Pe(p:aj->Bool)(L:bV)(k)(h:k<L.length):bK p (L.take (k+1))=if p L[k] then bK p (L.take k)++[(k:Int)+1] else bK p (L.take k):=by
 rw[UL h,ma];have:((L.take k).length:Int)=k:=by rw[UH];omega
 rw[this]
def L_(s:aj)(hs:s.size<=1048576)(w:World)(hE:PEnv w):
 Kp 11 #[s] w (C1 w (bK gF (cI s)) (bO s)):=by
 have hq:=λW hW=>oP s hs W hW;unfold og at hq;have HQ:=h_ hq;have aa:bO s=false->cI s=[]:=λh=>by unfold cI;rw[h];rfl
 have hl:=md s;have hz:=oQ s;generalize cI s=V at *;generalize bO s=ok at *;go_enter Tryz.func11,Tryz.ntmps11;go_wp2_with fail
 refine (HQ.out w hE).mono ?_;rintro e w1 ⟨A,B,X,Y,E,L,vl,vr,rfl,he,ac,H,I⟩;obtain⟨a1,c1,rfl,_,_⟩:=id ac.form;obtain⟨a2,c2,rfl,_,_⟩:=id H.form;have⟨k2,ab⟩:=aw w1 #[A,B,X,Y,E,.slice a1 L.length c1,.slice a2 V.length c2] 65;have U:=af ab I.size I;replace ac:=ac.below ab;replace H:=H.below ab;have HE:=h_ he;go_upto_region 2 with fail
 generalize w1.alloc _=W2 at *;have⟨_,_,_,_,_,_,s6⟩:=k2.q7;obtain⟨a',c',e',_,hf⟩:=H.form;injection e' with e';subst e';have HF:=h_ hf;have F:=U.size;go_wp2;go_loopw [6,17] (λv iv wr=>∃k:Nat,iv=.int .i64 k/\k<=V.length/\aq wr W2 v (bK gF (V.take k))/\Below W2 W2 wr) (λ_ iv _=>V.length - (intOf iv).toNat)
 case atStart=>exact⟨0,rfl,UB _,aq.nil _ _,Uk _ _⟩
 case round=>
  obtain⟨k,rfl,b3,Z,a8⟩:=hrel;have ba:=ll gF (V.take k);rw[UH] at ba;by_cases aG:k<V.length
  .obtain⟨g,rfl,q0,_,hg,_⟩:=HF.out k aG;replace q0:=(a8.cell (p:=⟨g,k,none⟩) hg).trans q0;have H1:=h_ (Pe gF V k aG);generalize V[k]=x at *;generalize bK gF (V.take k)=A0 at *;have a6:=a8.size;cases hn:cp x
   .cases G:cN x
    .have HB:Hid (gF x=false):=h_ (by unfold gF;rw[hn,G];rfl);unfold cp at hn;unfold cN at G;go_wp2;go_roundw
     case rel=>exact⟨k+1,by go_num,by omega,by rw[H1.out,HB.out];exact Z,a8⟩
     case measure=>exact aO
    .have HB:Hid (gF x=true):=h_ (by unfold gF;rw[hn,G];rfl);unfold cp at hn;unfold cN at G;exact Ix
   .have HB:Hid (gF x=true):=h_ (by unfold gF;rw[hn];rfl);unfold cp at hn;exact Ix
  .obtain rfl:k=V.length:=by omega
   have HT:Hid (V.take V.length=V):=h_ (Ve);go_wp2;go_ret2;rw[HT.out] at Z;exact⟨_,rfl,Z.le F,af a8 F U⟩
def S4(v)(L)(hL:L.length<=100)(b)(w)(Z:aq w b v L):
 Kp 40 #[v] w λe w'=>∃v',e=.returned v'/\aq w' w v' L/\Below w w w':=by
 have a2:Below w w (w.alloc (.cells #[] 3)):=(Uk _ _).alloc (Ug _) _;have G:=aq.empty w;have F:=h_ (Z.rdj.below a2);obtain⟨a,c,rfl,hf⟩:=Z.form;have c3:0<L.length->∃g,a=some ⟨g,0,none⟩:=λh=>by obtain⟨g,h1,_⟩:=hf 0 h;exact⟨g,h1⟩
 rcases Nat.eq_zero_or_pos L.length with h0|h0
 .have I:=UX.1 h0;subst I;cases a with
  |none=>
   exact H6
  |some a=>
   exact H6
 .obtain⟨g,rfl⟩:=c3 h0;go_enter Tryz.func40,Tryz.ntmps40;go_wp2_with (at_builtin;refine oF rfl _ _ rfl w _ _ [] L rfl rfl G F.out u_ s_ ?_;intro v1 w1 bz bi;rw[VA] at bz;have bx:=bi.belowGe a2 a2.size zL)
  go_wp2;go_ret;exact⟨_,rfl,bz,bx⟩
def SH{a:Act}{o}{s x}{w}{G}{v y}{L M}(Z:o.op=.call {callee:=.builtin .append,args:=#[s,x],argTypes:=#[22,22]})(hs:a.eval s=v)(hx:a.eval x=y)(V:aq w G v L)(hr:gO w y M)(hn:L.length+M.length<=1000)(U:G<=w.heap.size){O:au}{F:Value->au}
 (hK:∀v' w',aq w' G v' (L++M)->ah v.ownBlock.toList w w'->O w'/\F v' w'):∃v' w',(execOp a.eval o).run Tryz.prog w=.ok (.value v') w'/\O w'/\F v' w':=by
 have⟨v',w',h1,h2,h3⟩:=KF Z hs hx V hr hn U;exact⟨v',w',h1,hK v' w' h2 h3⟩
def NT(M:List Int)(k)(h:k<M.length):jO [] (M.take (k+1))=fF (jO [] (M.take k)) M[k]:=by
 unfold jO;rw[UL h,Ww];rfl
def Md(s:aj)(hs:s.size<=1048576)(w:World)(ht:TabI w):
 Kp 10 #[s] w (C1 w (bK gF (cI s)) (bO s)):=by
 have hl:=md s;unfold cI at hl ⊢;cases h:bO s
 .have H:=h_ (oI s hs h);go_enter Tryz.func10,Tryz.ntmps10;go_wp2_with fail
  refine ai (H.out _) λw1 I=>?_;go_wp2;go_ret2;exact⟨_,rfl,aq.nil _ _,I⟩
 .rw[h] at hl;have H:=h_ (λW (hW:TabI W)=>pg s hs h W hW);simp only[Vo] at hl ⊢;obtain⟨q,hq⟩:∃q,cJ (dW s) dA=q:=⟨_,rfl⟩
  rw[hq] at hl ⊢;unfold qe at H;rw[hq] at H;go_enter Tryz.func10,Tryz.ntmps10;go_wp2_with fail
  refine (H.out w ht).mono ?_;rintro e w1 ⟨r,A,B,X,Y,E,L,reps,vl,v0,v1,rfl,rfl,hk,h3,h4,h5,_,I⟩;have ba:=ll cp reps;have aL:=ll cN reps;simp only at hl;have aa:=h_ (Q2 reps);have J:=h5.rdj;have HO:=h_ (λ(W:World) (hW:Below w1.heap.size w1 W)=>S4 v0 (bK cp reps) o_ (r+1) W (h4.below hW));generalize bK cp reps=G at *;generalize bK cN reps=V at *;obtain⟨a4,c4,rfl,_⟩:=h4.form;obtain⟨a5,c5,rfl,_⟩:=h5.form;have⟨_,_,_,_,_,_,s6⟩:=hk.q7;have⟨_,_,_,_,_,_,_,s7⟩:=hk.q8;have sl:=hk.lt;go_upto_region 5 with fail
  refine br [] (λ_=>false) (λ_=>True) (λ_=>True) k_ trivial (aD ⟨w1,ah.refl _ _,trivial⟩ [ae,ae,ae,ae,ac,ae,ae,ae,ae,ac,ac,ae] 3 an aA ?_);refine aB 4 (bG (some 22) (λv w'=>aq w' w1.heap.size v G) (λv=>aq.closed _ _ _) (λw' hO _=>(HO.out w' hO.below).mono λe w2 ⟨v',h1,h2,h3⟩=>⟨_,h1,.of_below h3,h2.le hO.size⟩) (λv4 hne=>?_));refine ao (aB 9 ?_);refine bI (some 27) (λv w'=>aq w' w1.heap.size v (G++V)) r_ r_ r_ (λv=>aq.closed _ _ _) (λw' hO h=>SH (O:=ah [] w1) r_ r_ r_ h (J.below hO.below) o_ hO.size (λv' w9 h2 h3=>⟨.of_below (h3.belowGe hO.below hO.size (by intro j hj;exact (fH h j (je hj)).1)),h2⟩)) (λv9 hne=>?_);obtain⟨w8,b1,bb⟩:=id hne;obtain⟨a9,c9,rfl,_⟩:=id (aq.form bb);have ab:(G++V).length<=80:=by rw[UE];omega
  generalize F:(G++V).length=m9 at *;refine ao ?_;refine aD hne [ac,ac,ac,ac,ac,ac,ac,ac,ac,ac,ae] 0 (aq.closed _ _ _) aA ?_;refine cV λWz a7 aX=>?_;have aM:=af a7.below I.size I;obtain⟨a',c',e',hf⟩:=aq.form aX;injection e' with e1 e2 e3;clear e2;subst e1 e3;have HF:=h_ hf;have b7:=h_ F;clear hf aX F;generalize G++V=M at *;go_wp2;go_loopw [7,29] (λov iv wr=>∃k:Nat,iv=.int .i64 k/\k<=m9/\aq wr Wz.heap.size ov (jO [] (M.take k))/\Below Wz.heap.size Wz wr) (λ_ iv _=>m9 - (intOf iv).toNat)
  case atStart=>exact⟨0,rfl,UB _,aq.nil _ _,Uk _ _⟩
  case round=>
   obtain⟨k,rfl,b3,Z,a8⟩:=hrel;have ca:=PQ (M.take k) [];rw[UH,Vc] at ca;have hm:=b7.out;by_cases aG:k<m9
   .obtain⟨g,rfl,q0,hg,_⟩:=HF.out k o_;replace q0:=(a8.cell (p:=⟨g,k,none⟩) hg).trans q0;have cm:=Un hg a8.size;rw[Us (show k<M.length by omega),WG] at q0;have H1:=h_ (NT M k o_);have HC:=h_ (RH Wz.heap.size _ _ (M[k]'o_) o_ _ a8.size Z);generalize M[k]'(show k<M.length by omega)=x at *;clear hm;generalize jO [] (M.take k)=P0 at *;go_wp2_with fail
    refine HC.out.mono ?_;rintro e w4 ⟨v4,rfl,bo,K⟩;have U:=af K a8.size a8;go_wp2;go_roundw
    case rel=>exact⟨k+1,by go_num,by omega,by rw[H1.out];exact bo,U⟩
    case measure=>exact aO
   .obtain rfl:k=m9:=by omega
    have HT:Hid (M.take k=M):=h_ (by rw[<-hm];exact Ve);clear hm;rw[HT.out] at Z;have az:=h_ (aa.out▸Z.le aM.size);have bi:=af a8 aM.size aM;clear Z;go_wp2;go_ret2;exact⟨_,rfl,az.out,bi⟩
def Ol(s):(bK gF (cI s)).length<=40:=Ui (ll _ _) (md s)
def walk_FnExactFailedLines(s:aj)(hs:s.size<=maxLen)(w)(hE:PEnv w):
 Rv 3 #[s] w true:=by
 have ad:=hs;unfold maxLen at ad;by_cases hb:s.size<=1048576
 .have hi:¬(1048576:Int)<(s.size:Int):=o_;have hL:=Ol s;have HS:=h_ (λW (hW:PEnv W)=>Md s hb W hW.1);have HI:=h_ (λW (hW:PEnv W)=>L_ s hb W hW);generalize bK gF (cI s)=L,bO s=b at *;have HE:=h_ hE;cases b
  all_goals
   go_enter Tryz.func3,Tryz.ntmps3;go_upto_region 3 with fail
   go_wp2_with fail
   refine (HS.out w HE.out).mono ?_;rintro e w2 ⟨v0,rfl,J,U⟩;have a8:=U.size;go_wp2_with fail
   refine (HI.out w2 (h_ (HE.out.below U)).out).mono ?_;rintro e w4 ⟨v1,rfl,o1,K⟩;have g:=af K a8 U;go_wp2_with fail
   refine (C7 _ _ L o_ _ o1.rd (J.below K).rd).mono ?_;rintro e w5 ⟨rfl,ac⟩;have I:=K.size;go_wp2_with fail
   refine (On _ _ L o_ _ (o1.below ac)).mono ?_;rintro e w6 ⟨rfl,m1,F⟩;have H:=AU (B:=w2.heap.size) F (by have:=ac.size;omega) (λk hk=>(o1.lt k hk).1);have G:=(af ac K.size K).trans H;have aa:=af G a8 U;go_wp2_with fail
   refine (BX _ _ L.length o_ _ m1).mono ?_;rintro e w' ⟨rfl,rfl⟩;go_wp2_with fail
   refine (HI.out w6 (h_ (HE.out.below aa)).out).mono ?_;rintro e w8 ⟨v2,rfl,o2,ca⟩;have r0:=(J.below G).below ca;have a1:=af ca aa.size aa;go_wp2_with fail
   refine (C7 _ _ L o_ _ o2.rd r0.rd).mono ?_;rintro e w9 ⟨rfl,aZ⟩;have m3:=(m1.below ca).below aZ;go_wp2_with fail
   refine (BX _ _ L.length o_ _ m3).mono ?_;rintro e w' ⟨rfl,rfl⟩;go_wp2;go_ret;exact⟨rfl,(af aZ a1.size a1)⟩
 .have hi:(1048576:Int)<(s.size:Int):=o_;go_enter Tryz.func3,Tryz.ntmps3;exact nU
end Go.Proofs.YtaamhakdhaolmaaGreatDoor
