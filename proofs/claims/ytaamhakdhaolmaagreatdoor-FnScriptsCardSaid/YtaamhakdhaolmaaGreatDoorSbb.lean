/- Part 27. -/
import Derived.Test.YtaamhakdhaolmaaGreatDoorSaj
import Derived.Test.YtaamhakdhaolmaaGreatDoorSba
namespace Go.Proofs.YtaamhakdhaolmaaGreatDoor
open Go.RowKit Go.Proofs.Tryz
set_option maxHeartbeats 8000000
set_option maxRecDepth 100000
variable {P:Prop}
set_option linter.all false
def LO(h:P:=by
 go_enter func90,ntmps90;go_upto_region 1 with fail
 generalize (w.alloc _).alloc _=W at *;have⟨a4,a3,a5⟩:=kC.p2;have⟨Z,aL,a2⟩:=kF.p2;go_wp2_with fail
 refine aj (HC.out _) λw1 I=>?_;have H:=ag I J.size J;replace kC:=kC.next I
 replace kF:=kF.next I
 clear a4 a3 a5 Z aL a2 I J;have⟨Z,aL,a2⟩:=kF.p2;go_wp2_with fail
 refine aj (HF.out _) λw2 U=>?_;have ax:=ag U H.size H;replace kC:=kC.next U
 replace kF:=kF.next U
 clear Z aL a2 U H;have⟨a4,a3,a5⟩:=kC.p2;have⟨Z,aL,a2⟩:=kF.p2;go_wp2_with (first|(go_at_call 63;refine aA (dh _ _ _ _) ?_)|(go_at_call 148;refine aA (HX.out _) ?_))
 go_ret2;exact⟨_,rfl,bI.nil _ _,ax⟩):=h
def Jt(h:P:=by
 go_wp2_with ((go_at_call 148;refine aA (a8.out _) ?_))
 go_ret2;exact⟨_,rfl,ob,g⟩):=h
def vz(h:P:=by
 go_ret2;exact⟨_,rfl,bI.nil _ _,ax⟩):=h
def bI.built2(w:World)(p q:P3):bI (w.alloc (.cells #[p.1,p.2.1,p.2.2,q.1,q.2.1,q.2.2] 46)) w (.slice w 2 2) [p,q]:=by
 refine⟨by simp [eZ],.inr ⟨w,2,#[p.1,p.2.1,p.2.2,q.1,q.2.1,q.2.2],rfl,Vj _,?_,?_,?_,?_,?_⟩⟩
 .exact ah.new w _ _
 .simp
 .unfold maxLen;omega
 .simp
 .simp [eZ]
def B_(L:List P3):(eZ L).length=L.length*3:=by
 induction L with
 |nil=>rfl
 |cons p L g=>rw[xi];simp;omega
def OR(L:List P3):∀u∈eZ L,u.oneCell'=true:=by
 induction L with
 |nil=>intro u hu;simp [eZ] at hu
 |cons p L g=>
  intro u hu;rw[xi] at hu;simp at hu;rcases hu with rfl|rfl|rfl|hu
  .rfl
  .rfl
  .rfl
  .exact g u hu
noncomputable def jd(A B x e:Int):List P3:=if cl (cvV A B x e)=true then (if aq (cvV A B x e)=0 then [(x,0,e)] else [(x,-aq (cvV A B x e),e),(x,aq (cvV A B x e),e)]) else []
def BP{n}(h0:0<=n)(hs:cl n=true):aq n=0↔n=0:=by
 have hq:=eq_of_beq hs;constructor
 .intro h;rw[h] at hq;omega
 .intro h;rw[h] at hq ⊢;rcases WQ.1 hq with h|h<;>exact h
def Ei(A B x e:Int)(hA:bh A)(hB:a_ B)(hx:a_ x)(he:1<=e/\e<=20)(w):
 Kp 111 #[.agg #[A,B],x,e] w (nW w (jd A B x e)):=by
 have HV:=h_ (xG A B x e hA hB hx he);have a9:=lV hA hB hx he;have hL:jd A B x e=if cl (cvV A B x e)=true then (if aq (cvV A B x e)=0 then [(x,0,e)] else [(x,-aq (cvV A B x e),e),(x,aq (cvV A B x e),e)]) else []:=rfl
 have db:=nN a9;have⟨kC,J⟩:=ay w #[A,B] 42;rw[hL];generalize cvV A B x e=n at *;by_cases hn:n<0
 .rw[yH hn,Vm s_];go_enter func111,ntmps111;go_upto_region 1 with fail
  generalize w.alloc _=W at *;have⟨a4,a3⟩:=kC.q2;go_wp2_with fail
  refine aj (HV.out _) λw1 I=>?_;have H:=ag I J.size J;go_wp2;go_ret;exact⟨_,rfl,bI.nil _ _,H⟩
 .have HS:=h_ (xy n o_);have HR:=h_ (pg n o_);have hz:=BP (n:=n) o_;cases hs:cl n
  .rw[hs] at HS;rw[Vm s_];go_enter func111,ntmps111;go_upto_region 1 with fail
   generalize w.alloc _=W at *;have⟨a4,a3⟩:=kC.q2;go_wp2_with fail
   refine aj (HV.out _) λw1 I=>?_;have H:=ag I J.size J;go_wp2_with ((go_at_call 110;refine aA (HS.out _) ?_))
   go_ret;exact⟨_,rfl,bI.nil _ _,H⟩
  .rw[hs] at HS;replace hz:=hz hs;rw[Vo rfl];by_cases h0:n=0
   .rw[Vo (hz.2 h0)];subst h0;go_enter func111,ntmps111;go_upto_region 1 with fail
    generalize w.alloc _=W at *;have⟨a4,a3⟩:=kC.q2;go_wp2_with fail
    refine aj (HV.out _) λw1 I=>?_;have H:=ag I J.size J;have ob:=(bI.built w1 (x,0,e)).le H.size;have ax:=H.alloc H.size (.cells #[x,(),e] 46);go_wp2_with ((go_at_call 110;refine aA (HS.out _) ?_))
    go_ret;exact⟨_,rfl,ob,ax⟩
   .rw[Vm (λh=>h0 (hz.1 h))];have g:(n==0)=false:=by simpa using h0
    generalize aq n=r at *;go_enter func111,ntmps111;go_upto_region 1 with fail
    generalize w.alloc _=W at *;have⟨a4,a3⟩:=kC.q2;go_wp2_with fail
    refine aj (HV.out _) λw1 I=>?_;have H:=ag I J.size J;go_wp2_with (first|(go_at_call 110;refine aA (HS.out _) ?_)|(go_at_call 106;refine aA (HR.out _) ?_))
    go_ret;exact⟨_,rfl,((bI.built2 w1 (x,-r,e) (x,r,e)).le H.size),(H.alloc H.size (.cells #[x,(-r:Int),e,x,r,e] 46))⟩
def ks(a b:Int):Bool:=cl b&&decide (aq b<=20)&&aw a (-10000) 10000
noncomputable def jH(A B a b:Int):List P3:=if ks a b then jd A B a (aq b) else []
def Mb(L:List P3)(ok:Bool)(w:World)(e:Ending)(w':World):Prop:=∃v,e=.returned (.tuple #[v,ok])/\bI w' w v L/\af w w w'
def zH{b}(h:1<=b):1<=aq b:=by
 have h1:=nU (n:=b) o_;have h0:=lu b;rcases VJ 0 (aq b) with h|h
 .omega
 .have:aq b=0:=o_
  rw[this] at h1;omega
def NM(A B a b)(hC:be A B=true)(hf:bQ a b=true)(w):
 Kp 75 #[.agg #[A,B],.agg #[a,b]] w (Mb (jH A B a b) (ks a b) w):=by
 have⟨hA,hB⟩:=fs hC;have⟨hb,_⟩:=po hf;have h0:=λW=>f_ A B W;rw[hC] at h0;have HC:=h_ h0;have h1:=λW=>nd a b W;rw[hf] at h1;have HF:=h_ h1;have HS:=h_ (xy b o_);have HR:=h_ (pg b o_);have b4:=zH (b:=b) o_;have bp:=oh (n:=b) (b:=100000) o_ o_ o_;have HL:=h_ (λ(h1:aq b<=20) (h2:aw a (-10000) 10000=true) W=>Ei A B a (aq b) hA hB (bO h2) o_ W);have G:ks a b=(cl b&&decide (aq b<=20)&&aw a (-10000) 10000):=rfl;have hl:jH A B a b=if ks a b then jd A B a (aq b) else []:=rfl
 rw[hl,G];have⟨kC,kF,J⟩:=cO w #[A,B] 42 #[a,b] 96;generalize aq b=r at *;cases hs:cl b
 .rw[hs] at HS;simp;go_enter func75,ntmps75;go_upto_region 1 with fail
  generalize (w.alloc _).alloc _=W at *;have⟨a4,a3,a5⟩:=kC.p2;have⟨Z,aL,a2⟩:=kF.p2;go_wp2_with fail
  refine aj (HC.out _) λw1 I=>?_;have H:=ag I J.size J;replace kC:=kC.next I
  replace kF:=kF.next I
  have⟨Z,aL,a2⟩:=kF.p2;go_wp2_with fail
  refine aj (HF.out _) λw2 U=>?_;have ax:=ag U H.size H;replace kC:=kC.next U
  replace kF:=kF.next U
  have⟨_,_⟩:=kC.q2;have⟨_,aL⟩:=kF.q2;go_wp2_with ((go_at_call 110;refine aA (HS.out _) ?_))
  exact vz
 .rw[hs] at HS;by_cases K:r<=20
  .simp only[K,YI,YV];cases hi:aw a (-10000) 10000
   .have HI:=h_ hi;go_enter func75,ntmps75;go_upto_region 1 with fail
    generalize (w.alloc _).alloc _=W at *;have⟨a4,a3,a5⟩:=kC.p2;have⟨Z,aL,a2⟩:=kF.p2;go_wp2_with fail
    refine aj (HC.out _) λw1 I=>?_;have H:=ag I J.size J;replace kC:=kC.next I
    replace kF:=kF.next I
    have⟨Z,aL,a2⟩:=kF.p2;go_wp2_with fail
    refine aj (HF.out _) λw2 U=>?_;have ax:=ag U H.size H;replace kC:=kC.next U
    replace kF:=kF.next U
    have⟨_,_⟩:=kC.q2;have⟨Z,aL⟩:=kF.q2;go_wp2_with (first|(go_at_call 110;refine aA (HS.out _) ?_)|(go_at_call 106;refine aA (HR.out _) ?_)|(go_at_call 104;refine aA (cK _ _ _ _) ?_))
    exact vz
   .have az:=h_ (HL.out K hi);rw[Vo rfl];generalize jd A B a r=L at *;go_enter func75,ntmps75;go_upto_region 1 with fail
    generalize (w.alloc _).alloc _=W at *;have⟨a4,a3,a5⟩:=kC.p2;have⟨Z,aL,a2⟩:=kF.p2;go_wp2_with fail
    refine aj (HC.out _) λw1 I=>?_;have H:=ag I J.size J;replace kC:=kC.next I
    replace kF:=kF.next I
    have⟨Z,aL,a2⟩:=kF.p2;go_wp2_with fail
    refine aj (HF.out _) λw2 U=>?_;have ax:=ag U H.size H;replace kC:=kC.next U
    replace kF:=kF.next U
    have⟨a4,a3⟩:=kC.q2;have⟨Z,aL⟩:=kF.q2;go_wp2_with (first|(go_at_call 110;refine aA (HS.out _) ?_)|(go_at_call 106;refine aA (HR.out _) ?_)|(go_at_call 104;refine aA (cK _ _ _ _) ?_))
    refine (az.out _).mono ?_;rintro e w3 ⟨v,rfl,ov,aF⟩;go_wp2;go_ret2;exact⟨_,rfl,ov.le ax.size,(ag aF ax.size ax)⟩
  .simp only[K,X6,YV,Bool.false_and];go_enter func75,ntmps75;go_upto_region 1 with fail
   generalize (w.alloc _).alloc _=W at *;have⟨a4,a3,a5⟩:=kC.p2;have⟨Z,aL,a2⟩:=kF.p2;go_wp2_with fail
   refine aj (HC.out _) λw1 I=>?_;have H:=ag I J.size J;replace kC:=kC.next I
   replace kF:=kF.next I
   have⟨Z,aL,a2⟩:=kF.p2;go_wp2_with fail
   refine aj (HF.out _) λw2 U=>?_;have ax:=ag U H.size H;replace kC:=kC.next U
   replace kF:=kF.next U
   have⟨_,_⟩:=kC.q2;have⟨_,aL⟩:=kF.q2;go_wp2_with (first|(go_at_call 110;refine aA (HS.out _) ?_)|(go_at_call 106;refine aA (HR.out _) ?_))
   exact vz
def NB(A B a b)(hC:be A B=true)(hf:bQ a b=true)(w):
 Kp 90 #[.agg #[A,B],.agg #[a,b]] w (Mb (jH A B a b) (ks a b) w):=by
 have⟨hA,hB⟩:=fs hC;have⟨hb,_⟩:=po hf;have h0:=λW=>jV A B W;rw[hC] at h0;have HC:=h_ h0;have h1:=λW=>nE a b W;rw[hf] at h1;have HF:=h_ h1;have HX:=h_ (xj b o_);have b4:=zH (b:=b) o_;have bp:=oh (n:=b) (b:=100000) o_ o_ o_;have HV:=h_ (λ(h1:aq b<=20) (h2:aw a (-10000) 10000=true) W=>tu A B a (aq b) hA hB (bO h2) o_ W);have a9:=λ(h1:aq b<=20) (h2:aw a (-10000) 10000=true)=>lV hA hB (bO h2) (e:=aq b) o_;have a8:=h_ (λ(h1:aq b<=20) (h2:aw a (-10000) 10000=true) W=>xb (cvV A B a (aq b)) (a9 h1 h2) W);have G:ks a b=(cl b&&decide (aq b<=20)&&aw a (-10000) 10000):=rfl;have hl:jH A B a b=if ks a b then jd A B a (aq b) else []:=rfl
 have hL:jd A B a (aq b)=if cl (cvV A B a (aq b))=true then (if aq (cvV A B a (aq b))=0 then [(a,0,aq b)] else [(a,-aq (cvV A B a (aq b)),aq b),(a,aq (cvV A B a (aq b)),aq b)]) else []:=rfl
 have db:=λh1 h2=>nN (a9 h1 h2);rw[hl,G,hL];have⟨kC,kF,J⟩:=cO w #[A,B] 42 #[a,b] 96;generalize aq b=r at *;generalize cvV A B a r=q at *;cases hi:aw a (-10000) 10000
 .simp;go_enter func90,ntmps90;go_upto_region 1 with fail
  generalize (w.alloc _).alloc _=W at *;have⟨a4,a3,a5⟩:=kC.p2;have⟨Z,aL,a2⟩:=kF.p2;go_wp2_with fail
  refine aj (HC.out _) λw1 I=>?_;have H:=ag I J.size J;replace kC:=kC.next I
  replace kF:=kF.next I
  have⟨Z,aL,a2⟩:=kF.p2;go_wp2_with fail
  refine aj (HF.out _) λw2 U=>?_;have ax:=ag U H.size H;replace kC:=kC.next U
  replace kF:=kF.next U
  have⟨_,_⟩:=kC.q2;have⟨Z,_⟩:=kF.q2;go_wp2_with ((go_at_call 63;refine aA (dh _ _ _ _) ?_))
  exact vz
 .cases hs:cl b
  .rw[hs] at HX;simp;exact LO
  .rw[hs] at HX;simp at HX;by_cases K:r<=20
   .simp;replace HV:=h_ (HV.out K hi);replace a8:=h_ (a8.out K hi);replace db:=db K hi;cases F:cl q
    .rw[F] at a8;simp only[Xq,Zt] at a8 ⊢;go_enter func90,ntmps90;go_upto_region 1 with fail
     generalize (w.alloc _).alloc _=W at *;have⟨a4,a3,a5⟩:=kC.p2;have⟨Z,aL,a2⟩:=kF.p2;go_wp2_with fail
     refine aj (HC.out _) λw1 I=>?_;have H:=ag I J.size J;replace kC:=kC.next I
     replace kF:=kF.next I
     have⟨Z,aL,a2⟩:=kF.p2;go_wp2_with fail
     refine aj (HF.out _) λw2 U=>?_;have ax:=ag U H.size H;replace kC:=kC.next U
     replace kF:=kF.next U
     have⟨a4,a3⟩:=kC.q2;have⟨Z,aL⟩:=kF.q2;go_wp2_with (first|(go_at_call 63;refine aA (dh _ _ _ _) ?_)|(go_at_call 148;refine aA (HX.out _) ?_))
     refine aj (HV.out _) λw3 aF=>?_;have az:=ag aF ax.size ax;go_wp2_with ((go_at_call 148;refine aA (a8.out _) ?_))
     go_ret2;exact⟨_,rfl,bI.nil _ _,az⟩
    .rw[F] at a8;simp at a8 ⊢;generalize aq q=y at *;by_cases hy:y=0
     .subst hy;rw[Vo rfl];go_enter func90,ntmps90;go_upto_region 1 with fail
      generalize (w.alloc _).alloc _=W at *;have⟨a4,a3,a5⟩:=kC.p2;have⟨Z,aL,a2⟩:=kF.p2;go_wp2_with fail
      refine aj (HC.out _) λw1 I=>?_;have H:=ag I J.size J;replace kC:=kC.next I
      replace kF:=kF.next I
      have⟨Z,aL,a2⟩:=kF.p2;go_wp2_with fail
      refine aj (HF.out _) λw2 U=>?_;have ax:=ag U H.size H;replace kC:=kC.next U
      replace kF:=kF.next U
      have⟨a4,a3⟩:=kC.q2;have⟨Z,aL,a2⟩:=kF.p2;go_wp2_with (first|(go_at_call 63;refine aA (dh _ _ _ _) ?_)|(go_at_call 148;refine aA (HX.out _) ?_))
      refine aj (HV.out _) λw3 aF=>?_;have az:=ag aF ax.size ax;replace kF:=kF.next aF
      have⟨Z,_⟩:=kF.q2;have ob:=(bI.built w3 (a,0,r)).le az.size;have g:=az.alloc az.size (.cells #[a,(),r] 46);exact Jt
     .rw[Vm hy];have aG:(y==0)=false:=by simpa using hy
      go_enter func90,ntmps90;go_upto_region 1 with fail
      generalize (w.alloc _).alloc _=W at *;have⟨a4,a3,a5⟩:=kC.p2;have⟨Z,aL,a2⟩:=kF.p2;go_wp2_with fail
      refine aj (HC.out _) λw1 I=>?_;have H:=ag I J.size J;replace kC:=kC.next I
      replace kF:=kF.next I
      have⟨Z,aL,a2⟩:=kF.p2;go_wp2_with fail
      refine aj (HF.out _) λw2 U=>?_;have ax:=ag U H.size H;replace kC:=kC.next U
      replace kF:=kF.next U
      have⟨a4,a3⟩:=kC.q2;have⟨Z,aL,a2⟩:=kF.p2;go_wp2_with (first|(go_at_call 63;refine aA (dh _ _ _ _) ?_)|(go_at_call 148;refine aA (HX.out _) ?_))
      refine aj (HV.out _) λw3 aF=>?_;have az:=ag aF ax.size ax;replace kF:=kF.next aF
      have⟨Z,_⟩:=kF.q2;have ob:=(bI.built2 w3 (a,-y,r) (a,y,r)).le az.size;have g:=az.alloc az.size (.cells #[a,(-y:Int),r,a,y,r] 46);exact Jt
   .simp;exact LO
def NN(wr)(G)(v)(L:List P3)(ty)(V:bI wr G v L):
 (Builtin.append_ #[105,105] ty #[v,.slice none 0 0]).run prog wr=.ok v wr:=by
 have⟨U,hi,_,_,_⟩:=WL Tryz.infoQ;rcases V.2 with ⟨rfl,_⟩|⟨g,F,cur,rfl,_,_,aL,_⟩
 .simp [Builtin.append_,Yg underlying105,sizeOf,typeInfo,hi,Builtin.lenOf,Builtin.firstCells,loadCells,loadCellsFrom]
 .simp [Builtin.append_,Yg underlying105,sizeOf,typeInfo,hi,Builtin.lenOf,Builtin.firstCells,loadCells,loadCellsFrom,aL,storeCells]
def Nu{ops}{rest}{o}{a}{Q}{wr}{M:List P3}(aa:o.guard=none)(s x)
 (Z:o.op=.call {callee:=.builtin .append,args:=#[s,x],argTypes:=#[105,105]})
 (G)(v)(L:List P3)(hs:a.eval s=v)(V:bI wr G v L)(ab)(vx)(hx:a.eval x=vx)(hM:bI wr ab vx M)
 (ae:L.length+M.length<1000000000000)(H:G<=wr.heap.size)
 (h:∀v' w1,bI w1 G v' (L++M)->af G wr w1->wr.grownBy w1 v.ownBlock->(v'.ownBlock=v.ownBlock\/v'.ownBlock=some wr.heap.size)->wpList prog ops Q rest (a.put o.dst v') w1):
 wpList prog ops Q (o::rest) a wr:=by
 have⟨U,hi,bi,ac,ba⟩:=WL Tryz.infoQ;rcases hM.2 with ⟨rfl,hn⟩|⟨g,F,cur,rfl,_,hh,_,_,_,ht⟩
 .obtain rfl:M=[]:=List.eq_nil_of_length_eq_zero hn;have hr:=NN wr G v L o.type V;refine Y5 aa λK hK=>?_;unfold Oper.wp execOp;simp only[Z,resolve,invoke,builtin,Y6,Y7,Yk,Yt,WU,X7,hs,hx,hr];refine hK _ _ (h v wr ?_ (Vn _ _) ⟨rfl,rfl,rfl,Vj _,λ_ _ _=>rfl⟩ (.inl rfl));rw[V5];exact V
 .refine wpList_append_own_at _ aa s x 105 Z G 46 U (.agg #[(),(),()]) 3 24 underlying105 hi bi ac ba rfl d_ v L.length (eZ L) hs V ⟨g,0,none⟩ M.length F (eZ M) hx (B_ M) ?_ (OR M) ?_ ?_ H ?_
  .intro j u hj;have aG:=by have:=(V3.1 hj).1;rwa [B_] at this
   have h4:(cur.toList.take (M.length*3))[j]?=cur.toList[j]?:=VU aG;rw[ht,hj,WS] at h4;have e:(⟨g,0,none⟩:Addr).add j=⟨g,j,none⟩:=by
    by_cases h:j=0
    .subst h;rfl
    .simp [Addr.add,h]
   rw[e];show (match wr.heap[g]? with|some (.cells cs _ _)=>_|_=>_)=_;rw[hh];exact h4.symm
  .unfold maxLen;omega
  .omega
  .intro v' w1 J I _ bY;refine h v' w1 ?_ ?_ I bY
   .exact IF
   .refine (Vn G wr).grown I H (λk hk=>?_);exact (Wb V k hk).1
def KM(h:P:=by
 refine (bo.out _).mono ?_;rintro e w3 ⟨vx,rfl,ox,aF⟩;have ab:af (rC+1) w0 w3:=U.trans (aF.mono o_);replace Z:=Z.below aF;have f9:=ab.size;clear a7 aL aG;go_wp2_with (at_builtin;refine Nu rfl _ _ rfl (rC+1) _ _ rfl Z _ _ rfl ox o_ o_ ?_;intro v' w4 bb K b0 _)
 have ae:af (rC+1) w0 w4:=ab.trans K;go_wp2;go_roundw
 case rel=>exact⟨g,D++la,o_,by rw[<-HN.out],h_ Aa,bb,ae⟩
 case measure=>exact aJ):=h
def KI(h:P:=by
 rw[hv] at h0;simp only[iG] at h0;have HO:=h_ h0;clear h0 hv;go_enter func235,ntmps235;go_wp2_with ((go_at_call 123;refine aj (HO.out _) λw1 I=>?_;obtain⟨aZ,a6⟩:=bu I;have ac:=I.size;(try simp only[VG] at ac);(try (have F:w.heap.size<w1.heap.size:=o_));(try (have b7:=Vt ac));(try (have b9:=Vt (Vq b7)))))
 exact wj):=h
def FT(h:P:=by
 clear b1 ba;go_wp2_with ((go_at_call 113;refine aA (ac.out _) ?_))
 exact Kh):=h
def Ty(A B)(p:P3)(m:Nat):gK A B p (m)=cD A B p m (0,0,0):=by
 unfold gK;rw[Vm o_];rfl
def xU(A B X Y E)(hA:bh A)(hB:a_ B)(G:cf A B (X,Y,E))(w):
 Rv 123 #[.agg #[A,B],.agg #[X,Y,E]] w (iG (cg A B (X,Y,E))):=by
 have HO:=h_ (SS A B (X,Y,E));generalize cg A B (X,Y,E)=R at *;have⟨kC,kP,J⟩:=cO w #[A,B] 42 #[X,Y,E] 46;go_enter func123,ntmps123;go_upto_region 1 with fail
 generalize (w.alloc _).alloc _=W at *;have c5:=J.size;go_wp2;go_loopw [6] (λx wr=>∃f m:Nat,x=.int .i64 (m:Int)/\m+f=13/\1<=m/\Hid (l_ A B (X,Y,E) f m=R)/\af W W wr) (λx _=>(13 - intOf x).toNat)
 case atStart=>exact⟨12,1,rfl,rfl,Vj _,HO.out,Vn _ _⟩
 case round=>
  obtain⟨f,m,rfl,aa,cy,HR,V⟩:=hrel;have mC:=kC.next V
  have mP:=kP.next V
  have a8:=ag V c5 J;have aZ:=V.size;cases f with
  |zero=>
   have hR:Hid (none=R):=HR;have hm:(m:Int)=13:=o_;go_wp2;go_ret2;exact⟨by rw[<-hR.out];rfl,a8⟩
  |succ f=>
   have HM:=(h_ (λ(m:Nat) (h:m<=12) W=>CR A B X Y E m hA hB G o_ W)).out m o_;have hR:Hid ((match cD A B (X,Y,E) m (0,0,0) with|none=>none|some r=>if r.2.2=0 then some (m:Int) else l_ A B (X,Y,E) f (m+1))=R):=by
    have h:=HR.out;unfold l_ at h;exact h
   have cm:(m:Int)<=12:=o_;have⟨aM,aL⟩:=mC.q2;have⟨b3,bq,b5⟩:=mP.q3;go_wp2_with fail
   refine aj ((h_ HM).out _) λw1 I=>?_;have H:=ag I (Vl c5 aZ) a8;have U:=V.trans (I.mono aZ);rw[Ty];cases hs:cD A B (X,Y,E) m (0,0,0) with
   |none=>
    have F:Hid (none=R):=by have h:=hR.out;rw[hs] at h;exact h
    simp only[cw];have ax:=H.alloc H.size (.cells #[(),(),()] 46);go_wp2;go_ret2;exact⟨by rw[<-F.out];rfl,ax⟩
   |some r=>
    have⟨x,y,e⟩:=r;have b6:=(h_ (λ(k:Nat) (x y e:Int) (h:cD A B (X,Y,E) k (0,0,0)=some (x,y,e))=>(py hA hB G k (0,0,0) (x,y,e) (.zero A B) h).bd)).out m x y e hs;have F:Hid ((if e=0 then some (m:Int) else l_ A B (X,Y,E) f (m+1))=R):=by have h:=hR.out;rw[hs] at h;exact h
    simp only[cw];have kX:=ah.new w1 #[x,y,e] 46;have ax:=H.alloc H.size (.cells #[x,y,e] 46);have Z:af W W (w1.alloc (.cells #[x,y,e] 46)):=U.alloc U.size _;go_upto_region 5 with fail
    generalize w1.alloc _=W8,w1.heap.size=rX at *;have⟨_,_,bp⟩:=kX.q3;by_cases he:e=0
    .subst he;have K:Hid (some (m:Int)=R):=by have h:=F.out;rw[Vo rfl] at h;exact h
     go_wp2;go_ret2;exact⟨by rw[<-K.out];rfl,ax⟩
    .have g:(e==0)=false:=by simpa using he
     have K:Hid (l_ A B (X,Y,E) f (m+1)=R):=by have h:=F.out;rw[Vm he] at h;exact h
     go_wp2;go_roundw
     case rel=>exact⟨f,m+1,by go_num,o_,o_,K,Z⟩
     case measure=>exact aJ
def jL:Option Int->Int
 |some n=>n
 |none=>0
def Qn(A B X Y E)(hA:bh A)(hB:a_ B)(G:cf A B (X,Y,E))(w):
 Rv 235 #[.agg #[A,B],.agg #[X,Y,E]] w (.int .i64 (jL (cg A B (X,Y,E)))):=by
 have h0:=λW=>xU A B X Y E hA hB G W;cases hv:cg A B (X,Y,E) with
 |none=>
  exact KI
 |some n=>
  exact KI
def SK{A B x}(hd:aP A B≠0):lY A B x=if cvV A B x 1≠0/\(cvV A B x 1<0\/(aP A B).natAbs<cvV A B x 1\/(aP A B).tmod (cvV A B x 1)≠0) then [] else jd A B x 1:=by
 unfold lY jd;generalize cvV A B x 1=n;by_cases hn:n<0
 .rw[yH hn,Vm s_,Vo ⟨o_,.inl hn⟩]
 .cases hs:cl n
  .simp
  .have hq:=eq_of_beq hs;have hz:=BP (n:=n) o_ hs;rw[Vo rfl,Vo rfl];by_cases h0:n=0
   .rw[Vo (hz.2 h0),Vm (λh=>h.1 h0)];simp only[Vo (hz.2 h0)]
   .have hr:¬aq n=0:=λh=>h0 (hz.1 h);rw[Vm hr,Vm hr,hq];by_cases hm:(aP A B).tmod n=0
    .have cm:¬((aP A B).natAbs:Int)<n:=by
      intro aG;have h1:(aP A B).natAbs % n.natAbs=0:=by rw[<-Zn,hm];rfl
      have h2:=Zb (show (aP A B).natAbs<n.natAbs by omega);omega
     rw[Vo hm,Vm];rintro⟨_,h|h|h⟩
     .exact hn h
     .exact cm h
     .exact h hm
    .rw[Vm hm,Vo ⟨h0,.inr (.inr hm)⟩]
def SU(A B x e):(jd A B x e).length<=2:=by
 unfold jd;split
 .split<;>simp
 .simp
def M6(A B)(hA:bh A)(hB:a_ B)(cF:aP A B≠0)(w):
 Kp 234 #[.agg #[A,B]] w (nW w (fw A B)):=by
 have aM:=pv A B;have bp:=h_ (nT A B hA hB);have⟨g1,g2,g3⟩:=lI hA hB;have bi:-7000000000<=aP A B/\aP A B<=7000000000:=by unfold aP;omega
 have ac:=h_ (lK (aP A B) o_);have⟨kC,J⟩:=ay w #[A,B] 42;have ad:Hid (ik A B 6001 (-3000)=fw A B):=rfl;have H:Hid ((fw A B).length<=12002):=aM 6001 (-3000);have aX:=h_ (λx=>SK (A:=A) (B:=B) (x:=x) cF);generalize fw A B=L at ad H ⊢;go_enter func234,ntmps234;go_upto_region 1 with fail
 generalize w.alloc _=W,bv:w.heap.size=rC at *;have F:Hid (w.heap.size=rC):=bv;have a6:=kC.lt;have⟨a4,a3,a5⟩:=kC.p2;go_wp2_with fail
 refine aj (bp.out _) λw0 az=>?_;replace J:=ag az (Vq a6) J;replace kC:=kC.next az
 have a6:=kC.lt;generalize aP A B=dd at *;go_wp2;go_loopw [3,5] (λv x wr=>∃(f:Nat) (D:List (Int×Int×Int)),f<=6001/\x=.int .i64 (3001 - (f:Int))/\Hid (D++ik A B f (3001 - (f:Int))=L)/\bI wr (rC+1) v D/\af (rC+1) w0 wr) (λ_ x _=>(3001 - intOf x).toNat)
 case atStart=>exact⟨6001,[],o_,by go_num,h_ (by rw[WP];exact ad.out),bI.nil _ _,Vn _ _⟩
 case round=>
  obtain⟨f,D,hf,rfl,HD,Z,V⟩:=hrel;have aZ:=V.size;have jC:ah rC #[A,B] 42 wr:=(V.block rC (Nat.lt_succ_self _)).trans kC;by_cases cm:1<=f
  .obtain⟨g,rfl⟩:∃g,f=g+1:=⟨f - 1,o_⟩
   have hx:-10000<=3001 - ((g+1:Nat):Int)/\3001 - ((g+1:Nat):Int)<=10000:=o_;have b3:(3001 - ((g+1:Nat):Int))+1=3001 - (g:Int):=o_;have a2:3001 - ((g+1:Nat):Int)<=3000:=o_;have hD:=by have h:=HD.out;unfold ik at h;rw[b3] at h;exact h
   have a8:D.length<100000000000:=by
    have h1:=H.out;rw[<-hD,VI] at h1;omega
   have a1:=h_ hD;have HN:=h_ b3;generalize 3001 - ((g+1:Nat):Int)=x at *;have dc:=h_ (xG A B x 1 hA hB hx o_);have bo:=h_ (Ei A B x 1 hA hB hx o_);have a9:=lV hA hB hx (e:=1) o_;have G:=h_ (aX.out x);have ax:=SU A B x 1;generalize lY A B x=la at G a1;generalize jd A B x 1=lx,cvV A B x 1=q at *;have⟨a7,aL,aG⟩:=jC.p2;go_wp2_with fail
   refine aj (dc.out _) λw1 I=>?_;have U:=V.trans (I.mono o_);replace Z:=Z.below I;replace jC:=jC.next I
   by_cases hq:q≠0/\(q<0\/(dd.natAbs:Int)<q\/dd.tmod q≠0)
   .have aa:la=[]:=by rw[G.out,Vo hq]
    subst aa;have⟨ba,b1⟩:=hq;have e0:(q != 0)=true:=by simpa using ba
    by_cases c1:q<0
    .exact FT
    .by_cases c2:(dd.natAbs:Int)<q
     .exact FT
     .have e3:(dd.tmod q != 0)=true:=by
       rcases b1 with h|h|h
       .exact absurd h c1
       .exact absurd h c2
       .simpa using h
      go_wp2_with ((go_at_call 113;refine aA (ac.out _) ?_))
      exact JH
   .have aa:la=lx:=by rw[G.out,Vm hq]
    subst aa;by_cases c0:q=0
    .subst c0;have⟨a7,aL,aG⟩:=jC.p2;go_wp2_with fail
     exact KM
    .have e0:(q != 0)=true:=by simpa using c0
     have c1:¬q<0:=λh=>hq ⟨c0,.inl h⟩;have c2:¬(dd.natAbs:Int)<q:=λh=>hq ⟨c0,.inr (.inl h)⟩;have e3:(dd.tmod q != 0)=false:=by
      have:dd.tmod q=0:=by
       by_cases h:dd.tmod q=0
       .exact h
       .exact absurd (.inr (.inr h)) (λh=>hq ⟨c0,h⟩)
      rw[this];rfl
     clear hq;have⟨a7,aL,aG⟩:=jC.p2;go_wp2_with (go_at_call 113;refine aA (ac.out _) ?_)
     exact KM
  .obtain rfl:f=0:=o_
   have hD:=HD.out;unfold ik at hD;rw[V5] at hD;subst hD;clear HD;go_wp2;refine Vk (v:=u3) (by simp [results,results234,go_sem]) rfl ?_;exact GO
end Go.Proofs.YtaamhakdhaolmaaGreatDoor
