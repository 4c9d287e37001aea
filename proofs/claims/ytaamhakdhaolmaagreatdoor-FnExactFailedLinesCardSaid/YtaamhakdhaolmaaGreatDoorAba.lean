/- Part 26. -/
import Derived.Test.YtaamhakdhaolmaaGreatDoorAas
import Derived.Test.YtaamhakdhaolmaaGreatDoorAaz
namespace Go.Proofs.YtaamhakdhaolmaaGreatDoor
open Go.RowKit
set_option maxHeartbeats 8000000
set_option maxRecDepth 100000
variable {P:Prop}
set_option linter.all false
def KU(h:P:=by
 go_enter Tryz.func90,Tryz.ntmps90;go_upto_region 1 with fail
 generalize (w.alloc _).alloc _=W at *;obtain⟨a4,a3⟩:=kC.q2;have a5:=kC.lt;obtain⟨F,Z⟩:=kF.q2;have aL:=kF.lt;go_wp2_with fail
 refine ai (HC.out _) λw1 I=>?_;have H:=af I J.size J;replace kC:=kC.next I
 replace kF:=kF.next I
 clear a4 a3 a5 F Z aL I J;obtain⟨F,Z⟩:=kF.q2;have aL:=kF.lt;go_wp2_with fail
 refine ai (HF.out _) λw2 U=>?_;have az:=af U H.size H;replace kC:=kC.next U
 replace kF:=kF.next U
 clear F Z aL U H;obtain⟨a4,a3⟩:=kC.q2;have a5:=kC.lt;obtain⟨F,Z⟩:=kF.q2;have aL:=kF.lt;go_wp2_with (first|(go_at_call 63;refine ay (cR _ _ _ _) ?_)|(go_at_call 148;refine ay (HX.out _) ?_))
 go_ret2;exact⟨_,rfl,bD.nil _ _,az⟩):=h
def IP(h:P:=by
 go_wp2_with ((go_at_call 148;refine ay (ba.out _) ?_))
 go_ret2;exact⟨_,rfl,ob,g⟩):=h
def uS(h:P:=by
 go_ret2;exact⟨_,rfl,bD.nil _ _,az⟩):=h
def bD.built2(w:World)(p q:P3):bD (w.alloc (.cells #[p.1,p.2.1,p.2.2,q.1,q.2.1,q.2.2] 46)) w.heap.size (.slice (some ⟨w.heap.size,0,none⟩) 2 2) [p,q]:=by
 refine⟨by simp [eL],.inr ⟨w.heap.size,2,#[p.1,p.2.1,p.2.2,q.1,q.2.1,q.2.2],rfl,Ug _,?_,?_,?_,?_,?_⟩⟩
 .exact ag.new w _ _
 .simp
 .unfold maxLen;omega
 .simp
 .simp [eL]
def BF(L:List P3):(eL L).length=L.length*3:=by
 induction L with
 |nil=>rfl
 |cons p L g=>rw[wF];simp only[Uw,g];omega
def N7(L:List P3):∀u∈eL L,u.oneCell'=true:=by
 induction L with
 |nil=>intro u hu;simp [eL] at hu
 |cons p L g=>
  intro u hu;rw[wF] at hu;simp only[UM] at hu;rcases hu with rfl|rfl|rfl|hu
  .rfl
  .rfl
  .rfl
  .exact g u hu
noncomputable def iS(A B x e:Int):List P3:=if ce (cvV A B x e)=true then (if ap (cvV A B x e)=0 then [(x,0,e)] else [(x,-ap (cvV A B x e),e),(x,ap (cvV A B x e),e)]) else []
def Bk{n:Int}(h0:0<=n)(hs:ce n=true):ap n=0↔n=0:=by
 have hq:ap n*ap n=n:=eq_of_beq hs;constructor
 .intro h;rw[h] at hq;omega
 .intro h;rw[h] at hq ⊢;rcases VH.1 hq with h|h<;>exact h
def DD(A B x e:Int)(hA:bj A)(hB:a_ B)(hx:a_ x)(he:1<=e/\e<=20)(w:World):
 Kp 111 #[.agg #[A,B],x,e] w (nK w (iS A B x e)):=by
 have HV:=h_ (xb A B x e hA hB hx he);have a9:=ly hA hB hx he;have hL:iS A B x e=if ce (cvV A B x e)=true then (if ap (cvV A B x e)=0 then [(x,0,e)] else [(x,-ap (cvV A B x e),e),(x,ap (cvV A B x e),e)]) else []:=rfl
 have cF:=nA a9;obtain⟨kC,J⟩:=aw w #[A,B] 42;rw[hL];clear hL;generalize cvV A B x e=n at *;by_cases hn:n<0
 .rw[yf hn,Uj s_];go_enter Tryz.func111,Tryz.ntmps111;go_upto_region 1 with fail
  generalize w.alloc _=W at *;obtain⟨a4,a3⟩:=kC.q2;have a5:=kC.lt;go_wp2_with fail
  refine ai (HV.out _) λw1 I=>?_;have H:=af I J.size J;go_wp2;go_ret;exact⟨_,rfl,bD.nil _ _,H⟩
 .have HS:=h_ (wV n o_);have HR:=h_ (oT n o_);have hz:=Bk (n:=n) o_;cases hs:ce n
  .rw[hs] at HS;rw[Uj s_];clear hz HR hs;go_enter Tryz.func111,Tryz.ntmps111;go_upto_region 1 with fail
   generalize w.alloc _=W at *;obtain⟨a4,a3⟩:=kC.q2;have a5:=kC.lt;go_wp2_with fail
   refine ai (HV.out _) λw1 I=>?_;have H:=af I J.size J;go_wp2_with ((go_at_call 110;refine ay (HS.out _) ?_))
   go_ret;exact⟨_,rfl,bD.nil _ _,H⟩
  .rw[hs] at HS;replace hz:=hz hs;rw[Um rfl];by_cases h0:n=0
   .rw[Um (hz.2 h0)];subst h0;clear hz HR hs;go_enter Tryz.func111,Tryz.ntmps111;go_upto_region 1 with fail
    generalize w.alloc _=W at *;obtain⟨a4,a3⟩:=kC.q2;have a5:=kC.lt;go_wp2_with fail
    refine ai (HV.out _) λw1 I=>?_;have H:=af I J.size J;have ob:=(bD.built w1 (x,0,e)).le H.size;have az:=H.alloc H.size (.cells #[x,(),e] 46);go_wp2_with ((go_at_call 110;refine ay (HS.out _) ?_))
    go_ret;exact⟨_,rfl,ob,az⟩
   .rw[Uj (λh=>h0 (hz.1 h))];have g:(n==0)=false:=by simpa using h0
    clear hz hs h0;generalize ap n=r at *;go_enter Tryz.func111,Tryz.ntmps111;go_upto_region 1 with fail
    generalize w.alloc _=W at *;obtain⟨a4,a3⟩:=kC.q2;have a5:=kC.lt;go_wp2_with fail
    refine ai (HV.out _) λw1 I=>?_;have H:=af I J.size J;have ob:=(bD.built2 w1 (x,-r,e) (x,r,e)).le H.size;have az:=H.alloc H.size (.cells #[x,(-r:Int),e,x,r,e] 46);go_wp2_with (first|(go_at_call 110;refine ay (HS.out _) ?_)|(go_at_call 106;refine ay (HR.out _) ?_))
    go_ret;exact⟨_,rfl,ob,az⟩
def kb(a b:Int):Bool:=ce b&&decide (ap b<=20)&&av a (-10000) 10000
noncomputable def jt(A B a b:Int):List P3:=if kb a b then iS A B a (ap b) else []
def Lk(L:List P3)(ok:Bool)(w:World)(e:Ending)(w':World):Prop:=∃v,e=.returned (.tuple #[v,ok])/\bD w' w.heap.size v L/\Below w.heap.size w w'
def yW{b:Int}(h:1<=b):1<=ap b:=by
 have h1:=nI (n:=b) o_;have h0:=kZ b;rcases UF 0 (ap b) with h|h
 .omega
 .have:ap b=0:=by omega
  rw[this] at h1;omega
def MX(A B a b:Int)(hC:be A B=true)(hf:bJ a b=true)(w:World):
 Kp 75 #[.agg #[A,B],.agg #[a,b]] w (Lk (jt A B a b) (kb a b) w):=by
 obtain⟨hA,hB⟩:=fe hC;obtain⟨hb,ha⟩:=pa hf;have h0:=λW=>fP A B W;rw[hC] at h0;have HC:=h_ h0;have h1:=λW=>mS a b W;rw[hf] at h1;have HF:=h_ h1;clear h0 h1 hC hf;have HS:=h_ (wV b o_);have HR:=h_ (oT b o_);have b4:=yW (b:=b) o_;have bs:=nQ (n:=b) (b:=100000) o_ o_ o_;have HL:=h_ (λ(h1:ap b<=20) (h2:av a (-10000) 10000=true) W=>DD A B a (ap b) hA hB (bH h2) o_ W);have G:kb a b=(ce b&&decide (ap b<=20)&&av a (-10000) 10000):=rfl;have hl:jt A B a b=if kb a b then iS A B a (ap b) else []:=rfl
 rw[hl,G];clear hl G;obtain⟨kC,kF,J⟩:=cr w #[A,B] 42 #[a,b] 96;generalize ap b=r at *;cases hs:ce b
 .rw[hs] at HS;clear HL HR hs;simp only[Xf];go_enter Tryz.func75,Tryz.ntmps75;go_upto_region 1 with fail
  generalize (w.alloc _).alloc _=W at *;obtain⟨a4,a3⟩:=kC.q2;have a5:=kC.lt;obtain⟨F,Z⟩:=kF.q2;have aL:=kF.lt;go_wp2_with fail
  refine ai (HC.out _) λw1 I=>?_;have H:=af I J.size J;replace kC:=kC.next I
  replace kF:=kF.next I
  clear a4 a3 a5 F Z aL I J;obtain⟨F,Z⟩:=kF.q2;have aL:=kF.lt;go_wp2_with fail
  refine ai (HF.out _) λw2 U=>?_;have az:=af U H.size H;replace kC:=kC.next U
  replace kF:=kF.next U
  clear F Z aL U H;obtain⟨a4,a3⟩:=kC.q2;have a5:=kC.lt;obtain⟨F,Z⟩:=kF.q2;have aL:=kF.lt;go_wp2_with ((go_at_call 110;refine ay (HS.out _) ?_))
  exact uS
 .rw[hs] at HS;clear hs;by_cases K:r<=20
  .simp only[K,Xp,Wl];cases hi:av a (-10000) 10000
   .clear HL;have HI:=h_ hi;go_enter Tryz.func75,Tryz.ntmps75;go_upto_region 1 with fail
    generalize (w.alloc _).alloc _=W at *;obtain⟨a4,a3⟩:=kC.q2;have a5:=kC.lt;obtain⟨F,Z⟩:=kF.q2;have aL:=kF.lt;go_wp2_with fail
    refine ai (HC.out _) λw1 I=>?_;have H:=af I J.size J;replace kC:=kC.next I
    replace kF:=kF.next I
    clear a4 a3 a5 F Z aL I J;obtain⟨F,Z⟩:=kF.q2;have aL:=kF.lt;go_wp2_with fail
    refine ai (HF.out _) λw2 U=>?_;have az:=af U H.size H;replace kC:=kC.next U
    replace kF:=kF.next U
    clear F Z aL U H;obtain⟨a4,a3⟩:=kC.q2;have a5:=kC.lt;obtain⟨F,Z⟩:=kF.q2;have aL:=kF.lt;go_wp2_with (first|(go_at_call 110;refine ay (HS.out _) ?_)|(go_at_call 106;refine ay (HR.out _) ?_)|(go_at_call 104;refine ay (cw _ _ _ _) ?_))
    exact uS
   .have ac:=h_ (HL.out K hi);clear HL;rw[Um rfl];generalize iS A B a r=L at *;go_enter Tryz.func75,Tryz.ntmps75;go_upto_region 1 with fail
    generalize (w.alloc _).alloc _=W at *;obtain⟨a4,a3⟩:=kC.q2;have a5:=kC.lt;obtain⟨F,Z⟩:=kF.q2;have aL:=kF.lt;go_wp2_with fail
    refine ai (HC.out _) λw1 I=>?_;have H:=af I J.size J;replace kC:=kC.next I
    replace kF:=kF.next I
    clear a4 a3 a5 F Z aL I J;obtain⟨F,Z⟩:=kF.q2;have aL:=kF.lt;go_wp2_with fail
    refine ai (HF.out _) λw2 U=>?_;have az:=af U H.size H;replace kC:=kC.next U
    replace kF:=kF.next U
    clear F Z aL U H;obtain⟨a4,a3⟩:=kC.q2;have a5:=kC.lt;obtain⟨F,Z⟩:=kF.q2;have aL:=kF.lt;go_wp2_with (first|(go_at_call 110;refine ay (HS.out _) ?_)|(go_at_call 106;refine ay (HR.out _) ?_)|(go_at_call 104;refine ay (cw _ _ _ _) ?_))
    refine (ac.out _).mono ?_;rintro e w3 ⟨v,rfl,ov,aF⟩;have aG:=af aF az.size az;go_wp2;go_ret2;exact⟨_,rfl,ov.le az.size,aG⟩
  .simp only[K,Wx,Wl,Xf];clear HL;go_enter Tryz.func75,Tryz.ntmps75;go_upto_region 1 with fail
   generalize (w.alloc _).alloc _=W at *;obtain⟨a4,a3⟩:=kC.q2;have a5:=kC.lt;obtain⟨F,Z⟩:=kF.q2;have aL:=kF.lt;go_wp2_with fail
   refine ai (HC.out _) λw1 I=>?_;have H:=af I J.size J;replace kC:=kC.next I
   replace kF:=kF.next I
   clear a4 a3 a5 F Z aL I J;obtain⟨F,Z⟩:=kF.q2;have aL:=kF.lt;go_wp2_with fail
   refine ai (HF.out _) λw2 U=>?_;have az:=af U H.size H;replace kC:=kC.next U
   replace kF:=kF.next U
   clear F Z aL U H;obtain⟨a4,a3⟩:=kC.q2;have a5:=kC.lt;obtain⟨F,Z⟩:=kF.q2;have aL:=kF.lt;go_wp2_with (first|(go_at_call 110;refine ay (HS.out _) ?_)|(go_at_call 106;refine ay (HR.out _) ?_))
   exact uS
def ML(A B a b:Int)(hC:be A B=true)(hf:bJ a b=true)(w:World):
 Kp 90 #[.agg #[A,B],.agg #[a,b]] w (Lk (jt A B a b) (kb a b) w):=by
 obtain⟨hA,hB⟩:=fe hC;obtain⟨hb,ha⟩:=pa hf;have h0:=λW=>jG A B W;rw[hC] at h0;have HC:=h_ h0;have h1:=λW=>nq a b W;rw[hf] at h1;have HF:=h_ h1;clear h0 h1 hC hf;have HX:=h_ (wI b o_);have b4:=yW (b:=b) o_;have bs:=nQ (n:=b) (b:=100000) o_ o_ o_;have HV:=h_ (λ(h1:ap b<=20) (h2:av a (-10000) 10000=true) W=>sK A B a (ap b) hA hB (bH h2) o_ W);have a9:=λ(h1:ap b<=20) (h2:av a (-10000) 10000=true)=>ly hA hB (bH h2) (e:=ap b) o_;have ba:=h_ (λ(h1:ap b<=20) (h2:av a (-10000) 10000=true) W=>wy (cvV A B a (ap b)) (a9 h1 h2) W);have G:kb a b=(ce b&&decide (ap b<=20)&&av a (-10000) 10000):=rfl;have hl:jt A B a b=if kb a b then iS A B a (ap b) else []:=rfl
 have hL:iS A B a (ap b)=if ce (cvV A B a (ap b))=true then (if ap (cvV A B a (ap b))=0 then [(a,0,ap b)] else [(a,-ap (cvV A B a (ap b)),ap b),(a,ap (cvV A B a (ap b)),ap b)]) else []:=rfl
 have cF:=λh1 h2=>nA (a9 h1 h2);rw[hl,G,hL];clear hl G hL a9;obtain⟨kC,kF,J⟩:=cr w #[A,B] 42 #[a,b] 96;generalize ap b=r at *;generalize cvV A B a r=q at *;cases hi:av a (-10000) 10000
 .clear HX ba HV cF;simp only[Wy];have HI:=h_ hi;go_enter Tryz.func90,Tryz.ntmps90;go_upto_region 1 with fail
  generalize (w.alloc _).alloc _=W at *;obtain⟨a4,a3⟩:=kC.q2;have a5:=kC.lt;obtain⟨F,Z⟩:=kF.q2;have aL:=kF.lt;go_wp2_with fail
  refine ai (HC.out _) λw1 I=>?_;have H:=af I J.size J;replace kC:=kC.next I
  replace kF:=kF.next I
  clear a4 a3 a5 F Z aL I J;obtain⟨F,Z⟩:=kF.q2;have aL:=kF.lt;go_wp2_with fail
  refine ai (HF.out _) λw2 U=>?_;have az:=af U H.size H;replace kC:=kC.next U
  replace kF:=kF.next U
  clear F Z aL U H;obtain⟨a4,a3⟩:=kC.q2;have a5:=kC.lt;obtain⟨F,Z⟩:=kF.q2;have aL:=kF.lt;go_wp2_with ((go_at_call 63;refine ay (cR _ _ _ _) ?_))
  exact uS
 .cases hs:ce b
  .rw[hs] at HX;clear ba HV cF hs;simp only[Xf];exact KU
  .rw[hs] at HX;simp only[Vo] at HX;clear hs;by_cases K:r<=20
   .simp only[K,Xp,Wl,Vo];replace HV:=h_ (HV.out K hi);replace ba:=h_ (ba.out K hi);replace cF:=cF K hi;cases V:ce q
    .rw[V] at ba;clear cF V;simp only[V6,if_false] at ba ⊢;go_enter Tryz.func90,Tryz.ntmps90;go_upto_region 1 with fail
     generalize (w.alloc _).alloc _=W at *;obtain⟨a4,a3⟩:=kC.q2;have a5:=kC.lt;obtain⟨F,Z⟩:=kF.q2;have aL:=kF.lt;go_wp2_with fail
     refine ai (HC.out _) λw1 I=>?_;have H:=af I J.size J;replace kC:=kC.next I
     replace kF:=kF.next I
     clear a4 a3 a5 F Z aL I J;obtain⟨F,Z⟩:=kF.q2;have aL:=kF.lt;go_wp2_with fail
     refine ai (HF.out _) λw2 U=>?_;have az:=af U H.size H;replace kC:=kC.next U
     replace kF:=kF.next U
     clear F Z aL U H;obtain⟨a4,a3⟩:=kC.q2;have a5:=kC.lt;obtain⟨F,Z⟩:=kF.q2;have aL:=kF.lt;go_wp2_with (first|(go_at_call 63;refine ay (cR _ _ _ _) ?_)|(go_at_call 148;refine ay (HX.out _) ?_))
     refine ai (HV.out _) λw3 aF=>?_;have aG:=af aF az.size az;go_wp2_with ((go_at_call 148;refine ay (ba.out _) ?_))
     go_ret2;exact⟨_,rfl,bD.nil _ _,aG⟩
    .rw[V] at ba;clear V;simp only[Vo] at ba ⊢;generalize ap q=y at *;by_cases hy:y=0
     .subst hy;rw[Um rfl];go_enter Tryz.func90,Tryz.ntmps90;go_upto_region 1 with fail
      generalize (w.alloc _).alloc _=W at *;obtain⟨a4,a3⟩:=kC.q2;have a5:=kC.lt;obtain⟨F,Z⟩:=kF.q2;have aL:=kF.lt;go_wp2_with fail
      refine ai (HC.out _) λw1 I=>?_;have H:=af I J.size J;replace kC:=kC.next I
      replace kF:=kF.next I
      clear a4 a3 a5 F Z aL I J;obtain⟨F,Z⟩:=kF.q2;have aL:=kF.lt;go_wp2_with fail
      refine ai (HF.out _) λw2 U=>?_;have az:=af U H.size H;replace kC:=kC.next U
      replace kF:=kF.next U
      clear F Z aL U H;obtain⟨a4,a3⟩:=kC.q2;have a5:=kC.lt;obtain⟨F,Z⟩:=kF.q2;have aL:=kF.lt;go_wp2_with (first|(go_at_call 63;refine ay (cR _ _ _ _) ?_)|(go_at_call 148;refine ay (HX.out _) ?_))
      refine ai (HV.out _) λw3 aF=>?_;have aG:=af aF az.size az;replace kF:=kF.next aF
      clear F Z aL;obtain⟨F,Z⟩:=kF.q2;have aL:=kF.lt;have ob:=(bD.built w3 (a,0,r)).le aG.size;have g:=aG.alloc aG.size (.cells #[a,(),r] 46);exact IP
     .rw[Uj hy];have aX:(y==0)=false:=by simpa using hy
      clear hy;go_enter Tryz.func90,Tryz.ntmps90;go_upto_region 1 with fail
      generalize (w.alloc _).alloc _=W at *;obtain⟨a4,a3⟩:=kC.q2;have a5:=kC.lt;obtain⟨F,Z⟩:=kF.q2;have aL:=kF.lt;go_wp2_with fail
      refine ai (HC.out _) λw1 I=>?_;have H:=af I J.size J;replace kC:=kC.next I
      replace kF:=kF.next I
      clear a4 a3 a5 F Z aL I J;obtain⟨F,Z⟩:=kF.q2;have aL:=kF.lt;go_wp2_with fail
      refine ai (HF.out _) λw2 U=>?_;have az:=af U H.size H;replace kC:=kC.next U
      replace kF:=kF.next U
      clear F Z aL U H;obtain⟨a4,a3⟩:=kC.q2;have a5:=kC.lt;obtain⟨F,Z⟩:=kF.q2;have aL:=kF.lt;go_wp2_with (first|(go_at_call 63;refine ay (cR _ _ _ _) ?_)|(go_at_call 148;refine ay (HX.out _) ?_))
      refine ai (HV.out _) λw3 aF=>?_;have aG:=af aF az.size az;replace kF:=kF.next aF
      clear F Z aL;obtain⟨F,Z⟩:=kF.q2;have aL:=kF.lt;have ob:=(bD.built2 w3 (a,-y,r) (a,y,r)).le aG.size;have g:=aG.alloc aG.size (.cells #[a,(-y:Int),r,a,y,r] 46);exact IP
   .simp only[K,Wx,Wl,Xf];clear ba HV cF;exact KU
def MY(wr)(G)(v)(L:List P3)(ty)(V:bD wr G v L):
 (Builtin.append_ #[105,105] ty #[v,.slice none 0 0]).run Tryz.prog wr=.ok v wr:=by
 have⟨i0,hi,_,_,_⟩:=VE Tryz.infoQ;rcases V.2 with ⟨rfl,_⟩|⟨g,F,aM,rfl,_,_,aL,_⟩
 .simp [Builtin.append_,Xg Tryz.underlying105,sizeOf,typeInfo,hi,Builtin.lenOf,Builtin.firstCells,loadCells,loadCellsFrom]
 .simp [Builtin.append_,Xg Tryz.underlying105,sizeOf,typeInfo,hi,Builtin.lenOf,Builtin.firstCells,loadCells,loadCellsFrom,aL,storeCells]
def ME{ops}{rest}{o}{a}{Q}{wr}{M:List P3}(aa:o.guard=none)(s x)
 (Z:o.op=.call {callee:=.builtin .append,args:=#[s,x],argTypes:=#[105,105]})
 (G)(v)(L:List P3)(hs:a.eval s=v)(V:bD wr G v L)(ab)(vx)(hx:a.eval x=vx)(hM:bD wr ab vx M)
 (ac:L.length+M.length<1000000000000)(U:G<=wr.heap.size)
 (h:∀v' w1,bD w1 G v' (L++M)->Below G wr w1->wr.grownBy w1 v.ownBlock->(v'.ownBlock=v.ownBlock\/v'.ownBlock=some wr.heap.size)->wpList Tryz.prog ops Q rest (a.put o.dst v') w1):
 wpList Tryz.prog ops Q (o::rest) a wr:=by
 have⟨i0,hi,bi,ax,a8⟩:=VE Tryz.infoQ;rcases hM.2 with ⟨rfl,hn⟩|⟨g,F,aM,rfl,_,hh,_,_,_,ht⟩
 .obtain rfl:M=[]:=List.eq_nil_of_length_eq_zero hn;have hr:=MY wr G v L o.type V;refine X0 aa λK hK=>?_;unfold Oper.wp execOp;simp only[Z,resolve,invoke,builtin,X3,X4,Xj,Xt,VF,WW,hs,hx,hr];refine hK _ _ (h v wr ?_ (Uk _ _) ⟨rfl,rfl,rfl,Ug _,λ_ _ _=>rfl⟩ (.inl rfl));rw[Vr];exact V
 .refine wpList_append_own_at _ aa s x 105 Z G 46 i0 (.agg #[(),(),()]) 3 24 Tryz.underlying105 hi bi ax a8 rfl d_ v L.length (eL L) hs V ⟨g,0,none⟩ M.length F (eL M) hx (BF M) ?_ (N7 M) ?_ ?_ U ?_
  .intro j u hj;have aG:=by have:=(U2.1 hj).1;rwa [BF] at this
   have h4:(aM.toList.take (M.length*3))[j]?=aM.toList[j]?:=UR aG;rw[ht,hj,VJ] at h4;have e:(⟨g,0,none⟩:Addr).add j=⟨g,j,none⟩:=by
    by_cases h:j=0
    .subst h;rfl
    .simp [Addr.add,h]
   rw[e];show (match wr.heap[g]? with|some (.cells I _ _)=>_|_=>_)=_;rw[hh];exact h4.symm
  .unfold maxLen;omega
  .omega
  .intro v' w1 J H _ bp;refine h v' w1 ?_ ?_ H bp
   .exact Ht
   .refine (Uk G wr).grown H U (λk hk=>?_);exact (U9 V k hk).1
def JZ(h:P:=by
 refine (aZ.out _).mono ?_;rintro e w3 ⟨vx,rfl,ox,aF⟩;have ax:Below (rC+1) w0 w3:=U.trans (aF.mono o_);replace Z:=Z.below aF;have c9:=ax.size;clear bp a7 a2;go_wp2_with (at_builtin;refine ME rfl _ _ rfl (rC+1) _ _ rfl Z _ _ rfl ox o_ o_ ?_;intro v' w4 bo K bY _)
 have ac:Below (rC+1) w0 w4:=ax.trans K;go_wp2;go_roundw
 case rel=>exact⟨g,D++la,by omega,by rw[<-HN.out],h_ zk,bo,ac⟩
 case measure=>exact aO):=h
def JV(h:P:=by
 rw[hv] at h0;simp only[io] at h0;have HO:=h_ h0;clear h0 hv;go_enter Tryz.func235,Tryz.ntmps235;go_wp2_with ((go_at_call 123;refine ai (HO.out _) λw1 I=>?_;obtain⟨aZ,a6⟩:=bf I;have ax:=I.size;(try simp only[Uq] at ax);(try (have F:w.heap.size<w1.heap.size:=by omega));(try (have a9:=Ul ax));(try (have bs:=Ul (Uo a9)))))
 exact vJ):=h
def Fa(h:P:=by
 clear b5 aX;go_wp2_with ((go_at_call 113;refine ay (aG.out _) ?_))
 exact Jy):=h
def SD(A B)(p:P3)(m:Nat):gy A B p (m)=cl A B p m (0,0,0):=by
 unfold gy;rw[Uj o_];rfl
def xp(A B X Y E)(hA:bj A)(hB:a_ B)(G:bW A B (X,Y,E))(w):
 Rv 123 #[.agg #[A,B],.agg #[X,Y,E]] w (io (b_ A B (X,Y,E))):=by
 have HO:=h_ (RN A B (X,Y,E));generalize b_ A B (X,Y,E)=R at *;have⟨kC,kP,J⟩:=cr w #[A,B] 42 #[X,Y,E] 46;go_enter Tryz.func123,Tryz.ntmps123;go_upto_region 1 with fail
 generalize (w.alloc _).alloc _=W at *;have c8:=J.size;go_wp2;go_loopw [6] (λx wr=>∃f m:Nat,x=.int .i64 (m:Int)/\m+f=13/\1<=m/\Hid (lH A B (X,Y,E) f m=R)/\Below W W wr) (λx _=>(13 - intOf x).toNat)
 case atStart=>exact⟨12,1,rfl,rfl,Ug _,HO.out,Uk _ _⟩
 case round=>
  obtain⟨f,m,rfl,aa,cc,HR,F⟩:=hrel;have mC:=kC.next F
  have mP:=kP.next F
  have ba:=af F c8 J;have bX:=F.size;cases f with
  |zero=>
   have hR:Hid (none=R):=HR;have hm:(m:Int)=13:=o_;go_wp2;go_ret2;exact⟨by rw[<-hR.out];rfl,ba⟩
  |succ f=>
   have HM:=(h_ (λ(m:Nat) (h:m<=12) W=>Ck A B X Y E m hA hB G o_ W)).out m o_;have hR:Hid ((match cl A B (X,Y,E) m (0,0,0) with|none=>none|some r=>if r.2.2=0 then some (m:Int) else lH A B (X,Y,E) f (m+1))=R):=by
    have h:=HR.out;unfold lH at h;exact h
   have cm:(m:Int)<=12:=o_;have⟨aX,aM⟩:=mC.q2;have⟨bz,a9,b6⟩:=mP.q3;go_wp2_with fail
   refine ai ((h_ HM).out _) λw1 I=>?_;have H:=af I (Ui c8 bX) ba;have V:=F.trans (I.mono bX);rw[SD];cases hs:cl A B (X,Y,E) m (0,0,0) with
   |none=>
    have K:Hid (none=R):=by have h:=hR.out;rw[hs] at h;exact h
    simp only[cj];have az:=H.alloc H.size (.cells #[(),(),()] 46);go_wp2;go_ret2;exact⟨by rw[<-K.out];rfl,az⟩
   |some r=>
    have⟨x,y,e⟩:=r;have b5:=(h_ (λ(k:Nat) (x y e:Int) (h:cl A B (X,Y,E) k (0,0,0)=some (x,y,e))=>(pj hA hB G k (0,0,0) (x,y,e) (.zero A B) h).bd)).out m x y e hs;have K:Hid ((if e=0 then some (m:Int) else lH A B (X,Y,E) f (m+1))=R):=by have h:=hR.out;rw[hs] at h;exact h
    simp only[cj];have kX:=ag.new w1 #[x,y,e] 46;have az:=H.alloc H.size (.cells #[x,y,e] 46);have Z:Below W W (w1.alloc (.cells #[x,y,e] 46)):=V.alloc V.size _;go_upto_region 5 with fail
    generalize w1.alloc _=W8,w1.heap.size=rX at *;have⟨_,_,aL⟩:=kX.q3;by_cases he:e=0
    .subst he;have U:Hid (some (m:Int)=R):=by have h:=K.out;rw[Um rfl] at h;exact h
     go_wp2;go_ret2;exact⟨by rw[<-U.out];rfl,az⟩
    .have g:(e==0)=false:=by simpa using he
     have U:Hid (lH A B (X,Y,E) f (m+1)=R):=by have h:=K.out;rw[Uj he] at h;exact h
     go_wp2;go_roundw
     case rel=>exact⟨f,m+1,by go_num,by omega,by omega,U,Z⟩
     case measure=>exact aO
def jy:Option Int->Int
 |some n=>n
 |none=>0
def Px(A B X Y E)(hA:bj A)(hB:a_ B)(G:bW A B (X,Y,E))(w):
 Rv 235 #[.agg #[A,B],.agg #[X,Y,E]] w (.int .i64 (jy (b_ A B (X,Y,E)))):=by
 have h0:=λW=>xp A B X Y E hA hB G W;cases hv:b_ A B (X,Y,E) with
 |none=>
  exact JV
 |some n=>
  exact JV
def RG{A B x}(hd:aP A B≠0):lE A B x=if cvV A B x 1≠0/\(cvV A B x 1<0\/(aP A B).natAbs<cvV A B x 1\/(aP A B).tmod (cvV A B x 1)≠0) then [] else iS A B x 1:=by
 unfold lE iS;generalize cvV A B x 1=n;by_cases hn:n<0
 .rw[yf hn,Uj s_,Um ⟨by omega,.inl hn⟩]
 .cases hs:ce n
  .simp
  .have hq:=eq_of_beq hs;have hz:=Bk (n:=n) o_ hs;rw[Um rfl,Um rfl];by_cases h0:n=0
   .rw[Um (hz.2 h0),Uj (λh=>h.1 h0)];simp only[Um (hz.2 h0)]
   .have hr:¬ap n=0:=λh=>h0 (hz.1 h);rw[Uj hr,Uj hr,hq];by_cases hm:(aP A B).tmod n=0
    .have cm:¬((aP A B).natAbs:Int)<n:=by
      intro aG;have h1:(aP A B).natAbs % n.natAbs=0:=by rw[<-Yj,hm];rfl
      have h2:=X9 (show (aP A B).natAbs<n.natAbs by omega);omega
     rw[Um hm,Uj];rintro⟨_,h|h|h⟩
     .exact hn h
     .exact cm h
     .exact h hm
    .rw[Uj hm,Um ⟨h0,.inr (.inr hm)⟩]
def RP(A B x e):(iS A B x e).length<=2:=by
 unfold iS;split
 .split<;>simp
 .simp
def Mg(A B)(hA:bj A)(hB:a_ B)(bZ:aP A B≠0)(w):
 Kp 234 #[.agg #[A,B]] w (nK w (fi A B)):=by
 have ab:=pf A B;have a8:=h_ (nH A B hA hB);have⟨g1,g2,g3⟩:=li hA hB;have bi:-7000000000<=aP A B/\aP A B<=7000000000:=by unfold aP;omega
 have aG:=h_ (lk (aP A B) o_);have⟨kC,J⟩:=aw w #[A,B] 42;have V:Hid (gR A B 6001 (-3000)=fi A B):=rfl;have aa:Hid ((fi A B).length<=12002):=ab 6001 (-3000);have ae:=h_ (λx=>RG (A:=A) (B:=B) (x:=x) bZ);generalize fi A B=L at V aa ⊢;go_enter Tryz.func234,Tryz.ntmps234;go_upto_region 1 with fail
 generalize w.alloc _=W,bx:w.heap.size=rC at *;have az:Hid (w.heap.size=rC):=bx;have a6:=kC.lt;have⟨a4,a3⟩:=kC.q2;have a5:=kC.lt;go_wp2_with fail
 refine ai (a8.out _) λw0 ad=>?_;replace J:=af ad (Uo a6) J;replace kC:=kC.next ad
 have a6:=kC.lt;generalize aP A B=dd at *;go_wp2;go_loopw [3,5] (λv x wr=>∃(f:Nat) (D:List (Int×Int×Int)),f<=6001/\x=.int .i64 (3001 - (f:Int))/\Hid (D++gR A B f (3001 - (f:Int))=L)/\bD wr (rC+1) v D/\Below (rC+1) w0 wr) (λ_ x _=>(3001 - intOf x).toNat)
 case atStart=>exact⟨6001,[],by omega,by go_num,h_ (by rw[VA];exact V.out),bD.nil _ _,Uk _ _⟩
 case round=>
  obtain⟨f,D,hf,rfl,HD,Z,F⟩:=hrel;have bX:=F.size;have jC:ag rC #[A,B] 42 wr:=(F.block rC (Nat.lt_succ_self _)).trans kC;by_cases cm:1<=f
  .obtain⟨g,rfl⟩:∃g,f=g+1:=⟨f - 1,by omega⟩
   have hx:-10000<=3001 - ((g+1:Nat):Int)/\3001 - ((g+1:Nat):Int)<=10000:=o_;have b6:(3001 - ((g+1:Nat):Int))+1=3001 - (g:Int):=o_;have a1:3001 - ((g+1:Nat):Int)<=3000:=o_;have hD:=by have h:=HD.out;unfold gR at h;rw[b6] at h;exact h
   have aL:D.length<100000000000:=by
    have h1:=aa.out;rw[<-hD,UE] at h1;omega
   have bb:=h_ hD;have HN:=h_ b6;generalize 3001 - ((g+1:Nat):Int)=x at *;have dl:=h_ (xb A B x 1 hA hB hx o_);have aZ:=h_ (DD A B x 1 hA hB hx o_);have a9:=ly hA hB hx (e:=1) o_;have G:=h_ (ae.out x);have aM:=RP A B x 1;generalize lE A B x=la at G bb;generalize iS A B x 1=lx,cvV A B x 1=q at *;have⟨bp,a7⟩:=jC.q2;have a2:=jC.lt;go_wp2_with fail
   refine ai (dl.out _) λw1 I=>?_;have U:=F.trans (I.mono o_);replace Z:=Z.below I;replace jC:=jC.next I
   by_cases hq:q≠0/\(q<0\/(dd.natAbs:Int)<q\/dd.tmod q≠0)
   .have H:la=[]:=by rw[G.out,Um hq]
    subst H;have⟨aX,b5⟩:=hq;have e0:(q != 0)=true:=by simpa using aX
    by_cases c1:q<0
    .exact Fa
    .by_cases c2:(dd.natAbs:Int)<q
     .exact Fa
     .have e3:(dd.tmod q != 0)=true:=by
       rcases b5 with h|h|h
       .exact absurd h c1
       .exact absurd h c2
       .simpa using h
      go_wp2_with ((go_at_call 113;refine ay (aG.out _) ?_))
      exact I3
   .have H:la=lx:=by rw[G.out,Uj hq]
    subst H;by_cases c0:q=0
    .subst c0;have⟨bp,a7⟩:=jC.q2;have a2:=jC.lt;go_wp2_with fail
     exact JZ
    .have e0:(q != 0)=true:=by simpa using c0
     have c1:¬q<0:=λh=>hq ⟨c0,.inl h⟩;have c2:¬(dd.natAbs:Int)<q:=λh=>hq ⟨c0,.inr (.inl h)⟩;have e3:(dd.tmod q != 0)=false:=by
      have:dd.tmod q=0:=by
       by_cases h:dd.tmod q=0
       .exact h
       .exact absurd (.inr (.inr h)) (λh=>hq ⟨c0,h⟩)
      rw[this];rfl
     clear hq;obtain⟨bp,a7⟩:=jC.q2;have a2:=jC.lt;go_wp2_with (go_at_call 113;refine ay (aG.out _) ?_)
     exact JZ
  .obtain rfl:f=0:=by omega
   have hD:=HD.out;unfold gR at hD;rw[Vr] at hD;subst hD;clear HD;go_wp2;refine Uh (v:=u3) (by simp [results,Tryz.results234,go_sem]) rfl ?_;exact F8
end Go.Proofs.YtaamhakdhaolmaaGreatDoor
