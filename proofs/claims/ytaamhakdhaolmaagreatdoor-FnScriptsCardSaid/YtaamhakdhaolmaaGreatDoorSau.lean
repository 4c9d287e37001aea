/- Part 20. -/
import Derived.Test.YtaamhakdhaolmaaGreatDoorSag
import Derived.Test.YtaamhakdhaolmaaGreatDoorSat
namespace Go.Proofs.YtaamhakdhaolmaaGreatDoor
open Go.RowKit Go.Proofs.Tryz
set_option maxHeartbeats 8000000
set_option maxRecDepth 100000
variable {P:Prop}
set_option linter.all false
def wz(h:P:=by
 go_wp2;go_ret2;exact⟨rfl,I⟩):=h
def FC(h:P:=by
 go_wp2_with fail
 refine aj (HF.out _) λw2 U=>?_;have aa:=ag U I.size I;go_wp2;go_ret2;exact⟨rfl,aa.alloc aa.size _⟩):=h
def FB(h:P:=by
 go_wp2_with fail
 refine aj (HG.out _) λw1 I=>?_;exact wz):=h
def UZ{n m}(hn:1<=n/\n<=31)(hm:2<=m/\m<=100)(h:il n m=true):∃p q r s t u:Int,iH n m=.agg #[p,q,r,s,t,u]/\bQ p q=true/\bQ r s=true/\bQ t u=true:=by
 by_cases hx:∃p,je n m p
 case neg=>
  have h9:il n m=false:=by unfold il;simp [hx]
  rw[h9] at h;cases h
 have⟨⟨u,v⟩,G⟩:=hx;rw[(Fh G).2];have⟨⟨h1,h2,h3⟩,h4,_⟩:=G;simp only at h1 h2 h3 h4;have hu:1<=u/\u<=100:=o_;have hv:1<=v/\v<=u - 1:=o_;have co:=by
  unfold fm at h4;simp at h4;exact h4.1
 have hd:=yk hn hu hv co;have⟨b1,b2,b3,b4,_⟩:=sp hu hv;have g:=Wd 2 u v;have g1:=mp (n:=u*u - v*v) (d:=aq (bj u v / n)) o_ o_;have g2:=mp (n:=2*u*v) (d:=aq (bj u v / n)) o_ o_;have g3:=mp (n:=u*u+v*v) (d:=aq (bj u v / n)) o_ o_;unfold md;generalize bc (u*u - v*v) (aq (bj u v / n))=a,aO (u*u - v*v) (aq (bj u v / n))=x,bc (2*u*v) (aq (bj u v / n))=b,aO (2*u*v) (aq (bj u v / n))=y,bc (u*u+v*v) (aq (bj u v / n))=c,aO (u*u+v*v) (aq (bj u v / n))=z at *;cases Z:nt a x b y
 .exact⟨_,_,_,_,_,_,yJ Z,lE g1,lE g2,lE g3⟩
 .exact⟨_,_,_,_,_,_,yf Z,lE g2,lE g1,lE g3⟩
def ki(S:ak)(b:Bool)(w:World)(e:Ending)(w':World):Prop:=e=.returned (.tuple #[S,b])/\af w w w'
def sR(p q r s t u:Int):ak:=aH p q++⟨#[32]⟩++aH r s++⟨#[32]⟩++aH t u
def Mz(n m)(h:jJ n m=false)(w):
 Kp 132 #[n,m] w (ki ⟨#[]⟩ false w):=by
 have HG:Hid (∀w,_):=λw=>tR n m w;rw[h] at HG;go_enter func132,ntmps132;exact FB
def Mw(n m)(h:jJ n m=true)(hM:nu n=false)(w):
 Kp 132 #[n,m] w (ki ⟨#[110,111]⟩ true w):=by
 have⟨hn,hm⟩:=om h;have HG:Hid (∀w,_):=λw=>tR n m w;rw[h] at HG;have HM:Hid (∀w,_):=λw=>yB n hn w;rw[hM] at HM;go_enter func132,ntmps132;go_wp2_with fail
 refine aj (HG.out _) λw1 I=>?_;go_wp2_with fail
 exact aA (HM.out _) wz
def Ms(n m p q r s t u:Int)(h:jJ n m=true)(hM:nu n=true)(hV:iH n m=.agg #[p,q,r,s,t,u])(hO:il n m=false)(w):
 Kp 132 #[n,m] w (ki ⟨#[111,112,101,110]⟩ true w):=by
 have⟨hn,hm⟩:=om h;have HG:Hid (∀w,_):=λw=>tR n m w;rw[h] at HG;have HM:Hid (∀w,_):=λw=>yB n hn w;rw[hM] at HM;have hf:=λw=>CN n m hn hm w;rw[hV,hO] at hf;have HF:=h_ hf;go_enter func132,ntmps132;go_wp2_with fail
 refine aj (HG.out _) λw1 I=>?_;go_wp2_with fail
 exact aA (HM.out _) FC
def Mu(n m p q r s t u:Int)(h:jJ n m=true)(hM:nu n=true)(hV:iH n m=.agg #[p,q,r,s,t,u])(hO:il n m=true)(h1:bQ p q=true)(h2:bQ r s=true)(h3:bQ t u=true)(w):
 Kp 132 #[n,m] w (ki (sR p q r s t u) true w):=by
 have kG:=λa b w1 h=>ph a b h w1;have zA:=ju p q h1;have zB:=ju r s h2;have zC:=ju t u h3;have hT:sR p q r s t u=aH p q++⟨#[32]⟩++aH r s++⟨#[32]⟩++aH t u:=rfl;rw[hT];have f1:(aH p q++⟨#[32]⟩:ak).size=(aH p q).size+1:=by rw[Vu];rfl
 have f2:(aH p q++⟨#[32]⟩++aH r s:ak).size=(aH p q).size+1+(aH r s).size:=by rw[Vu,f1]
 have f3:(aH p q++⟨#[32]⟩++aH r s++⟨#[32]⟩:ak).size=(aH p q).size+1+(aH r s).size+1:=by rw[Vu,f2];rfl
 have e1:(⟨#[32]⟩:ak).size=1:=rfl;have ab:=λw=>Vr (P:=prog) w (aH p q) ⟨#[32]⟩ o_;have az:=λw=>Vr (P:=prog) w (aH p q++⟨#[32]⟩) (aH r s) o_;have V:=λw=>Vr (P:=prog) w (aH p q++⟨#[32]⟩++aH r s) ⟨#[32]⟩ o_;have ad:=λw=>Vr (P:=prog) w (aH p q++⟨#[32]⟩++aH r s++⟨#[32]⟩) (aH t u) o_;have G:=h_ kG;have⟨hn,hm⟩:=om h;have HG:Hid (∀w,_):=λw=>tR n m w;rw[h] at HG;have HM:Hid (∀w,_):=λw=>yB n hn w;rw[hM] at HM;have hf:=λw=>CN n m hn hm w;rw[hV,hO] at hf;have HF:=h_ hf;go_enter func132,ntmps132;go_wp2_with fail
 refine aj (HG.out _) λw1 I=>?_;go_wp2_with fail
 refine aA (HM.out _) ?_;go_wp2_with fail
 refine aj (HF.out _) λw2 U=>?_;have aa:=ag U I.size I;have kT:=ah.new w2 #[p,q,r,s,t,u] 175;have aM:=aa.alloc aa.size (.cells #[p,q,r,s,t,u] 175);go_wp2;generalize w2.alloc _=W,w2.heap.size=r6 at *;have⟨aL,ac,ax,Z,H,ae,K⟩:=kT.p6
 (refine bR k_ k_ ?_;(repeat (go_big_quiet_step ((go_at_call 168;exact Calls.quiet_cls ao _ (G.out _ _ _ se)))));refine wpQuiet_nil ?_;intro w9 aZ)
 go_wp2;go_ret2;exact⟨rfl,ag aZ aM.size aM⟩
def My(n m)(h:jJ n m=false)(w):
 Kp 162 #[n,m] w (ki ⟨#[]⟩ false w):=by
 have HG:Hid (∀w,_):=λw=>ua n w;have H1:Hid (∀w,_):=λw=>dh m 2 100 w;have J:(jz n&&aw m 2 100)=false:=h;cases h1:jz n
 .rw[h1] at HG;go_enter func162,ntmps162;exact FB
 .rw[h1] at HG J;rw[YV] at J;rw[J] at H1;go_enter func162,ntmps162;go_wp2_with fail
  refine aj (HG.out _) λw1 I=>?_;go_wp2_with fail
  exact aA (H1.out _) wz
def Mv(n m)(h:jJ n m=true)(hM:nu n=false)(w):
 Kp 162 #[n,m] w (ki ⟨#[110,111]⟩ true w):=by
 have⟨hn,hm⟩:=om h;have HG:Hid (∀w,_):=λw=>ua n w;have H1:Hid (∀w,_):=λw=>dh m 2 100 w;have J:(jz n&&aw m 2 100)=true:=h;rw[VB] at J;rw[J.1] at HG;rw[J.2] at H1;have HC:Hid (∀w,_):=λw=>xe n hn w;have g:(gI n==2*gH n)=false:=hM;have F:(gI n != 2*gH n)=true:=by unfold bne;rw[g];rfl
 have b6:=vY n;generalize gI n=A,gH n=B at *;have bi:IntKind.i64.wrap (2*B)=2*B:=Wg _ o_;go_enter func162,ntmps162;go_wp2_with fail
 refine aj (HG.out _) λw1 I=>?_;go_wp2_with fail
 refine aA (H1.out _) ?_;go_wp2_with fail
 exact aA (HC.out _) wz
def Mt(n m p q r s t u:Int)(h:jJ n m=true)(hM:nu n=true)(hV:iH n m=.agg #[p,q,r,s,t,u])(hO:il n m=false)(w):
 Kp 162 #[n,m] w (ki ⟨#[111,112,101,110]⟩ true w):=by
 have⟨hn,hm⟩:=om h;have HG:Hid (∀w,_):=λw=>ua n w;have H1:Hid (∀w,_):=λw=>dh m 2 100 w;have J:(jz n&&aw m 2 100)=true:=h;rw[VB] at J;rw[J.1] at HG;rw[J.2] at H1;have HC:Hid (∀w,_):=λw=>xe n hn w;have g:(gI n==2*gH n)=true:=hM;have F:(gI n != 2*gH n)=false:=by unfold bne;rw[g];rfl
 have b6:=vY n;generalize gI n=A,gH n=B at *;have bi:IntKind.i64.wrap (2*B)=2*B:=Wg _ o_;have hf:=λw=>Bp n m hn hm w;rw[hV,hO] at hf;have HF:=h_ hf;go_enter func162,ntmps162;go_wp2_with fail
 refine aj (HG.out _) λw1 I=>?_;go_wp2_with fail
 refine aA (H1.out _) ?_;go_wp2_with fail
 exact aA (HC.out _) FC
def Mx(n m p q r s t u:Int)(h:jJ n m=true)(hM:nu n=true)(hV:iH n m=.agg #[p,q,r,s,t,u])(hO:il n m=true)(h1:bQ p q=true)(h2:bQ r s=true)(h3:bQ t u=true)(w)(ht:TabI w):
 Kp 162 #[n,m] w (ki (sR p q r s t u) true w):=by
 have aF:=h_ ht;have kG:=λa b w1 h ht=>qw a b h w1 ht;have zA:=ju p q h1;have zB:=ju r s h2;have zC:=ju t u h3;have hT:sR p q r s t u=aH p q++⟨#[32]⟩++aH r s++⟨#[32]⟩++aH t u:=rfl;rw[hT];have f1:(aH p q++⟨#[32]⟩:ak).size=(aH p q).size+1:=by rw[Vu];rfl
 have f2:(aH p q++⟨#[32]⟩++aH r s:ak).size=(aH p q).size+1+(aH r s).size:=by rw[Vu,f1]
 have f3:(aH p q++⟨#[32]⟩++aH r s++⟨#[32]⟩:ak).size=(aH p q).size+1+(aH r s).size+1:=by rw[Vu,f2];rfl
 have e1:(⟨#[32]⟩:ak).size=1:=rfl;have ab:=λw=>Vr (P:=prog) w (aH p q) ⟨#[32]⟩ o_;have az:=λw=>Vr (P:=prog) w (aH p q++⟨#[32]⟩) (aH r s) o_;have V:=λw=>Vr (P:=prog) w (aH p q++⟨#[32]⟩++aH r s) ⟨#[32]⟩ o_;have ad:=λw=>Vr (P:=prog) w (aH p q++⟨#[32]⟩++aH r s++⟨#[32]⟩) (aH t u) o_;have G:=h_ kG;have⟨hn,hm⟩:=om h;have HG:Hid (∀w,_):=λw=>ua n w;have H1:Hid (∀w,_):=λw=>dh m 2 100 w;have J:(jz n&&aw m 2 100)=true:=h;rw[VB] at J;rw[J.1] at HG;rw[J.2] at H1;have HC:Hid (∀w,_):=λw=>xe n hn w;have g:(gI n==2*gH n)=true:=hM;have F:(gI n != 2*gH n)=false:=by unfold bne;rw[g];rfl
 have b6:=vY n;generalize gI n=A,gH n=B at *;have bi:IntKind.i64.wrap (2*B)=2*B:=Wg _ o_;have hf:=λw=>Bp n m hn hm w;rw[hV,hO] at hf;have HF:=h_ hf;go_enter func162,ntmps162;go_wp2_with fail
 refine aj (HG.out _) λw1 I=>?_;go_wp2_with fail
 refine aA (H1.out _) ?_;go_wp2_with fail
 refine aA (HC.out _) ?_;go_wp2_with fail
 refine aj (HF.out _) λw2 U=>?_;have aa:=ag U I.size I;have kT:=ah.new w2 #[p,q,r,s,t,u] 175;have aM:=aa.alloc aa.size (.cells #[p,q,r,s,t,u] 175);go_wp2;generalize w2.alloc _=W,w2.heap.size=r6 at *;have⟨aL,ac,ax,Z,H,ae,K⟩:=kT.p6;have HW:=h_ (aF.out.below aM)
 (refine bR k_ k_ ?_;(repeat (go_big_quiet_step ((go_at_call 150;exact Calls.quiet_cls ao _ (G.out _ _ _ se (HW.out.below (aU.over _).below))))));refine wpQuiet_nil ?_;intro w9 aZ)
 go_wp2;go_ret2;exact⟨rfl,ag aZ aM.size aM⟩
def rH(n m:Int):∃(S:ak) (b:Bool),(∀w:World,TabI w->Kp 132 #[n,m] w (ki S b w))/\(∀w:World,TabI w->Kp 162 #[n,m] w (ki S b w))/\S.size<=400:=by
 cases h:jJ n m
 .exact⟨_,_,λw _=>Mz n m h w,λw _=>My n m h w,d_⟩
 .cases hM:nu n
  .exact⟨_,_,λw _=>Mw n m h hM w,λw _=>Mv n m h hM w,d_⟩
  .cases hO:il n m
   .have⟨p,q,r,s,t,u,hV⟩:=Rj n m;exact⟨_,_,λw _=>Ms n m p q r s t u h hM hV hO w,λw _=>Mt n m p q r s t u h hM hV hO w,d_⟩
   .have⟨hn,hm⟩:=om h;have⟨p,q,r,s,t,u,hV,h1,h2,h3⟩:=UZ hn hm hO;exact⟨_,_,λw _=>Mu n m p q r s t u h hM hV hO h1 h2 h3 w,λw ht=>Mx n m p q r s t u h hM hV hO h1 h2 h3 w ht,by
     have z1:=ju p q h1;have z2:=ju r s h2;have z3:=ju t u h3;have e1:(⟨#[32]⟩:ak).size=1:=rfl;unfold sR;simp;omega⟩
section
variable {B k n:Nat}{v:Value}{xs:List Int}{w0 w:World}{bl:List (Nat×Array Value×TypeId)}
def oM(m:Nat)(cs:List Value):Option (bW):=cs.mapM λx=>match x with
 |.string s=>if s.size<=m then some s else none
 |_=>none
theorem Fd{m:Nat}:∀{cs:List Value} {L:bW},oM m cs=some L->cs=L.map Value.string/\∀s∈L,s.size<=m
 |[],L,h=>by
  simp [oM] at h;subst h;exact⟨rfl,λs hs=>by simp at hs⟩
 |x::cs,L,h=>by
  unfold oM at h;rw[List.mapM_cons] at h;cases x<;>try (simp at h;done)
  rename_i s;simp only at h;split at h
  .next hs=>
   cases h2:oM m cs with
   |none=>unfold oM at h2;rw[h2] at h;simp at h
   |some M=>
    have g:=Fd h2;unfold oM at h2;rw[h2] at h;simp at h;subst h;exact⟨by rw[g.1];rfl,λs hs=>by
     rcases VL.1 hs with rfl|hs
     .assumption
     .exact g.2 s hs⟩
  .simp at h
def GY(d:Dr B k v xs n w0 bl w)(hn:n<=900000)(cs:Array Value)(T:TypeId){L:bW}(m:Nat)(hL:oM m cs.toList=some L)(c:Nat)(hc:c=L.length)(h1:1<=c/\c<=200)(hT:T=9):
 Kp 58 #[.pointer (some ⟨k,0,none⟩),.slice (some ⟨w.heap.size,0,none⟩) c c] (w.alloc (.cells cs T)) (Ac B k v xs (n+2) w0 bl m):=by
 subst hT hc;obtain⟨h2,h3⟩:=Fd hL;have h4:cs=(L.map Value.string).toArray:=by rw[<-h2]
 have hk:=d.cur.2.1;subst h4;exact U7 (d.skip _) hn L h1 m h3 w.heap.size o_ (ah.new w _ _)
def Fc(d:Dr B k v xs n w0 bl w)(hn:n<=800000):
 Kp 46 #[.pointer (some ⟨k,0,none⟩)] w (Ac B k v xs (n+10) w0 bl 100):=by
 go_enter func46,ntmps46;go_wp2_with fail
 refine (pE d o_ 9 o_).mono ?_;rintro e w1 ⟨x,rfl,⟨x0,x1⟩,d1⟩;go_wp2_with fail
 refine (yS (x - 2) (by simp at x1;omega) w1).mono ?_;rintro e w2 ⟨rfl,U⟩;have d2:=d1.below U;have bb:=dX (x - 2) (by simp at x1;omega);generalize aC (x - 2)=K at bb ⊢;clear d1 U x0 x1;go_wp2_with fail
 refine (GY d2 o_ _ _ (L:=[⟨#[53]⟩,⟨#[55]⟩,⟨#[51,55]⟩,⟨#[49,49]⟩,⟨#[52]⟩,⟨#[50]⟩,⟨#[57,55]⟩,⟨#[57,57,55]⟩]) 21 r_ _ rfl d_ rfl).mono ?_;rintro e w3 ⟨S2,rfl,ad,d3⟩;go_wp2_with fail
 refine (pE d3 o_ 22 o_).mono ?_;rintro e w4 ⟨y,rfl,⟨y0,y1⟩,d4⟩;simp only[Int.reduceLE,Zt,Int.reduceSub] at y1;have hy:y=0\/y=1\/y=2\/y=3\/y=4\/y=5\/y=6\/y=7\/y=8\/y=9\/y=10\/y=11\/y=12\/y=13\/y=14\/y=15\/y=16\/y=17\/y=18\/y=19\/y=20\/y=21:=o_;clear y0 y1 d d2 d3;rcases hy with rfl|rfl|rfl|rfl|rfl|rfl|rfl|rfl|rfl|rfl|rfl|rfl|rfl|rfl|rfl|rfl|rfl|rfl|rfl|rfl|rfl|rfl
 all_goals go_wp2_with ((go_at_call 58;refine (GY (m:=21) (by assumption) o_ _ _ r_ _ r_ d_ rfl).mono ?_;rintro e w9 ⟨S9,rfl,V,d9⟩))
 all_goals try go_ret
 all_goals (refine⟨_,rfl,?_,(show Dr B k v xs _ w0 bl _ by assumption).le o_⟩;clear d4;(try simp only[Vu]);(try simp only[ByteArray.size]);(try simp)<;>omega)
end
def KV:Value->Nat
 |.string s=>s.size
 |_=>0
def Uy(w:World)(e:Ending)(w':World):Prop:=∃s:ak,e=.returned s/\s.size<=10000/\af w w w'
def C8(v)(xs)(w)(h:RdB w w v xs):Kp 20 #[v] w (Uy w):=by
 have d1:=Dr.make0 h;obtain⟨a0,F,rfl,_⟩:=h;have z1:(⟨#[10]⟩:ak).size=1:=rfl;have z2:(⟨#[109,105,110,117,115,10]⟩:ak).size=6:=rfl;have z3:(⟨#[120]⟩:ak).size=1:=rfl;go_enter func20,ntmps20;go_wp2_with fail
 generalize w.alloc _=W0 at d1 ⊢;refine (Hz d1 o_ 2 o_).mono ?_;rintro e w2 ⟨q,rfl,d2⟩;clear d1;obtain⟨s0,c5,bi⟩:∃s0:ak,s0=(if q then ⟨#[99,117,114,118,101,32,45,50,53,32,48,10,112,111,105,110,116,32,40,45,52,44,54,41,10,114,101,99,111,114,100,32,48,32,50,10]⟩ else ⟨#[]⟩)/\s0.size<=100:=⟨_,rfl,by cases q<;>decide⟩
 cases q
 all_goals
  simp at c5;go_wp2_with fail
  rw[<-c5];clear c5;refine (pE d2 o_ 16 o_).mono ?_;rintro e w3 ⟨k0,rfl,⟨k1,k2⟩,d3⟩;simp at k2;go_wp2_with fail
  go_loopw [4,5] (λsv kv wr=>∃(s:ak) (k:Int) (m:Nat),sv=.string s/\kv=.int .i64 k/\(-1<=k/\k<=15)/\(0<=k\/1<=s.size)/\s.size+101*(k+1).toNat<=2000/\m+10*(k+1).toNat<=1000/\Dr w w.heap.size (.slice a0 xs.length F) xs m w [] wr) (λ_ kv _=>(intOf kv+1).toNat)
  case atStart=>exact⟨s0,k0,_,rfl,rfl,o_,.inl k1,o_,o_,d3⟩
  case round=>
   obtain⟨s,k,m,rfl,rfl,hk,hks,a6,hm,d⟩:=hrel
   rename World=>wr
   by_cases G:0<=k
   .go_wp2_with fail
    refine (Fc d o_).mono ?_;rintro e w5 ⟨t,rfl,ht,d5⟩;go_wp2;go_roundw
    case rel=>exact⟨s++(t++⟨#[10]⟩),k - 1,m+10,rfl,by go_num,o_,.inr u_,u_,o_,d5⟩
    case measure=>exact aJ
   .have ab:k=-1:=o_;subst ab;have bb:1<=s.size:=o_;go_wp2_with fail
    refine (pE d o_ 30 o_).mono ?_;rintro e w6 ⟨y,rfl,⟨y0,y1⟩,d6⟩;by_cases c0:y=0
    .subst c0;go_wp2;refine Vk (v:=.string (s.extract 0 (s.size - 1))) (by simp [results,results20,go_sem]) rfl ?_;exact⟨_,rfl,by rw[ByteArray.size_extract];omega,d6.out⟩
    by_cases c1:y=1
    .subst c1;go_wp2_with fail
     refine (pE d6 o_ 2 o_).mono ?_;rintro e w7 ⟨y2,rfl,⟨y3,y4⟩,d7⟩;simp at y4;go_wp2_with fail
     go_loopw [4,6] (λsv kv wr=>∃(s:ak) (k:Int),sv=.string s/\kv=.int .i64 k/\(0<=k/\k<=41)/\s.size+6*k.toNat<=300/\wr=w7) (λ_ kv _=>(intOf kv).toNat)
     case atStart=>exact⟨⟨#[]⟩,40+y2,rfl,by go_num,o_,by show 0+_<=_;omega,rfl⟩
     case round=>
      obtain⟨s2,k2,rfl,rfl,aF,ad,rfl⟩:=hrel
      rename World=>wq
      by_cases a2:0<k2
      .go_wp2;go_roundw
       case rel=>exact⟨s2++⟨#[109,105,110,117,115,10]⟩,k2 - 1,rfl,by go_num,o_,u_,trivial⟩
       case measure=>exact aJ
      .go_wp2;exact Vk (v:=.string s2) (by simp [results,results20,go_sem]) rfl ⟨_,rfl,o_,d7.out⟩
    by_cases c2:y=2
    .subst c2;go_wp2;refine Vk (v:=.string ⟨#[]⟩) (by simp [results,results20,go_sem]) rfl ?_;exact⟨_,rfl,by show 0<=_;omega,d6.out⟩
    by_cases c3:y=3
    .subst c3;go_wp2_with fail
     refine (pE d6 o_ 2 o_).mono ?_;rintro e w7 ⟨y2,rfl,⟨y3,y4⟩,d7⟩;simp at y4;go_wp2_with fail
     go_loopw [4] (λsv wr=>∃(s:ak),sv=.string s/\s.size<=2000/\wr=w7) (λsv _=>2000 - KV sv)
     case atStart=>exact⟨_,rfl,d_,rfl⟩
     case round=>
      obtain⟨s2,rfl,ad,rfl⟩:=hrel
      rename World=>wq
      by_cases a2:(s2.size:Int)<1999+y2
      .go_wp2;go_roundw
       case rel=>exact⟨s2++⟨#[120]⟩,rfl,u_,trivial⟩
       case measure=>simp only[KV,Vu];omega
      .go_wp2;refine Vk (v:=.string (s2++⟨#[10]⟩)) (by simp [results,results20,go_sem]) rfl ?_;exact⟨_,rfl,u_,d7.out⟩
    .go_wp2;exact Vk (v:=.string s) (by simp [results,results20,go_sem]) rfl ⟨_,rfl,o_,d6.out⟩
def TQ(w:World)(e:Ending)(w':World):Prop:=∃a b:ak,e=.returned (.tuple #[a,b])/\a.size<=10000/\b.size<=10000/\af w w w'
def Pf(v)(xs)(w)(h:RdB w w v xs):Kp 23 #[v] w (TQ w):=by
 have d1:=Dr.make0 h;have J:af w w (w.alloc (.cells #[v,(),.int .u64 0] 74)):=(Vn _ _).alloc (Vj _) _;have HD:=C8 v xs _ (h.later J);obtain⟨a0,F,rfl,_⟩:=h;have HD':=h_ HD;go_enter func23,ntmps23;go_wp2_with fail
 generalize w.alloc _=W0 at d1 HD' ⊢;refine HD'.out.mono ?_;rintro e w2 ⟨a,rfl,ha,U⟩;have d2:=d1.below U;go_wp2_with fail
 refine (Fc d2 o_).mono ?_;rintro e w3 ⟨b,rfl,hb,d3⟩;go_wp2_with fail
 refine (Hz d3 o_ 10 o_).mono ?_;rintro e w4 ⟨q,rfl,d4⟩;cases q
 .go_wp2;refine Vk (v:=.tuple #[a,.string (b++⟨#[10]⟩)]) (by simp [results,results23,go_sem]) rfl ?_;exact⟨a,_,rfl,ha,by rw[Vu];show _+1<=_;omega,d4.out⟩
 .go_wp2;refine Vk (v:=.tuple #[a,.string ⟨#[115,104,111,119]⟩]) (by simp [results,results23,go_sem]) rfl ?_;exact⟨a,_,rfl,ha,by show 4<=_;omega,d4.out⟩
end Go.Proofs.YtaamhakdhaolmaaGreatDoor
