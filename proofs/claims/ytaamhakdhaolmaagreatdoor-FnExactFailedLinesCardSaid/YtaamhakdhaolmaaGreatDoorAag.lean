/- Part 6. -/
import Derived.Deep.Cut
import Derived.Test.YtaamhakdhaolmaaGreatDoorAaf
namespace Go.Proofs.YtaamhakdhaolmaaGreatDoor
open Go.RowKit
set_option maxHeartbeats 8000000
set_option maxRecDepth 100000
variable {P:Prop}
set_option linter.all false
def IR(h:P:=by simp [results,Tryz.results188,go_sem,R0,R1,R2,R3,R4,R5]):=h
def G8(h:P:=by simp [results,Tryz.results219,go_sem,R0,R1,R2,R3,R4,R5]):=h
def Kc(h:P:=by
 have a6:=h_ (HN.out.next hb);rw[hb] at hc;have HC:=h_ hc;clear hc hf hb;go_wp2_with fail
 refine ai (HC.out _) λw2 U=>?_;have H:=(kT.next U).alloc (.cells #[p1,p2,p3,p4,Z,p6] 175);have a8:=U.size;have aa:Below w.heap.size w (w2.alloc (.cells #[p1,p2,p3,p4,Z,p6] 175)):=by exact z_
 go_wp2;go_roundw
 case rel=>exact⟨v+1,rfl,by omega,a6,H,aa⟩
 case measure=>exact aO):=h
def F5(h:P:=by
 have a6:=h_ (HN.out.row o_);go_wp2;go_roundw
 case rel=>exact⟨u+1,rfl,by omega,a6,kT,hB⟩
 case measure=>exact aO):=h
def go(n u v:Int):Prop:=∀g v',1<=v'->v'<g->(g<u\/(g=u/\v'<v))->fc n g v'=false
def go.start(n u)(hu:u<=2):go n u 1:=λg v' h1 h2 h3=>by omega
def go.next{n u v}(h:go n u v)(hs:fc n u v=false):go n u (v+1):=λg v' h1 h2 h3=>by
 by_cases h4:g<u\/(g=u/\v'<v)
 .exact h g v' h1 h2 h4
 .obtain rfl:g=u:=by omega
  obtain rfl:v'=v:=by omega
  exact hs
def go.row{n u v}(h:go n u v)(hv:u<=v):go n (u+1) 1:=λg v' h1 h2 h3=>by
 by_cases h4:g<u
 .exact h g v' h1 h2 (.inl h4)
 .exact h g v' h1 h2 o_
def iT(n m:Int)(p:Int×Int):Prop:=(1<=p.2/\p.2<p.1/\p.1<=m)/\fc n p.1 p.2=true/\go n p.1 p.2
def iT.uniq{n m}{p q:Int×Int}(h:iT n m p)(k:iT n m q):p=q:=by
 have⟨⟨h1,h2,_⟩,h3,h4⟩:=h;have⟨⟨k1,k2,_⟩,F,H⟩:=k;by_cases a:q.1<p.1\/(q.1=p.1/\q.2<p.2)
 .have:=h4 q.1 q.2 k1 k2 a;rw[this] at F;cases F
 .by_cases b:p.1<q.1\/(p.1=q.1/\p.2<q.2)
  .have:=H p.1 p.2 h1 h2 b;rw[this] at h3;cases h3
  .have⟨p1,p2⟩:=p;have⟨q1,q2⟩:=q;simp only at a b;have e1:p1=q1:=o_;have e2:p2=q2:=o_;rw[e1,e2]
open Classical in
noncomputable def gS(n m:Int):Bool:=decide (∃p,iT n m p)
open Classical in
noncomputable def ip(n m:Int):Value:=if h:∃p,iT n m p then lL n (Classical.choose h).1 (Classical.choose h).2 else Az
def Ev{n m u v}(h:iT n m (u,v)):gS n m=true/\ip n m=lL n u v:=by
 have he:∃p,iT n m p:=⟨_,h⟩
 refine⟨by unfold gS;simpa using he,?_⟩;unfold ip;rw[dif_pos he,iT.uniq (Classical.choose_spec he) h]
def TB{n m}(h:go n (m+1) 1):gS n m=false/\ip n m=Az:=by
 have he:¬∃p,iT n m p:=λ⟨p,⟨h1,h2,h3⟩,h4,_⟩=>by
  have:=h p.1 p.2 h1 h2 o_;rw[this] at h4;cases h4
 refine⟨by unfold gS;simpa using he,?_⟩;unfold ip;rw[XZ he]
def DZ{w w'}{n m u v p1 p2 p3 p4 Z p6:Int}(h:iT n m (u,v))(hV:lI n u v=.agg #[p1,p2,p3,p4,Z,p6])(hb:Below w.heap.size w w'):mX w (ip n m) (gS n m) (.returned (.tuple #[.agg #[p1,p2,p3,p4,Z,p6],true])) w':=by
 have⟨h1,h2⟩:=Ev h;have:lL n u v=.agg #[p1,p2,p3,p4,Z,p6]:=by
  have h3:fc n u v=true:=h.2.1;unfold lI at hV;rw[h3] at hV;exact hV
 rw[h1,h2,this];exact⟨rfl,hb⟩
def DP{w w'}{n m}(h:go n (m+1) 1)(hb:Below w.heap.size w w'):mX w (ip n m) (gS n m) (.returned (.tuple #[.agg #[(),(),(),(),(),()],false])) w':=by
 have⟨h1,h2⟩:=TB h;rw[h1,h2];exact⟨rfl,hb⟩
def Qx(n m):∃p q r s t g:Int,ip n m=.agg #[p,q,r,s,t,g]:=by
 unfold ip;split
 .exact tg _ _ _ _ _ _
 .exact⟨0,0,0,0,0,0,rfl⟩
def Ch(n m:Int)(hn:1<=n/\n<=31)(hm:2<=m/\m<=100)(w):
 Kp 188 #[n,m] w (mX w (ip n m) (gS n m)):=by
 have⟨kT,J⟩:=aw w #[(),(),(),(),(),()] 175;go_enter Tryz.func188,Tryz.ntmps188;go_wp2;generalize w.alloc _=W at *;go_loopw [6] (λx wr=>∃u:Int,x=.int .i64 u/\(2<=u/\u<=m+1)/\Hid (go n u 1)/\ag w #[(),(),(),(),(),()] 175 wr/\Below w w wr) (λx _=>(m+1 - intOf x).toNat)
 case atStart=>exact⟨2,rfl,by omega,go.start n 2 o_,kT,J⟩
 case round=>
  obtain⟨u,rfl,hu,HN,kT,hB⟩:=hrel;by_cases ae:u<=m
  .obtain⟨wo,rfl⟩:∃wo:World,wo=wr:=⟨_,rfl⟩
   go_wp2;go_loopw [7] (λx wr=>∃v:Int,x=.int .i64 v/\(1<=v/\v<=u)/\Hid (go n u v)/\ag w #[(),(),(),(),(),()] 175 wr/\Below w w wr) (λx _=>(u - intOf x).toNat)
   case atStart=>exact⟨1,rfl,by omega,HN,kT,hB⟩
   case round=>
    obtain⟨v,rfl,hv,HN,kT,hB⟩:=hrel;have hs:=hB.size;by_cases aF:v<u
    .have⟨p1,p2,p3,p4,Z,p6,hf⟩:=C9 n u v;have HF:=h_ hf;have hc:=λw=>Ob n u v hn o_ o_ w;rw[hf] at hc;cases hb:fc n u v
     .exact Kc
     .have hF:iT n m (u,v):=⟨⟨hv.1,aF,ae⟩,hb,HN.out⟩
      have g:=h_ hF;rw[hb] at hc;go_wp2_with fail
      refine ai ((h_ hc).out _) λw2 U=>?_;have H:=kT.next U
      have kN:=ag.new w2 #[p1,p2,p3,p4,Z,p6] 175;have aa:=af U hs hB;have ad:=aa.size;have G:=H.alloc (.cells #[p1,p2,p3,p4,Z,p6] 175);have a4:Below w w (w2.alloc (.cells #[p1,p2,p3,p4,Z,p6] 175)):=by exact z_
      go_upto_region 9 with fail
      generalize w2.alloc _=W3 at *;have⟨a5,a2,a9,bp,bb,ba⟩:=G.q6;have az:=G.frozen 0;have V:=G.frozen 1;have ac:=G.frozen 2;have I:=G.frozen 3;have aG:=G.frozen 4;have K:=G.frozen 5;have a1:=G.lt;have⟨bs,bx,bX,bv,bq,bz⟩:=kN.q6;go_wp2;have R:=((((((G.set 0 p1).set 1 p2).set 2 p3).set 3 p4).set 4 Z).set 5 p6)
      have hR:Below w w ((((((W3.setCell w p1).setCell ⟨w,1,none⟩ p2).setCell ⟨w,2,none⟩ p3).setCell ⟨w,3,none⟩ p4).setCell ⟨w,4,none⟩ Z).setCell ⟨w,5,none⟩ p6):=by exact z_
      simp at R;generalize ((((((W3.setCell w p1).setCell ⟨w,1,none⟩ p2).setCell ⟨w,2,none⟩ p3).setCell ⟨w,3,none⟩ p4).setCell ⟨w,4,none⟩ Z).setCell ⟨w,5,none⟩ p6)=W9 at R hR ⊢;have⟨R0,R1,R2,R3,R4,R5⟩:=R.q6;exact Uh (v:=.tuple #[.agg #[p1,p2,p3,p4,Z,p6],true]) IR rfl (DZ g.out HF.out hR)
    .exact F5
  .obtain rfl:u=m+1:=by omega
   have⟨aL,aM,H,G,F,ax⟩:=kT.q6;have bo:=kT.frozen 0;have a7:=kT.frozen 1;have aX:=kT.frozen 2;have aZ:=kT.frozen 3;have a3:=kT.frozen 4;have bi:=kT.frozen 5;have ab:=kT.lt;go_wp2;have R:=((((((kT.set 0 ()).set 1 ()).set 2 ()).set 3 ()).set 4 ()).set 5 ())
   have hR:Below w w ((((((wr.setCell w ()).setCell ⟨w,1,none⟩ ()).setCell ⟨w,2,none⟩ ()).setCell ⟨w,3,none⟩ ()).setCell ⟨w,4,none⟩ ()).setCell ⟨w,5,none⟩ ()):=by exact z_
   simp at R;generalize ((((((wr.setCell w ()).setCell ⟨w,1,none⟩ ()).setCell ⟨w,2,none⟩ ()).setCell ⟨w,3,none⟩ ()).setCell ⟨w,4,none⟩ ()).setCell ⟨w,5,none⟩ ())=W9 at R hR ⊢;have⟨R0,R1,R2,R3,R4,R5⟩:=R.q6;exact Uh (v:=.tuple #[.agg #[(),(),(),(),(),()],false]) IR rfl (DP HN.out hR)
def AR(n m:Int)(hn:1<=n/\n<=31)(hm:2<=m/\m<=100)(w):
 Kp 219 #[n,m] w (mX w (ip n m) (gS n m)):=by
 have⟨kT,J⟩:=aw w #[(),(),(),(),(),()] 175;go_enter Tryz.func219,Tryz.ntmps219;go_wp2;generalize w.alloc _=W at *;go_loopw [6] (λx wr=>∃u:Int,x=.int .i64 u/\(1<=u/\u<=m+1)/\Hid (go n u 1)/\ag w #[(),(),(),(),(),()] 175 wr/\Below w w wr) (λx _=>(m+1 - intOf x).toNat)
 case atStart=>exact⟨1,rfl,by omega,go.start n 1 o_,kT,J⟩
 case round=>
  obtain⟨u,rfl,hu,HN,kT,hB⟩:=hrel;by_cases ae:u<=m
  .obtain⟨wo,rfl⟩:∃wo:World,wo=wr:=⟨_,rfl⟩
   go_wp2;go_loopw [7] (λx wr=>∃v:Int,x=.int .i64 v/\(1<=v/\v<=u)/\Hid (go n u v)/\ag w #[(),(),(),(),(),()] 175 wr/\Below w w wr) (λx _=>(u - intOf x).toNat)
   case atStart=>exact⟨1,rfl,by omega,HN,kT,hB⟩
   case round=>
    obtain⟨v,rfl,hv,HN,kT,hB⟩:=hrel;have hs:=hB.size;by_cases aF:v<u
    .have⟨p1,p2,p3,p4,Z,p6,hf⟩:=C9 n u v;have HF:=h_ hf;have hc:=λw=>LO n u v hn o_ o_ w;rw[hf] at hc;cases hb:fc n u v
     .exact Kc
     .have hF:iT n m (u,v):=⟨⟨hv.1,aF,ae⟩,hb,HN.out⟩
      have g:=h_ hF;rw[hb] at hc;go_wp2_with fail
      refine ai ((h_ hc).out _) λw2 U=>?_;have H:=kT.next U
      have kN:=ag.new w2 #[p1,p2,p3,p4,Z,p6] 175;have aa:=af U hs hB;have ad:=aa.size;have G:=H.alloc (.cells #[p1,p2,p3,p4,Z,p6] 175);have a4:Below w w (w2.alloc (.cells #[p1,p2,p3,p4,Z,p6] 175)):=by exact z_
      go_upto_region 9 with fail
      generalize w2.alloc _=W3 at *;have⟨a5,a2,a9,bp,bb,ba⟩:=G.q6;have az:=G.frozen 0;have V:=G.frozen 1;have ac:=G.frozen 2;have I:=G.frozen 3;have aG:=G.frozen 4;have K:=G.frozen 5;have a1:=G.lt;have⟨bs,bx,bX,bv,bq,bz⟩:=kN.q6;go_wp2;have R:=((((((G.set 0 p1).set 1 p2).set 2 p3).set 3 p4).set 4 Z).set 5 p6)
      have hR:Below w w ((((((W3.setCell w p1).setCell ⟨w,1,none⟩ p2).setCell ⟨w,2,none⟩ p3).setCell ⟨w,3,none⟩ p4).setCell ⟨w,4,none⟩ Z).setCell ⟨w,5,none⟩ p6):=by exact z_
      simp at R;generalize ((((((W3.setCell w p1).setCell ⟨w,1,none⟩ p2).setCell ⟨w,2,none⟩ p3).setCell ⟨w,3,none⟩ p4).setCell ⟨w,4,none⟩ Z).setCell ⟨w,5,none⟩ p6)=W9 at R hR ⊢;have⟨R0,R1,R2,R3,R4,R5⟩:=R.q6;exact Uh (v:=.tuple #[.agg #[p1,p2,p3,p4,Z,p6],true]) G8 rfl (DZ g.out HF.out hR)
    .exact F5
  .obtain rfl:u=m+1:=by omega
   have⟨aL,aM,H,G,F,ax⟩:=kT.q6;have bo:=kT.frozen 0;have a7:=kT.frozen 1;have aX:=kT.frozen 2;have aZ:=kT.frozen 3;have a3:=kT.frozen 4;have bi:=kT.frozen 5;have ab:=kT.lt;go_wp2;have R:=((((((kT.set 0 ()).set 1 ()).set 2 ()).set 3 ()).set 4 ()).set 5 ())
   have hR:Below w w ((((((wr.setCell w ()).setCell ⟨w,1,none⟩ ()).setCell ⟨w,2,none⟩ ()).setCell ⟨w,3,none⟩ ()).setCell ⟨w,4,none⟩ ()).setCell ⟨w,5,none⟩ ()):=by exact z_
   simp at R;generalize ((((((wr.setCell w ()).setCell ⟨w,1,none⟩ ()).setCell ⟨w,2,none⟩ ()).setCell ⟨w,3,none⟩ ()).setCell ⟨w,4,none⟩ ()).setCell ⟨w,5,none⟩ ())=W9 at R hR ⊢;have⟨R0,R1,R2,R3,R4,R5⟩:=R.q6;exact Uh (v:=.tuple #[.agg #[(),(),(),(),(),()],false]) G8 rfl (DP HN.out hR)
noncomputable def jw(n m:Int):Bool:=jl n&&av m 2 100
def nS{n m}(h:jw n m=true):(1<=n/\n<=31)/\(2<=m/\m<=100):=by
 unfold jw at h;simp at h;exact⟨Rh h.1,bH h.2⟩
def tq(n m:Int)(w):
 Rv 186 #[n,m] w (.bool (jw n m)):=by
 unfold jw;cases h1:jl n
 .go_enter Tryz.func186,Tryz.ntmps186;go_wp2_with ((go_at_call 241;refine ai (C2 _ _) λw1 I=>?_))
  exact ij
 .go_enter Tryz.func186,Tryz.ntmps186;go_wp2_with fail
  (go_at_call 241;refine ai (C2 _ _) λw1 I=>?_)
  go_wp2_with ((go_at_call 104;refine ay (cw _ _ _ _) ?_))
  exact ij
def qS{n}(h:n<=5):(1:Int)<=4 ^ n/\(4:Int) ^ n<=1024:=by
 have:n=0\/n=1\/n=2\/n=3\/n=4\/n=5:=by omega
 rcases this with h|h|h|h|h|h<;>subst h<;>decide
def OV(n:Nat)(hn:n<=5)(w):
 Rw 269 #[(4:Int),n] w (.int .i64 ((4:Int) ^ n)):=by
 go_enter Tryz.func269,Tryz.ntmps269;go_upto_region 3 with fail
 go_loop [5,7] (λov iv=>∃(i:Nat) (o:Int),i<=n/\ov=.int .i64 o/\iv=.int .i64 i/\(1<=o/\o<=1024)/\Hid (o=4 ^ i)) (λ_ iv=>n - (intOf iv).toNat)
 case atStart=>exact⟨0,1,by omega,rfl,rfl,by omega,h_ rfl⟩
 case round=>
  obtain⟨i,o,hi,rfl,rfl,Z,hO⟩:=hrel;by_cases aG:i<n
  .have bp:(i:Int)<(n:Int):=o_;have bv:Hid (o*4=4 ^ (i+1)):=h_ (by rw[UN,hO.out]);have hb:=qS (n:=i+1) o_;rw[<-bv.out] at hb;go_wp2;go_round
   case rel=>exact⟨i+1,o*4,by omega,by go_num,by go_num,by omega,bv⟩
   case measure=>exact aO
  .have bp:¬(i:Int)<(n:Int):=o_;have a2:i=n:=o_;have bv:=a2▸hO;go_wp2;exact Uh (v:=.int .i64 o) (by simp [results,Tryz.results269,go_sem]) rfl ⟨by rw[bv.out],rfl⟩
def PU(n:Nat)(hn:n<=5)(w):
 Rw 240 #[n] w (.int .i64 (3*(4:Int) ^ n)):=by
 go_enter Tryz.func240,Tryz.ntmps240;go_upto_region 2 with fail
 go_loop [0,3] (λiv ov=>∃(i:Nat) (o:Int),i<=n/\ov=.int .i64 o/\iv=.int .i64 i/\(3<=o/\o<=3072)/\Hid (o=3*4 ^ (n - i))) (λiv _=>(intOf iv).toNat)
 case atStart=>exact⟨n,3,Ug _,rfl,rfl,by omega,h_ s_⟩
 case round=>
  obtain⟨i,o,hi,rfl,rfl,Z,hO⟩:=hrel;by_cases aG:0<i
  .have bv:Hid (o*4=3*4 ^ (n - (i - 1))):=h_ (by
    rw[show n - (i - 1)=(n - i)+1 by omega,UN,<-Va,<-hO.out])
   have hb:=qS (n:=n - (i - 1)) o_;have ab:=bv.out;have g:3<=o*4/\o*4<=3072:=o_;go_wp2;go_round
   case rel=>exact⟨i - 1,o*4,by omega,by go_num,by first|go_num|(congr 1;omega),by omega,bv⟩
   case measure=>exact aO
  .have bp:¬(0:Int)<(i:Int):=o_;have a2:i=0:=o_;have bv:=h_ (by have:=hO.out;rw[a2,Nat.sub_zero] at this;exact this);go_wp2;exact Uh (v:=.int .i64 o) (by simp [results,Tryz.results240,go_sem]) rfl ⟨by rw[bv.out],rfl⟩
def uW(h:P:=by simp [results,Tryz.results193,go_sem]):=h
def iN(X Y E:Int):Prop:=(-10000<=X/\X<=10000)/\(-3000000<=Y/\Y<=3000000)/\(0<=E/\E<=20)
def sY(X Y E:Int)(hY:-3000000<=Y/\Y<=3000000)(w:World):
 Rv 137 #[.agg #[X,Y,E]] w (.agg #[X,(-Y:Int),E]):=by
 go_enter Tryz.func137,Tryz.ntmps137;go_wp2;refine Uh (v:=.agg #[X,(-Y:Int),E]) (by simp [results,Tryz.results137,go_sem]) rfl ⟨rfl,?_⟩;exact z_
def slN(A X1 Y1 E1 X2 Y2 E2:Int):Int:=if X1=X2/\Y1=Y2/\E1=E2 then 3*X1*X1+A*E1*E1*E1*E1 else Y2*E1*E1*E1 - Y1*E2*E2*E2
def slD(X1 Y1 E1 X2 Y2 E2:Int):Int:=if X1=X2/\Y1=Y2/\E1=E2 then 2*Y1*E1 else E1*E2*(X2*E1*E1 - X1*E2*E2)
def fv{x e:Int}(b:Int)(hx:-b<=x/\x<=b)(he:0<=e/\e<=20):(-(b*20)<=x*e/\x*e<=b*20)/\(-(b*400)<=x*e*e/\x*e*e<=b*400)/\(-(b*8000)<=x*e*e*e/\x*e*e*e<=b*8000)/\(-(b*160000)<=x*e*e*e*e/\x*e*e*e*e<=b*160000):=by
 have h1:=aJ (x:=x) (y:=e) b 20 hx o_;have h2:=aJ (x:=x*e) (y:=e) (b*20) 20 o_ o_;have h3:=aJ (x:=x*e*e) (y:=e) (b*400) 20 o_ o_;have h4:=aJ (x:=x*e*e*e) (y:=e) (b*8000) 20 o_ o_;omega
def Lq{A X1 Y1 E1 X2 Y2 E2:Int}(h:X1=X2/\Y1=Y2/\E1=E2):slN A X1 Y1 E1 X2 Y2 E2=3*X1*X1+A*E1*E1*E1*E1/\slD X1 Y1 E1 X2 Y2 E2=2*Y1*E1:=by unfold slN slD;rw[Um h,Um h];exact⟨rfl,rfl⟩
def Ln{A X1 Y1 E1 X2 Y2 E2:Int}(h:¬(X1=X2/\Y1=Y2/\E1=E2)):slN A X1 Y1 E1 X2 Y2 E2=Y2*E1*E1*E1 - Y1*E2*E2*E2/\slD X1 Y1 E1 X2 Y2 E2=E1*E2*(X2*E1*E1 - X1*E2*E2):=by unfold slN slD;rw[Uj h,Uj h];exact⟨rfl,rfl⟩
def MR(A B X Y E:Int)(hA:bj A)(G:iN X Y E)(w:World):
 Rv 193 #[.agg #[A,B],.agg #[X,Y,E],.agg #[X,Y,E]] w (.tuple #[(3*X*X+A*E*E*E*E:Int),(2*Y*E:Int)]):=by
 obtain⟨hX,hY,hE⟩:=G;obtain⟨a1,a2,a3,a4⟩:=fv 1000 (x:=A) (e:=E) o_ hE;have x1:=aJ (x:=3*X) (y:=X) 30000 10000 o_ o_;have y1:=aJ (x:=2*Y) (y:=E) 6000000 20 o_ o_;obtain⟨kA,kP,kQ,J⟩:=fh w #[A,B] 42 #[X,Y,E] 46 #[X,Y,E] 46;have a6:=J.size;go_enter Tryz.func193,Tryz.ntmps193;go_upto_region 1 with fail
 generalize ((w.alloc _).alloc _).alloc _=W at *;have l1:=kA.lt;have l2:=kP.lt;have F:=kQ.lt;generalize w.heap.size+1+1=rQ at *;generalize w.heap.size+1=rP at *;have c0:W.cell? ⟨w.heap.size,0,none⟩=some (.int .i64 A):=kA.cell 0;obtain⟨p0,p1,p2⟩:=kP.q3;obtain⟨q0,q1,q2⟩:=kQ.q3;go_wp2
 (refine bP k_ k_ ?_;(repeat (go_big_quiet_step (fail)));refine wpQuiet_nil ?_;intro w8 ca;obtain⟨fz,fy⟩:=bf ca;have ea:=ca.size;(try simp only[Uq] at ea))
 go_wp2;refine Uh (v:=.tuple #[(3*X*X+A*E*E*E*E:Int),(2*Y*E:Int)]) uW rfl ?_;exact⟨rfl,af ca a6 J⟩
def MD(A B X1 Y1 E1 X2 Y2 E2:Int)(G:iN X1 Y1 E1)(hq:iN X2 Y2 E2)(hne:¬(X1=X2/\Y1=Y2/\E1=E2))(w:World):
 Rv 193 #[.agg #[A,B],.agg #[X1,Y1,E1],.agg #[X2,Y2,E2]] w (.tuple #[(Y2*E1*E1*E1 - Y1*E2*E2*E2:Int),(E1*E2*(X2*E1*E1 - X1*E2*E2):Int)]):=by
 obtain⟨c4,cA,ba⟩:=G;obtain⟨dc,c3,bq⟩:=hq;obtain⟨a1,a2,a3,_⟩:=fv 3000000 (x:=Y2) (e:=E1) o_ ba;obtain⟨b1,b2,b3,_⟩:=fv 3000000 (x:=Y1) (e:=E2) o_ bq;obtain⟨c1,c2,_,_⟩:=fv 10000 (x:=X2) (e:=E1) o_ ba;obtain⟨d1,d2,_,_⟩:=fv 10000 (x:=X1) (e:=E2) o_ bq;have e1:=aJ (x:=E1) (y:=E2) 20 20 o_ o_;have e2:=aJ (x:=E1*E2) (y:=X2*E1*E1 - X1*E2*E2) 400 8000000 o_ o_;by_cases h1:X1=X2
 .subst h1;by_cases h2:Y1=Y2
  .subst h2;have h3:¬(E1=E2):=λh=>hne ⟨rfl,rfl,h⟩;clear hne;go_enter Tryz.func193,Tryz.ntmps193;go_wp2;refine Uh (v:=.tuple #[(Y1*E1*E1*E1 - Y1*E2*E2*E2:Int),(E1*E2*(X1*E1*E1 - X1*E2*E2):Int)]) uW rfl ⟨rfl,?_⟩;exact z_
  .clear hne;go_enter Tryz.func193,Tryz.ntmps193;go_wp2;refine Uh (v:=.tuple #[(Y2*E1*E1*E1 - Y1*E2*E2*E2:Int),(E1*E2*(X1*E1*E1 - X1*E2*E2):Int)]) uW rfl ⟨rfl,?_⟩;exact z_
 .clear hne;go_enter Tryz.func193,Tryz.ntmps193;go_wp2;refine Uh (v:=.tuple #[(Y2*E1*E1*E1 - Y1*E2*E2*E2:Int),(E1*E2*(X2*E1*E1 - X1*E2*E2):Int)]) uW rfl ⟨rfl,?_⟩;exact z_
def Kn(h:P:=by
 obtain⟨z1,z2,z3,z4⟩:=fv 1000 (x:=A) (e:=E1) o_ ba;have x1:=aJ (x:=3*X1) (y:=X1) 30000 10000 o_ o_;have y1:=aJ (x:=2*Y1) (y:=E1) 6000000 20 o_ o_;obtain⟨a1,a2,a3,_⟩:=fv 3000000 (x:=Y2) (e:=E1) o_ ba;obtain⟨b1,b2,b3,_⟩:=fv 3000000 (x:=Y1) (e:=E2) o_ bq;obtain⟨c1,c2,_,_⟩:=fv 10000 (x:=X2) (e:=E1) o_ ba;obtain⟨d1,d2,_,_⟩:=fv 10000 (x:=X1) (e:=E2) o_ bq;have e1:=aJ (x:=E1) (y:=E2) 20 20 o_ o_;have e2:=aJ (x:=E1*E2) (y:=X2*E1*E1 - X1*E2*E2) 400 8000000 o_ o_;unfold slN slD;split<;>omega):=h
def fM(A X1 Y1 E1 X2 Y2 E2:Int):Int:=(slN A X1 Y1 E1 X2 Y2 E2).tdiv (ar (slN A X1 Y1 E1 X2 Y2 E2) (slD X1 Y1 E1 X2 Y2 E2))
def eJ(A X1 Y1 E1 X2 Y2 E2:Int):Int:=(slD X1 Y1 E1 X2 Y2 E2).tdiv (ar (slN A X1 Y1 E1 X2 Y2 E2) (slD X1 Y1 E1 X2 Y2 E2))
def dK(n m X1 E1 X2 E2:Int):Int:=n*n*(E1*E1*E2*E2)+-(m*m*(X1*E2*E2+X2*E1*E1))
def fb(m E1 E2:Int):Int:=m*m*(E1*E1*E2*E2)
def eC(A B X Y E:Int):Prop:=(-10000<=X/\X<=10000)/\(1<=E/\E<=20)/\ar X E=1/\(-3000000<=Y/\Y<=3000000)/\Y*Y=cvV A B X E
def ue{x e}{K}(h:ar x e=1)(h2:e*e∣x*K):e*e∣K:=by
 have h1:=by
  unfold ar at h;have:Int.gcd x e=1:=by omega
  exact (X7.1 this)
 have h3:=Nat.Coprime.mul_left h1 h1;rw[<-WD,U8,U8] at h2;rw[<-WD,U8];exact h3.dvd_of_dvd_mul_left h2
def S_{X1 E1 X2 E2}(h1:ar X1 E1=1)(h2:ar X2 E2=1)(p1:1<=E1)(p2:1<=E2)(h:X2*E1*E1=X1*E2*E2):X1=X2/\E1=E2:=by
 have d1:E1*E1∣E2*E2:=ue h1 ⟨X2,by grind⟩;have d2:E2*E2∣E1*E1:=ue h2 ⟨X1,by grind⟩;have q2:=UG (show 0<E2 by omega) (show 0<E2 by omega);have e1:=Xs q2 d1;have e2:=Xs (UG (show 0<E1 by omega) (show 0<E1 by omega)) d2;have e3:E1*E1=E2*E2:=o_;have e4:E1=E2:=by
  rcases XU E1 E2 with hh|hh|hh
  .have:=Int.mul_lt_mul hh (U_ hh) o_ o_;omega
  .exact hh
  .have:=Int.mul_lt_mul hh (U_ hh) o_ o_;omega
 subst e4;refine⟨?_,rfl⟩;have:(X2 - X1)*(E1*E1)=0:=by grind
 rcases VH.1 this with h|h<;>omega
def zh{A B X1 Y1 E1 X2 Y2 E2}(G:eC A B X1 Y1 E1)(hq:eC A B X2 Y2 E2)(aL:¬(X1=X2/\Y1=-Y2/\E1=E2)):slD X1 Y1 E1 X2 Y2 E2≠0:=by
 have⟨_,ba,g1,_,c1⟩:=G;have⟨dc,bq,g2,c3,c2⟩:=hq;unfold slD;split
 .rename_i h;obtain⟨rfl,rfl,rfl⟩:=h;intro h0;rcases VH.1 h0 with h|h
  .exact aL ⟨rfl,by omega,rfl⟩
  .omega
 .rename_i h;intro h0;have h3:X2*E1*E1 - X1*E2*E2=0:=by
   rcases VH.1 h0 with h|h
   .rcases VH.1 h with h|h<;>omega
   .exact h
  obtain⟨rfl,rfl⟩:=S_ g1 g2 ba.1 bq.1 o_;have h4:(Y1 - Y2)*(Y1+Y2)=0:=by rw[<-c2] at c1;grind
  rcases VH.1 h4 with h5|h5
  .exact h ⟨rfl,by omega,rfl⟩
  .exact aL ⟨rfl,by omega,rfl⟩
def Em{a b}(h:ar a b≠0):ar (a.tdiv (ar a b)) (b.tdiv (ar a b))=1:=by
 unfold ar at *;have e:∀x:Int,(x.tdiv (Int.gcd a b:Nat)).natAbs=x.natAbs / Int.gcd a b:=λx=>by rw[Yi];rfl
 unfold Int.gcd at *;rw[e a,e b,Nat.gcd_div (X8 _ _) (Xm _ _),Nat.div_self o_];rfl
def CR{n m x e X1 E1 X2 E2}(hc:ar n m=1)(c4:a_ X1)(dc:a_ X2)(hx:a_ x)(ba:1<=E1/\E1<=20)(bq:1<=E2/\E2<=20)(he:1<=e/\e<=20)
 (h:(n*n*(E1*E1*E2*E2)+-(m*m*(X1*E2*E2+X2*E1*E1)))*(e*e)=m*m*(E1*E1*E2*E2)*x):(-8000<=m/\m<=8000)/\(-2000000000<=n/\n<=2000000000):=by
 have k:n*n*(E1*E1*E2*E2*(e*e))=m*m*(x*(E1*E1*E2*E2)+(e*e)*(X1*E2*E2+X2*E1*E1)):=by grind
 have d1:m*m∣n*(n*(E1*E1*E2*E2*(e*e))):=⟨_,by rw[<-k];grind⟩
 have d2:=ue hc (ue hc d1);have a1:=aJ 20 20 (x:=E1) (y:=E1) o_ o_;have a2:=aJ 400 20 (x:=E1*E1) (y:=E2) o_ o_;have a3:=aJ 8000 20 (x:=E1*E1*E2) (y:=E2) o_ o_;have a4:=aJ 20 20 (x:=e) (y:=e) o_ o_;have a5:=aJ 160000 400 (x:=E1*E1*E2*E2) (y:=e*e) o_ o_;have p2:=UG (UG (UG (show 0<E1 by omega) (show 0<E1 by omega)) (show 0<E2 by omega)) (show 0<E2 by omega);have p4:=UG p2 (UG (show 0<e by omega) (show 0<e by omega));have l1:=Xs p4 d2;have cc:-8000<=m/\m<=8000:=by
  constructor
  .rcases UF m (-8000) with hh|hh
   .have:=Ur (show 8001<=-m by omega) (show 8001<=-m by omega) o_ o_;rw[U6] at this;omega
   .exact hh
  .rcases UF 8000 m with hh|hh
   .have:=Ur (show 8001<=m by omega) (show 8001<=m by omega) o_ o_;omega
   .exact hh
 refine⟨cc,?_⟩;have b1:=aJ 8000 8000 (x:=m) (y:=m) o_ o_;have b2:=aJ 10000 160000 (x:=x) (y:=E1*E1*E2*E2) o_ o_;have b3:=aJ 10000 20 (x:=X1) (y:=E2) o_ o_;have b4:=aJ 200000 20 (x:=X1*E2) (y:=E2) o_ o_;have b5:=aJ 10000 20 (x:=X2) (y:=E1) o_ o_;have b6:=aJ 200000 20 (x:=X2*E1) (y:=E1) o_ o_;have b7:=aJ 400 8000000 (x:=e*e) (y:=X1*E2*E2+X2*E1*E1) o_ o_;have b8:=aJ 64000000 4800000000 (x:=m*m) (y:=x*(E1*E1*E2*E2)+(e*e)*(X1*E2*E2+X2*E1*E1)) o_ o_;have n0:0<=n*n:=by rcases Xz 0 n with hh|hh;exact UJ hh hh;have:=UJ (show 0<=-n by omega) (show 0<=-n by omega);rwa [U6] at this
 have n1:n*n*1<=n*n*(E1*E1*E2*E2*(e*e)):=UT o_ n0;have n2:n*n<=307200000000000000:=o_;constructor
 .rcases UF n (-2000000000) with hh|hh
  .have:=Ur (show 2000000000<=-n by omega) (show 2000000000<=-n by omega) o_ o_;rw[U6] at this;omega
  .exact hh
 .rcases UF 2000000000 n with hh|hh
  .have:=Ur (show 2000000000<=n by omega) (show 2000000000<=n by omega) o_ o_;omega
  .exact hh
def eC.ptIn{A B X Y E}(h:eC A B X Y E):iN X Y E:=⟨h.1,h.2.2.2.1,by have:=h.2.1;omega⟩
def Ep{A X1 Y1 E1 X2 Y2 E2}(hA:bj A)(G:iN X1 Y1 E1)(hq:iN X2 Y2 E2):(-48000000000<=slN A X1 Y1 E1 X2 Y2 E2/\slN A X1 Y1 E1 X2 Y2 E2<=48000000000)/\(-3200000000<=slD X1 Y1 E1 X2 Y2 E2/\slD X1 Y1 E1 X2 Y2 E2<=3200000000):=by
 have⟨c4,cA,ba⟩:=G;have⟨dc,c3,bq⟩:=hq;exact Kn
def Rj{A B X1 Y1 E1 X2 Y2 E2}(hA:bj A)(G:eC A B X1 Y1 E1)(hq:eC A B X2 Y2 E2)(aL:¬(X1=X2/\Y1=-Y2/\E1=E2)):
 ar (slN A X1 Y1 E1 X2 Y2 E2) (slD X1 Y1 E1 X2 Y2 E2)≠0/\(-48000000000<=fM A X1 Y1 E1 X2 Y2 E2/\fM A X1 Y1 E1 X2 Y2 E2<=48000000000)/\(-3200000000<=eJ A X1 Y1 E1 X2 Y2 E2/\eJ A X1 Y1 E1 X2 Y2 E2<=3200000000)/\
 (∀e x:Int,(1<=e/\e<=20)->(-10000<=x/\x<=10000)->dK (fM A X1 Y1 E1 X2 Y2 E2) (eJ A X1 Y1 E1 X2 Y2 E2) X1 E1 X2 E2*(e*e)=fb (eJ A X1 Y1 E1 X2 Y2 E2) E1 E2*x->(-8000<=eJ A X1 Y1 E1 X2 Y2 E2/\eJ A X1 Y1 E1 X2 Y2 E2<=8000)/\(-2000000000<=fM A X1 Y1 E1 X2 Y2 E2/\fM A X1 Y1 E1 X2 Y2 E2<=2000000000)):=by
 have hd:ar (slN A X1 Y1 E1 X2 Y2 E2) (slD X1 Y1 E1 X2 Y2 E2)≠0:=by have:=(nL (slN A X1 Y1 E1 X2 Y2 E2) _ (.inr (zh G hq aL))).1;omega
 have⟨b1,b2⟩:=Ep hA G.ptIn hq.ptIn;have t1:=mJ (slN A X1 Y1 E1 X2 Y2 E2) (ar (slN A X1 Y1 E1 X2 Y2 E2) (slD X1 Y1 E1 X2 Y2 E2));have t2:=mJ (slD X1 Y1 E1 X2 Y2 E2) (ar (slN A X1 Y1 E1 X2 Y2 E2) (slD X1 Y1 E1 X2 Y2 E2));refine⟨hd,by unfold fM;omega,by unfold eJ;omega,λe x he hx h=>?_⟩;exact CR (Em hd) G.1 hq.1 hx G.2.1 hq.2.1 he h
def ju(A B X Y E:Int):Prop:=(X=0/\Y=0/\E=0)\/eC A B X Y E
def rj(h:P:=by simp [results,Tryz.results112,go_sem]):=h
def uC(h:P:=by
 go_enter Tryz.func112,Tryz.ntmps112;go_wp2;refine Uh (v:=.tuple #[(1:Int),()]) rj rfl ⟨rfl,?_⟩;exact z_):=h
def Co(X Y E:Int)(hY:-3000000<=Y/\Y<=3000000)(w:World):
 Rv 76 #[.agg #[X,Y,E]] w (.agg #[X,(-Y:Int),E]):=by
 go_enter Tryz.func76,Tryz.ntmps76;go_wp2;refine Uh (v:=.agg #[X,(-Y:Int),E]) (by simp [results,Tryz.results76,go_sem]) rfl ⟨rfl,?_⟩;exact z_
def nB(n d:Int)(hd:d≠0)(hn:iO n)(K:iO d)(w:World):
 Rv 114 #[n,d] w (.tuple #[bc n d,aN n d]):=by
 obtain⟨f1,f2,f3,f4⟩:=xQ hd hn K;have HA:=h_ (Dp n d);have ab:-4000000000000000000<=n.tdiv (bE n d)/\n.tdiv (bE n d)<=4000000000000000000:=f3;have aa:-4000000000000000000<=d.tdiv (bE n d)/\d.tdiv (bE n d)<=4000000000000000000:=f4;have ac:(bE n d==0)=false:=by simpa using f1
 show Kp 114 _ w λe w'=>e=.returned (.tuple #[(n.tdiv (bE n d):Int),(d.tdiv (bE n d):Int)])/\Below w.heap.size w w';have hG:(d<0/\bE n d=-ar n d)\/(0<=d/\bE n d=ar n d):=by unfold bE;split<;>omega
 clear hd f3 f4;generalize bE n d=g at *;rcases hG with ⟨hs,hg⟩|⟨hs,hg⟩
 all_goals
  go_enter Tryz.func114,Tryz.ntmps114;go_wp2_with (first|(go_at_call 113;refine (lk _ o_ _).mono ?_;rintro e w' ⟨rfl,rfl⟩)|(go_at_call 169;refine (nt _ _ o_ o_ _).mono ?_;rintro e w' ⟨rfl,rfl⟩;rw[HA.out]))
  rw[<-hg];clear hg;have w1:IntKind.i64.wrap (n.tdiv g)=n.tdiv g:=Vd _ o_;have w2:IntKind.i64.wrap (d.tdiv g)=d.tdiv g:=Vd _ o_
  go_still k_
  go_wp2;refine Uh (v:=.tuple #[(n.tdiv g:Int),(d.tdiv g:Int)]) (by simp [results,Tryz.results114,go_sem]) rfl ⟨rfl,?_⟩;exact (Uk w.heap.size w).drew
def JL{A X1 Y1 E1 X2 Y2 E2:Int}(h:X1=X2/\Y1=Y2/\E1=E2):slN A X1 Y1 E1 X2 Y2 E2=3*X1*X1+A*E1*E1*E1*E1/\slD X1 Y1 E1 X2 Y2 E2=2*Y1*E1:=by unfold slN slD;rw[Um h,Um h];exact⟨rfl,rfl⟩
def JS{A X1 Y1 E1 X2 Y2 E2:Int}(h:¬(X1=X2/\Y1=Y2/\E1=E2)):slN A X1 Y1 E1 X2 Y2 E2=Y2*E1*E1*E1 - Y1*E2*E2*E2/\slD X1 Y1 E1 X2 Y2 E2=E1*E2*(X2*E1*E1 - X1*E2*E2):=by unfold slN slD;rw[Uj h,Uj h];exact⟨rfl,rfl⟩
def kw(n d:Int):Int:=if d=0 then 1 else bc n d
def kU(n d:Int):Int:=if d=0 then 0 else aN n d
def PI(A B X1 Y1 E1 X2 Y2 E2:Int)(hA:bj A)(G:iN X1 Y1 E1)(hq:iN X2 Y2 E2)(w:World):
 Rv 112 #[.agg #[A,B],.agg #[X1,Y1,E1],.agg #[X2,Y2,E2]] w (.tuple #[kw (slN A X1 Y1 E1 X2 Y2 E2) (slD X1 Y1 E1 X2 Y2 E2),kU (slN A X1 Y1 E1 X2 Y2 E2) (slD X1 Y1 E1 X2 Y2 E2)]):=by
 obtain⟨-,-,-,J⟩:=pW w #[A,B] 42 #[X1,Y1,E1] 46 #[X2,Y2,E2] 46;obtain⟨c4,cA,ba⟩:=G;obtain⟨dc,c3,bq⟩:=hq;obtain⟨a1,a2,a3,_⟩:=fv 3000000 (x:=Y2) (e:=E1) o_ ba;obtain⟨b1,b2,b3,_⟩:=fv 3000000 (x:=Y1) (e:=E2) o_ bq;obtain⟨c1,c2,_,_⟩:=fv 10000 (x:=X2) (e:=E1) o_ ba;obtain⟨d1,d2,_,_⟩:=fv 10000 (x:=X1) (e:=E2) o_ bq;have e1:=aJ (x:=E1) (y:=E2) 20 20 o_ o_;have e2:=aJ (x:=E1*E2) (y:=X2*E1*E1 - X1*E2*E2) 400 8000000 o_ o_;by_cases h:X1=X2/\Y1=Y2/\E1=E2
 .rw[(JL (A:=A) h).1,(JL (A:=A) h).2];obtain⟨rfl,rfl,rfl⟩:=h;obtain⟨z1,z2,z3,z4⟩:=fv 1000 (x:=A) (e:=E1) o_ ba;have x1:=aJ (x:=3*X1) (y:=X1) 30000 10000 o_ o_;have y1:=aJ (x:=2*Y1) (y:=E1) 6000000 20 o_ o_;by_cases hz:2*Y1*E1=0
  .rw[show kw (3*X1*X1+A*E1*E1*E1*E1) (2*Y1*E1)=1 from Um hz,show kU (3*X1*X1+A*E1*E1*E1*E1) (2*Y1*E1)=0 from Um hz];exact uC
  .rw[show kw (3*X1*X1+A*E1*E1*E1*E1) (2*Y1*E1)=bc (3*X1*X1+A*E1*E1*E1*E1) (2*Y1*E1) from Uj hz,show kU (3*X1*X1+A*E1*E1*E1*E1) (2*Y1*E1)=aN (3*X1*X1+A*E1*E1*E1*E1) (2*Y1*E1) from Uj hz];have HE:=h_ (nB (3*X1*X1+A*E1*E1*E1*E1) (2*Y1*E1) hz o_ o_);go_enter Tryz.func112,Tryz.ntmps112;go_wp2_with fail
   refine ai (HE.out _) λw1 I=>?_;go_wp2;refine Uh (v:=.tuple #[(bc (3*X1*X1+A*E1*E1*E1*E1) (2*Y1*E1):Int),(aN (3*X1*X1+A*E1*E1*E1*E1) (2*Y1*E1):Int)]) rj rfl ?_;exact pE
 .rw[(JS (A:=A) h).1,(JS (A:=A) h).2];clear hA;by_cases h1:X1=X2
  .subst h1;by_cases h2:Y1=Y2
   .subst h2;have h3:¬(E1=E2):=λk=>h ⟨rfl,rfl,k⟩;clear h;by_cases hz:E1*E2*(X1*E1*E1 - X1*E2*E2)=0
    .rw[show kw (Y1*E1*E1*E1 - Y1*E2*E2*E2) (E1*E2*(X1*E1*E1 - X1*E2*E2))=1 from Um hz,show kU (Y1*E1*E1*E1 - Y1*E2*E2*E2) (E1*E2*(X1*E1*E1 - X1*E2*E2))=0 from Um hz];exact uC
    .rw[show kw (Y1*E1*E1*E1 - Y1*E2*E2*E2) (E1*E2*(X1*E1*E1 - X1*E2*E2))=bc (Y1*E1*E1*E1 - Y1*E2*E2*E2) (E1*E2*(X1*E1*E1 - X1*E2*E2)) from Uj hz,show kU (Y1*E1*E1*E1 - Y1*E2*E2*E2) (E1*E2*(X1*E1*E1 - X1*E2*E2))=aN (Y1*E1*E1*E1 - Y1*E2*E2*E2) (E1*E2*(X1*E1*E1 - X1*E2*E2)) from Uj hz];have HE:=h_ (nB (Y1*E1*E1*E1 - Y1*E2*E2*E2) (E1*E2*(X1*E1*E1 - X1*E2*E2)) hz o_ o_);go_enter Tryz.func112,Tryz.ntmps112;go_wp2_with fail
     refine ai (HE.out _) λw1 I=>?_;go_wp2;refine Uh (v:=.tuple #[(bc (Y1*E1*E1*E1 - Y1*E2*E2*E2) (E1*E2*(X1*E1*E1 - X1*E2*E2)):Int),(aN (Y1*E1*E1*E1 - Y1*E2*E2*E2) (E1*E2*(X1*E1*E1 - X1*E2*E2)):Int)]) rj rfl ?_;exact pE
   .clear h;by_cases hz:E1*E2*(X1*E1*E1 - X1*E2*E2)=0
    .rw[show kw (Y2*E1*E1*E1 - Y1*E2*E2*E2) (E1*E2*(X1*E1*E1 - X1*E2*E2))=1 from Um hz,show kU (Y2*E1*E1*E1 - Y1*E2*E2*E2) (E1*E2*(X1*E1*E1 - X1*E2*E2))=0 from Um hz];exact uC
    .rw[show kw (Y2*E1*E1*E1 - Y1*E2*E2*E2) (E1*E2*(X1*E1*E1 - X1*E2*E2))=bc (Y2*E1*E1*E1 - Y1*E2*E2*E2) (E1*E2*(X1*E1*E1 - X1*E2*E2)) from Uj hz,show kU (Y2*E1*E1*E1 - Y1*E2*E2*E2) (E1*E2*(X1*E1*E1 - X1*E2*E2))=aN (Y2*E1*E1*E1 - Y1*E2*E2*E2) (E1*E2*(X1*E1*E1 - X1*E2*E2)) from Uj hz];have HE:=h_ (nB (Y2*E1*E1*E1 - Y1*E2*E2*E2) (E1*E2*(X1*E1*E1 - X1*E2*E2)) hz o_ o_);go_enter Tryz.func112,Tryz.ntmps112;go_wp2_with fail
     refine ai (HE.out _) λw1 I=>?_;go_wp2;refine Uh (v:=.tuple #[(bc (Y2*E1*E1*E1 - Y1*E2*E2*E2) (E1*E2*(X1*E1*E1 - X1*E2*E2)):Int),(aN (Y2*E1*E1*E1 - Y1*E2*E2*E2) (E1*E2*(X1*E1*E1 - X1*E2*E2)):Int)]) rj rfl ?_;exact pE
  .clear h;by_cases hz:E1*E2*(X2*E1*E1 - X1*E2*E2)=0
   .rw[show kw (Y2*E1*E1*E1 - Y1*E2*E2*E2) (E1*E2*(X2*E1*E1 - X1*E2*E2))=1 from Um hz,show kU (Y2*E1*E1*E1 - Y1*E2*E2*E2) (E1*E2*(X2*E1*E1 - X1*E2*E2))=0 from Um hz];exact uC
   .rw[show kw (Y2*E1*E1*E1 - Y1*E2*E2*E2) (E1*E2*(X2*E1*E1 - X1*E2*E2))=bc (Y2*E1*E1*E1 - Y1*E2*E2*E2) (E1*E2*(X2*E1*E1 - X1*E2*E2)) from Uj hz,show kU (Y2*E1*E1*E1 - Y1*E2*E2*E2) (E1*E2*(X2*E1*E1 - X1*E2*E2))=aN (Y2*E1*E1*E1 - Y1*E2*E2*E2) (E1*E2*(X2*E1*E1 - X1*E2*E2)) from Uj hz];have HE:=h_ (nB (Y2*E1*E1*E1 - Y1*E2*E2*E2) (E1*E2*(X2*E1*E1 - X1*E2*E2)) hz o_ o_);go_enter Tryz.func112,Tryz.ntmps112;go_wp2_with fail
    refine ai (HE.out _) λw1 I=>?_;go_wp2;refine Uh (v:=.tuple #[(bc (Y2*E1*E1*E1 - Y1*E2*E2*E2) (E1*E2*(X2*E1*E1 - X1*E2*E2)):Int),(aN (Y2*E1*E1*E1 - Y1*E2*E2*E2) (E1*E2*(X2*E1*E1 - X1*E2*E2)):Int)]) rj rfl ?_;exact pE
def Ak(h:P:=by simp [results,Tryz.results77,go_sem,q0,q1,q2]):=h
def Fu(h:P:=by
 generalize (World.setCell (World.setCell (World.setCell _ _ _) _ _) _ _)=w9 at k9 ad ⊢;clear t0 t1 t2 z0 z1 z2;obtain⟨q0,q1,q2⟩:=k9.q3;refine Uh (v:=.tuple #[.agg #[(),(),()],false]) Ak rfl ?_;exact⟨rfl,bx.out▸ad⟩):=h
def F1(h:P:=by
 have U:=Uk w3.heap.size w3;go_upto_region 14 with fail
 have l9:=V.lt;have jR:=V.next U
 have z0:=jR.frozen 0;have z1:=jR.frozen 1;have z2:=jR.frozen 2;obtain⟨t0,t1,t2⟩:=jR.q3;have k9:=((jR.set 0 ()).set 1 ()).set 2 ();have ad:Below rC w (((w3.setCell ⟨rR,0,none⟩ ()).setCell ⟨rR,1,none⟩ ()).setCell ⟨rR,2,none⟩ ()):=(((af U o_ bb).setCell u_ _).setCell u_ _).setCell u_ _
 (repeat (first|go_skip|go_guarded|go_step))
 exact Fu):=h
def Kj(h:P:=by
 simp only[ku] at aa;subst aa;exact F1):=h
def Kd(h:P:=by
 have U:=Uk w1.heap.size w1;go_upto_region 9 with fail
 have l9:=V.lt;have jR:=V.next U
 have z0:=jR.frozen 0;have z1:=jR.frozen 1;have z2:=jR.frozen 2;obtain⟨t0,t1,t2⟩:=jR.q3;have k9:=((jR.set 0 ()).set 1 ()).set 2 ();have ad:Below rC w (((w1.setCell ⟨rR,0,none⟩ ()).setCell ⟨rR,1,none⟩ ()).setCell ⟨rR,2,none⟩ ()):=(((af U o_ bb).setCell u_ _).setCell u_ _).setCell u_ _
 (repeat (first|go_skip|go_guarded|go_step))
 exact Fu):=h
def C8{d G:Int}(hG:0<G)(h:G∣d)(hd:0<d):1<=d.tdiv G:=by
 obtain⟨k,rfl⟩:=h;rw[Xa _ o_];rcases UF 0 k with h|h
 .omega
 .have:=UJ (show 0<=G by omega) (show 0<=-k by omega);rw[WL] at this;omega
def lj{n d:Int}(hd:d≠0):1<=aN n d:=by
 have hg:0<Int.gcd n d:=Xy.2 (.inr hd);have h2:((Int.gcd n d:Nat):Int)∣d:=Vf n d;unfold aN bE ar;split
 .rw[XA,<-Int.neg_tdiv];exact C8 o_ (Yn.2 h2) o_
 .exact C8 o_ h2 o_
def py(n d:Int):(bc n d).natAbs<=n.natAbs/\(aN n d).natAbs<=d.natAbs:=⟨mJ _ _,mJ _ _⟩
def du(n d X1 E1 X2 E2:Int):Int:=n*n*(E1*E1)*(E2*E2) - X1*d*d*(E2*E2) - X2*d*d*(E1*E1)
def dt(d E1 E2:Int):Int:=d*d*(E1*E1)*(E2*E2)
def dD(n X1 E1 x e:Int):Int:=n*(X1*e*e - x*(E1*E1))
def dw(d E1 e:Int):Int:=d*(E1*E1)*e*e
def eD(u v Y1 E1:Int):Int:=u*(E1*E1)*E1 - Y1*v
def eK(v E1:Int):Int:=v*(E1*E1)*E1
def wj(y bo e:Int):Int:=wrap64 (y*(e*e*e).tdiv bo)
def sv(n d X1 Y1 E1 x e:Int):Int:=wj (bc (eD (bc (dD n X1 E1 x e) (dw d E1 e)) (aN (dD n X1 E1 x e) (dw d E1 e)) Y1 E1) (eK (aN (dD n X1 E1 x e) (dw d E1 e)) E1)) (aN (eD (bc (dD n X1 E1 x e) (dw d E1 e)) (aN (dD n X1 E1 x e) (dw d E1 e)) Y1 E1) (eK (aN (dD n X1 E1 x e) (dw d E1 e)) E1)) e
noncomputable def ow(n d X1 Y1 E1 X2 E2:Int):Option (Int×Int×Int):=
 if 8000<d\/200*d<n.natAbs then none
 else if ap (aN (du n d X1 E1 X2 E2) (dt d E1 E2))*ap (aN (du n d X1 E1 X2 E2) (dt d E1 E2))=aN (du n d X1 E1 X2 E2) (dt d E1 E2)/\ap (aN (du n d X1 E1 X2 E2) (dt d E1 E2))<=20/\av (bc (du n d X1 E1 X2 E2) (dt d E1 E2)) (-10000) 10000=true then
  some (bc (du n d X1 E1 X2 E2) (dt d E1 E2),sv n d X1 Y1 E1 (bc (du n d X1 E1 X2 E2) (dt d E1 E2)) (ap (aN (du n d X1 E1 X2 E2) (dt d E1 E2))),ap (aN (du n d X1 E1 X2 E2) (dt d E1 E2)))
 else none
noncomputable def oC(A X1 Y1 E1 X2 Y2 E2:Int):Option (Int×Int×Int):=
 if slD X1 Y1 E1 X2 Y2 E2=0 then some (0,0,0) else ow (bc (slN A X1 Y1 E1 X2 Y2 E2) (slD X1 Y1 E1 X2 Y2 E2)) (aN (slN A X1 Y1 E1 X2 Y2 E2) (slD X1 Y1 E1 X2 Y2 E2)) X1 Y1 E1 X2 E2
def ku:Option (Int×Int×Int)->Value
 |some (x,y,e)=>.tuple #[.agg #[.int .i64 x,.int .i64 y,.int .i64 e],.bool true]
 |none=>.tuple #[.agg #[.int .i64 0,.int .i64 0,.int .i64 0],.bool false]
def Pq(A B X1 Y1 E1 X2 Y2 E2:Int)(hA:bj A)(G:iN X1 Y1 E1)(hq:iN X2 Y2 E2)(h1:1<=E1)(h2:1<=E2)(w:World):
 Rv 77 #[.agg #[A,B],.agg #[X1,Y1,E1],.agg #[X2,Y2,E2]] w (ku (oC A X1 Y1 E1 X2 Y2 E2)):=by
 have es:=h_ (PI A B X1 Y1 E1 X2 Y2 E2 hA G hq);obtain⟨kC,kP,kQ,V,bb⟩:=AH w #[A,B] 42 #[X1,Y1,E1] 46 #[X2,Y2,E2] 46 #[(),(),()] 46;have a6:=bb.size;obtain⟨c4,cA,ba⟩:=G;obtain⟨dc,c3,bq⟩:=hq;have g1:(E1==0)=false:=u_;have g2:(E2==0)=false:=u_;have bp:=Ep (X1:=X1) (Y1:=Y1) (E1:=E1) (X2:=X2) (Y2:=Y2) (E2:=E2) hA ⟨c4,cA,ba⟩ ⟨dc,c3,bq⟩;have HS:Hid (oC A X1 Y1 E1 X2 Y2 E2=if slD X1 Y1 E1 X2 Y2 E2=0 then some (0,0,0) else ow (bc (slN A X1 Y1 E1 X2 Y2 E2) (slD X1 Y1 E1 X2 Y2 E2)) (aN (slN A X1 Y1 E1 X2 Y2 E2) (slD X1 Y1 E1 X2 Y2 E2)) X1 Y1 E1 X2 E2):=rfl;generalize aa:ku (oC A X1 Y1 E1 X2 Y2 E2)=cz;have a8:Hid (ku (if slD X1 Y1 E1 X2 Y2 E2=0 then some (0,0,0) else ow (bc (slN A X1 Y1 E1 X2 Y2 E2) (slD X1 Y1 E1 X2 Y2 E2)) (aN (slN A X1 Y1 E1 X2 Y2 E2) (slD X1 Y1 E1 X2 Y2 E2)) X1 Y1 E1 X2 E2)=cz):=h_ (by rw[<-HS.out];exact aa);clear aa HS;generalize slN A X1 Y1 E1 X2 Y2 E2=n0 at *;generalize slD X1 Y1 E1 X2 Y2 E2=m0 at *;go_enter Tryz.func77,Tryz.ntmps77;go_upto_region 1 with fail
 generalize (((w.alloc _).alloc _).alloc _).alloc _=W at *;have e5:w.heap.size<=w.heap.size+1+1+1:=o_;generalize w.heap.size+1+1+1=rR at *;generalize w.heap.size+1+1=rQ at *;generalize w.heap.size+1=rP at *;generalize bs:w.heap.size=rC at *;have bx:Hid (w.heap.size=rC):=bs;clear bs;have lR:=V.lt;have lP:=kP.lt;have lQ:=kQ.lt;have lC:=kC.lt;obtain⟨p0,p1,p2⟩:=kP.q3;obtain⟨q0,q1,q2⟩:=kQ.q3;obtain⟨c0,c1⟩:=kC.q2;have hz:=a6;go_wp2_with fail
 refine ai (es.out _) λw1 I=>?_;clear es c0 c1 kC lC;by_cases hm:m0=0
 .have aa:=a8.out;rw[Um hm] at aa;simp only[ku] at aa;subst aa;rw[show kw n0 m0=1 from Um hm,show kU n0 m0=0 from Um hm];clear p0 p1 p2 q0 q1 q2 kP kQ bp hm a8;go_upto_region 7 with fail
  have l9:=V.lt;have jR:=V.next I
  have z0:=jR.frozen 0;have z1:=jR.frozen 1;have z2:=jR.frozen 2;obtain⟨t0,t1,t2⟩:=jR.q3;have k9:=((jR.set 0 ()).set 1 ()).set 2 ();have ad:Below rC w (((w1.setCell ⟨rR,0,none⟩ ()).setCell ⟨rR,1,none⟩ ()).setCell ⟨rR,2,none⟩ ()):=(((af I o_ bb).setCell u_ _).setCell u_ _).setCell u_ _
  (repeat (first|go_skip|go_guarded|go_step))
  generalize (World.setCell (World.setCell (World.setCell _ _ _) _ _) _ _)=w9 at k9 ad ⊢;clear t0 t1 t2 z0 z1 z2;obtain⟨q0,q1,q2⟩:=k9.q3;refine Uh (v:=.tuple #[.agg #[(),(),()],true]) Ak rfl ?_;exact⟨rfl,bx.out▸ad⟩
 .rw[show kw n0 m0=bc n0 m0 from Uj hm,show kU n0 m0=aN n0 m0 from Uj hm];have K:=a8.out;rw[Uj hm] at K;have b4:=lj (n:=n0) hm;obtain⟨b8,bv⟩:=py n0 m0;have cF:-48000000000<=bc n0 m0/\bc n0 m0<=48000000000:=o_;have bi:1<=aN n0 m0/\aN n0 m0<=3200000000:=o_;clear a8 bp hm b8 bv b4;generalize bc n0 m0=n at *;generalize aN n0 m0=d at *;have cb:=h_ K;clear K;replace bb:=af I o_ bb;replace kP:=kP.next I
  replace kQ:=kQ.next I
  replace V:=V.next I
  clear p0 p1 p2 q0 q1 q2 I;replace hz:=V.lt;obtain⟨p0,p1,p2⟩:=kP.q3;obtain⟨q0,q1,q2⟩:=kQ.q3;have aG:=h_ (lk n o_);by_cases b1:8000<d
  .have aa:=cb.out;unfold ow at aa;rw[Um (.inl b1)] at aa;simp only[ku] at aa;subst aa;exact Kd
  .by_cases cy:200*d<n.natAbs
   .have aa:=cb.out;unfold ow at aa;rw[Um (.inr cy)] at aa;simp only[ku] at aa;subst aa;go_wp2_with fail
    refine (aG.out _).mono ?_;rintro e w2 ⟨rfl,rfl⟩;exact Kd
   .go_wp2_with fail
    refine (aG.out _).mono ?_;rintro e w2 ⟨rfl,rfl⟩;replace cF:-1600000<=n/\n<=1600000:=o_;replace bi:1<=d/\d<=8000:=o_;have g:Hid (ku (if ap (aN (du n d X1 E1 X2 E2) (dt d E1 E2))*ap (aN (du n d X1 E1 X2 E2) (dt d E1 E2))=aN (du n d X1 E1 X2 E2) (dt d E1 E2)/\ap (aN (du n d X1 E1 X2 E2) (dt d E1 E2))<=20/\av (bc (du n d X1 E1 X2 E2) (dt d E1 E2)) (-10000) 10000=true then
     some (bc (du n d X1 E1 X2 E2) (dt d E1 E2),sv n d X1 Y1 E1 (bc (du n d X1 E1 X2 E2) (dt d E1 E2)) (ap (aN (du n d X1 E1 X2 E2) (dt d E1 E2))),ap (aN (du n d X1 E1 X2 E2) (dt d E1 E2))) else none)=cz):=by
     have h:=cb.out;unfold ow at h;rw[Uj o_] at h;exact h
    clear cb aG;have f1:=aJ (x:=E1) (y:=E1) 20 20 o_ o_;have fV:=aJ (x:=E2) (y:=E2) 20 20 o_ o_;have m1:=aJ (x:=n) (y:=n) 1600000 1600000 o_ o_;have m2:=aJ (x:=n*n) (y:=E1*E1) 2560000000000 400 o_ o_;have m3:=aJ (x:=n*n*(E1*E1)) (y:=E2*E2) 1024000000000000 400 o_ o_;have m4:=aJ (x:=X1) (y:=d) 10000 8000 o_ o_;have m5:=aJ (x:=X1*d) (y:=d) 80000000 8000 o_ o_;have m6:=aJ (x:=X1*d*d) (y:=E2*E2) 640000000000 400 o_ o_;have m7:=aJ (x:=X2) (y:=d) 10000 8000 o_ o_;have m8:=aJ (x:=X2*d) (y:=d) 80000000 8000 o_ o_;have m9:=aJ (x:=X2*d*d) (y:=E1*E1) 640000000000 400 o_ o_;have aZ:=aJ (x:=d) (y:=d) 8000 8000 o_ o_;have aL:=aJ (x:=d*d) (y:=E1*E1) 64000000 400 o_ o_;have bX:=aJ (x:=d*d*(E1*E1)) (y:=E2*E2) 25600000000 400 o_ o_;have hT:-500000000000000000<=du n d X1 E1 X2 E2/\du n d X1 E1 X2 E2<=500000000000000000:=by unfold du;omega
    have hB:1<=dt d E1 E2/\dt d E1 E2<=10240000000000:=by
     have r1:=UG (show 0<d by omega) (show 0<d by omega);have r2:=UG r1 (UG (show 0<E1 by omega) (show 0<E1 by omega));have r3:=UG r2 (UG (show 0<E2 by omega) (show 0<E2 by omega));unfold dt;omega
    have aM:=h_ (nB (du n d X1 E1 X2 E2) (dt d E1 E2) o_ o_ o_);have eT:n*n*(E1*E1)*(E2*E2) - X1*d*d*(E2*E2) - X2*d*d*(E1*E1)=du n d X1 E1 X2 E2:=rfl;have eB:d*d*(E1*E1)*(E2*E2)=dt d E1 E2:=rfl;have dy:=(py (du n d X1 E1 X2 E2) (dt d E1 E2))
    have bZ:=lj (n:=du n d X1 E1 X2 E2) (d:=dt d E1 E2) o_;go_upto_region 10 with fail
    have lP:=kP.lt;have lQ:=kQ.lt
    (refine bP k_ k_ ?_;(repeat (go_big_quiet_step (fail)));refine wpQuiet_nil ?_;intro w8 ca;obtain⟨fz,fy⟩:=bf ca;have ea:=ca.size;(try simp only[Uq] at ea))
    replace bb:=af ca o_ bb;replace kP:=kP.next ca
    replace kQ:=kQ.next ca
    replace V:=V.next ca
    clear p0 p1 p2 q0 q1 q2 ca;replace hz:=V.lt;obtain⟨p0,p1,p2⟩:=kP.q3;obtain⟨q0,q1,q2⟩:=kQ.q3;clear fz fy;go_wp2_with fail
    refine ai (aM.out _) λw3 aF=>?_;replace bb:=af aF o_ bb;replace kP:=kP.next aF
    replace kQ:=kQ.next aF
    replace V:=V.next aF
    clear p0 p1 p2 q0 q1 q2 aF;replace hz:=V.lt;obtain⟨p0,p1,p2⟩:=kP.q3;obtain⟨q0,q1,q2⟩:=kQ.q3;clear eT eB aM m1 m2 m3 m4 m5 m6 m7 m8 m9 aZ aL bX;have a1:-500000000000000000<=bc (du n d X1 E1 X2 E2) (dt d E1 E2)/\bc (du n d X1 E1 X2 E2) (dt d E1 E2)<=500000000000000000:=o_;have b6:1<=aN (du n d X1 E1 X2 E2) (dt d E1 E2)/\aN (du n d X1 E1 X2 E2) (dt d E1 E2)<=10240000000000:=o_;clear dy bZ hT hB;generalize bc (du n d X1 E1 X2 E2) (dt d E1 E2)=x at *;generalize aN (du n d X1 E1 X2 E2) (dt d E1 E2)=q at *;have cu:=h_ (oT q o_);have cs:=nI (n:=q) o_;have a3:=nQ (n:=q) (b:=3200001) o_ o_ o_;have a4:=kZ q;generalize ap q=e at *;have b5:=aJ (x:=e) (y:=e) 3200001 3200001 o_ o_;go_wp2_with fail
    refine (cu.out _).mono ?_;rintro e' w4 ⟨rfl,rfl⟩;clear cu;have J:=h_ (cw x (-10000) 10000);by_cases ab:e*e=q
    .by_cases fr:e<=20
     .cases a2:av x (-10000) 10000
      .have aa:=g.out;rw[Uj (λh=>by rw[a2] at h;exact Bool.noConfusion h.2.2)] at aa;simp only[ku] at aa;subst aa;rw[a2] at J;go_wp2_with fail
       refine (J.out _).mono ?_;rintro e' w4 ⟨rfl,rfl⟩;exact F1
      .have aa:=g.out;rw[Um ⟨ab,fr,a2⟩] at aa;simp only[ku] at aa;rw[a2] at J;have b2:=bH a2;go_wp2_with fail
       refine (J.out _).mono ?_;rintro e' w4 ⟨rfl,rfl⟩;have ae:1<=e:=by
        rcases UF 0 e with h|h
        .omega
        .have:e=0:=by omega
         rw[this] at ab;omega
       have x1:=aJ (x:=X1) (y:=e) 10000 20 o_ o_;have x2:=aJ (x:=X1*e) (y:=e) 200000 20 o_ o_;have x3:=aJ (x:=x) (y:=E1*E1) 10000 400 o_ o_;have x4:=aJ (x:=n) (y:=X1*e*e - x*(E1*E1)) 1600000 8000000 o_ o_;have v1:=aJ (x:=d) (y:=E1*E1) 8000 400 o_ o_;have v2:=aJ (x:=d*(E1*E1)) (y:=e) 3200000 20 o_ o_;have v3:=aJ (x:=d*(E1*E1)*e) (y:=e) 64000000 20 o_ o_;have hU:-12800000000000<=dD n X1 E1 x e/\dD n X1 E1 x e<=12800000000000:=by unfold dD;omega
       have hV:1<=dw d E1 e/\dw d E1 e<=1280000000:=by
        have r1:=UG (show 0<d by omega) (UG (show 0<E1 by omega) (show 0<E1 by omega));have r2:=UG (UG r1 (show 0<e by omega)) (show 0<e by omega);unfold dw;omega
       have eU:n*(X1*e*e - x*(E1*E1))=dD n X1 E1 x e:=rfl;have eV:d*(E1*E1)*e*e=dw d E1 e:=rfl;have az:=h_ (nB (dD n X1 E1 x e) (dw d E1 e) o_ o_ o_);have HW:Hid (sv n d X1 Y1 E1 x e=wj (bc (eD (bc (dD n X1 E1 x e) (dw d E1 e)) (aN (dD n X1 E1 x e) (dw d E1 e)) Y1 E1) (eK (aN (dD n X1 E1 x e) (dw d E1 e)) E1)) (aN (eD (bc (dD n X1 E1 x e) (dw d E1 e)) (aN (dD n X1 E1 x e) (dw d E1 e)) Y1 E1) (eK (aN (dD n X1 E1 x e) (dw d E1 e)) E1)) e):=rfl;rw[HW.out] at aa;have Z:=h_ aa;have bY:=py (dD n X1 E1 x e) (dw d E1 e);have a9:=lj (n:=dD n X1 E1 x e) (d:=dw d E1 e) o_;clear aa HW g J;go_wp2_with fail
       refine (az.out _).mono ?_;rintro e' w5 ⟨rfl,ac⟩;replace bb:=af ac o_ bb;replace kP:=kP.next ac
       replace kQ:=kQ.next ac
       replace V:=V.next ac
       clear p0 p1 p2 q0 q1 q2 ac;replace hz:=V.lt;obtain⟨p0,p1,p2⟩:=kP.q3;obtain⟨q0,q1,q2⟩:=kQ.q3;clear az eU eV x1 x2 x3 x4 v1 v2 v3;have cc:-12800000000000<=bc (dD n X1 E1 x e) (dw d E1 e)/\bc (dD n X1 E1 x e) (dw d E1 e)<=12800000000000:=o_;have c8:1<=aN (dD n X1 E1 x e) (dw d E1 e)/\aN (dD n X1 E1 x e) (dw d E1 e)<=1280000000:=o_;clear bY a9 hU hV;generalize bc (dD n X1 E1 x e) (dw d E1 e)=u at *;generalize aN (dD n X1 E1 x e) (dw d E1 e)=v at *;have y1:=aJ (x:=u) (y:=E1*E1) 12800000000000 400 o_ o_;have y2:=aJ (x:=u*(E1*E1)) (y:=E1) 5120000000000000 20 o_ o_;have y3:=aJ (x:=Y1) (y:=v) 3000000 1280000000 o_ o_;have y4:=aJ (x:=v) (y:=E1*E1) 1280000000 400 o_ o_;have y5:=aJ (x:=v*(E1*E1)) (y:=E1) 512000000000 20 o_ o_;have hG:-110000000000000000<=eD u v Y1 E1/\eD u v Y1 E1<=110000000000000000:=by unfold eD;omega
       have hH:1<=eK v E1/\eK v E1<=10240000000000:=by
        have r1:=UG (UG (show 0<v by omega) (UG (show 0<E1 by omega) (show 0<E1 by omega))) (show 0<E1 by omega);unfold eK;omega
       have eG:u*(E1*E1)*E1 - Y1*v=eD u v Y1 E1:=rfl;have eH:v*(E1*E1)*E1=eK v E1:=rfl;have a5:=h_ (nB (eD u v Y1 E1) (eK v E1) o_ o_ o_);have aX:=py (eD u v Y1 E1) (eK v E1);have b0:=lj (n:=eD u v Y1 E1) (d:=eK v E1) o_;go_wp2_with fail
       refine (a5.out _).mono ?_;rintro e' w6 ⟨rfl,ax⟩;replace bb:=af ax o_ bb;replace kP:=kP.next ax
       replace kQ:=kQ.next ax
       replace V:=V.next ax
       clear p0 p1 p2 q0 q1 q2 ax;replace hz:=V.lt;obtain⟨p0,p1,p2⟩:=kP.q3;obtain⟨q0,q1,q2⟩:=kQ.q3;clear a5 eG eH y1 y2 y3 y4 y5 p0 p1 p2 q0 q1 q2;have bz:-110000000000000000<=bc (eD u v Y1 E1) (eK v E1)/\bc (eD u v Y1 E1) (eK v E1)<=110000000000000000:=o_;have b9:1<=aN (eD u v Y1 E1) (eK v E1)/\aN (eD u v Y1 E1) (eK v E1)<=10240000000000:=o_;clear aX b0 hG hH;generalize bc (eD u v Y1 E1) (eK v E1)=y at *;generalize aN (eD u v Y1 E1) (eK v E1)=bo at *;clear ab cs;have k1:=aJ (x:=e) (y:=e) 20 20 o_ o_;have k2:=aJ (x:=e*e) (y:=e) 400 20 o_ o_;have F:=mJ (e*e*e) bo;have H:IntKind.i64.wrap ((e*e*e).tdiv bo)=(e*e*e).tdiv bo:=Vd _ o_;have b7:(bo==0)=false:=u_;have b3:bo≠0:=o_;have aa:=Z.out;unfold wj at aa;subst aa;clear Z;have a7:=Uk w6.heap.size w6;go_upto_region 17 with fail
       have l9:=V.lt;have jR:=V.next a7
       have z0:=jR.frozen 0;have z1:=jR.frozen 1;have z2:=jR.frozen 2;obtain⟨t0,t1,t2⟩:=jR.q3;have k9:=((jR.set 0 x).set 1 (wrap64 (y*(e*e*e).tdiv bo):Int)).set 2 e;have ad:Below rC w (((w6.setCell ⟨rR,0,none⟩ x).setCell ⟨rR,1,none⟩ (wrap64 (y*(e*e*e).tdiv bo):Int)).setCell ⟨rR,2,none⟩ e):=(((af a7 o_ bb).setCell u_ _).setCell u_ _).setCell u_ _
       (repeat (first|go_skip|go_guarded|go_step))
       generalize (World.setCell (World.setCell (World.setCell _ _ _) _ _) _ _)=w9 at k9 ad ⊢;clear t0 t1 t2 z0 z1 z2;obtain⟨q0,q1,q2⟩:=k9.q3;refine Uh (v:=.tuple #[.agg #[x,(wrap64 (y*(e*e*e).tdiv bo):Int),e],true]) Ak rfl ?_;exact⟨rfl,bx.out▸ad⟩
     .have aa:=g.out;rw[Uj (λh=>fr h.2.1)] at aa;exact Kj
    .have aa:=g.out;rw[Uj (λh=>ab h.1)] at aa;exact Kj
end Go.Proofs.YtaamhakdhaolmaaGreatDoor
