/- Part 6. -/
import Derived.Deep.Cut
import Derived.Test.YtaamhakdhaolmaaGreatDoorSaf
namespace Go.Proofs.YtaamhakdhaolmaaGreatDoor
open Go.RowKit Go.Proofs.Tryz
open World(setCell)
set_option maxHeartbeats 8000000
set_option maxRecDepth 100000
variable {P:Prop}
set_option linter.all false
def Jv(h:P:=by simp [results,results188,go_sem,R0,R1,R2,R3,R4,R5]):=h
def In(h:P:=by simp [results,results219,go_sem,R0,R1,R2,R3,R4,R5]):=h
def Lb(h:P:=by
 have bs:=h_ (HN.out.next hb);rw[hb] at hc;have HC:=h_ hc;clear hc hf hb;go_wp2_with fail
 refine aj (HC.out _) λw2 U=>?_;have ax:=(kT.next U).alloc (.cells #[p1,p2,p3,p4,p5,p6] 175);have ba:=U.size;have aa:af w w (w2.alloc (.cells #[p1,p2,p3,p4,p5,p6] 175)):=by exact z_
 go_wp2;go_roundw
 case rel=>exact⟨v+1,rfl,o_,bs,ax,aa⟩
 case measure=>exact aJ):=h
def GL(h:P:=by
 have bs:=h_ (HN.out.row o_);go_wp2;go_roundw
 case rel=>exact⟨u+1,rfl,o_,bs,kT,hB⟩
 case measure=>exact aJ):=h
def gD(n u v:Int):Prop:=∀g v',1<=v'->v'<g->(g<u\/(g=u/\v'<v))->fm n g v'=false
def gD.start(n u)(hu:u<=2):gD n u 1:=λg v' h1 h2 h3=>by omega
def gD.next{n u v}(h:gD n u v)(hs:fm n u v=false):gD n u (v+1):=λg v' h1 h2 h3=>by
 by_cases h4:g<u\/(g=u/\v'<v)
 .exact h g v' h1 h2 h4
 .obtain rfl:g=u:=o_
  obtain rfl:v'=v:=o_
  exact hs
def gD.row{n u v}(h:gD n u v)(hv:u<=v):gD n (u+1) 1:=λg v' h1 h2 h3=>by
 by_cases h4:g<u
 .exact h g v' h1 h2 (.inl h4)
 .exact h g v' h1 h2 o_
def je(n m:Int)(p:Int×Int):Prop:=(1<=p.2/\p.2<p.1/\p.1<=m)/\fm n p.1 p.2=true/\gD n p.1 p.2
def je.uniq{n m}{p q:Int×Int}(h:je n m p)(k:je n m q):p=q:=by
 have⟨⟨h1,h2,_⟩,h3,h4⟩:=h;have⟨⟨k1,k2,_⟩,J,k4⟩:=k;by_cases a:q.1<p.1\/(q.1=p.1/\q.2<p.2)
 .have:=h4 q.1 q.2 k1 k2 a;rw[this] at J;cases J
 .by_cases b:p.1<q.1\/(p.1=q.1/\p.2<q.2)
  .have:=k4 p.1 p.2 h1 h2 b;rw[this] at h3;cases h3
  .have⟨p1,p2⟩:=p;have⟨q1,q2⟩:=q;simp only at a b;have e1:p1=q1:=o_;have e2:p2=q2:=o_;rw[e1,e2]
open Classical in
noncomputable def il(n m:Int):Bool:=decide (∃p,je n m p)
open Classical in
noncomputable def iH(n m:Int):Value:=if h:∃p,je n m p then md n (Classical.choose h).1 (Classical.choose h).2 else A4
def Fh{n m u v}(h:je n m (u,v)):il n m=true/\iH n m=md n u v:=by
 have he:∃p,je n m p:=⟨_,h⟩
 refine⟨by unfold il;simpa using he,?_⟩;unfold iH;rw[dif_pos he,je.uniq (Classical.choose_spec he) h]
def UF{n m}(h:gD n (m+1) 1):il n m=false/\iH n m=A4:=by
 have he:¬∃p,je n m p:=λ⟨p,⟨h1,h2,h3⟩,h4,_⟩=>by
  have:=h p.1 p.2 h1 h2 o_;rw[this] at h4;cases h4
 refine⟨by unfold il;simpa using he,?_⟩;unfold iH;rw[Y4 he]
def EI{w w'}{n m u v p1 p2 p3 p4 p5 p6:Int}(h:je n m (u,v))(hV:ma n u v=.agg #[p1,p2,p3,p4,p5,p6])(hb:af w.heap.size w w'):nj w (iH n m) (il n m) (.returned (.tuple #[.agg #[p1,p2,p3,p4,p5,p6],true])) w':=by
 have⟨h1,h2⟩:=Fh h;have:md n u v=.agg #[p1,p2,p3,p4,p5,p6]:=by
  have h3:fm n u v=true:=h.2.1;unfold ma at hV;rw[h3] at hV;exact hV
 rw[h1,h2,this];exact⟨rfl,hb⟩
def Ev{w w'}{n m}(h:gD n (m+1) 1)(hb:af w.heap.size w w'):nj w (iH n m) (il n m) (.returned (.tuple #[.agg #[(),(),(),(),(),()],false])) w':=by
 have⟨h1,h2⟩:=UF h;rw[h1,h2];exact⟨rfl,hb⟩
def Rj(n m):∃p q r s t g:Int,iH n m=.agg #[p,q,r,s,t,g]:=by
 unfold iH;split
 .exact tJ _ _ _ _ _ _
 .exact⟨0,0,0,0,0,0,rfl⟩
def CN(n m:Int)(hn:1<=n/\n<=31)(hm:2<=m/\m<=100)(w):
 Kp 188 #[n,m] w (nj w (iH n m) (il n m)):=by
 have⟨kT,J⟩:=ay w #[(),(),(),(),(),()] 175;go_enter func188,ntmps188;go_wp2;generalize w.alloc _=W at *;go_loopw [6] (λx wr=>∃u:Int,x=.int .i64 u/\(2<=u/\u<=m+1)/\Hid (gD n u 1)/\ah w #[(),(),(),(),(),()] 175 wr/\af w w wr) (λx _=>(m+1 - intOf x).toNat)
 case atStart=>exact⟨2,rfl,o_,gD.start n 2 o_,kT,J⟩
 case round=>
  obtain⟨u,rfl,hu,HN,kT,hB⟩:=hrel;by_cases ab:u<=m
  .obtain⟨wo,rfl⟩:∃wo:World,wo=wr:=⟨_,rfl⟩
   go_wp2;go_loopw [7] (λx wr=>∃v:Int,x=.int .i64 v/\(1<=v/\v<=u)/\Hid (gD n u v)/\ah w #[(),(),(),(),(),()] 175 wr/\af w w wr) (λx _=>(u - intOf x).toNat)
   case atStart=>exact⟨1,rfl,o_,HN,kT,hB⟩
   case round=>
    obtain⟨v,rfl,hv,HN,kT,hB⟩:=hrel;have hs:=hB.size;by_cases aF:v<u
    .have⟨p1,p2,p3,p4,p5,p6,hf⟩:=DK n u v;have HF:=h_ hf;have hc:=λw=>OX n u v hn o_ o_ w;rw[hf] at hc;cases hb:fm n u v
     .exact Lb
     .have hF:je n m (u,v):=⟨⟨hv.1,aF,ab⟩,hb,HN.out⟩
      have g:=h_ hF;rw[hb] at hc;go_wp2_with fail
      refine aj ((h_ hc).out _) λw2 U=>?_;have ax:=kT.next U
      have kN:=ah.new w2 #[p1,p2,p3,p4,p5,p6] 175;have aa:=ag U hs hB;have ad:=aa.size;have Z:=ax.alloc (.cells #[p1,p2,p3,p4,p5,p6] 175);have aM:af w w (w2.alloc (.cells #[p1,p2,p3,p4,p5,p6] 175)):=by exact z_
      go_upto_region 9 with fail
      generalize w2.alloc _=W3 at *;have⟨a4,a2,a6,bi,a8,a7⟩:=Z.q6;have⟨az,I,V,F,aG,G⟩:=Z.f6;have a1:=Z.lt;have⟨bp,bv,bz,bq,bo,bx⟩:=kN.q6;go_wp2;have R:=((((((Z.set 0 p1).set 1 p2).set 2 p3).set 3 p4).set 4 p5).set 5 p6)
      have hR:af w w ((((((W3.setCell w p1).setCell ⟨w,1,none⟩ p2).setCell ⟨w,2,none⟩ p3).setCell ⟨w,3,none⟩ p4).setCell ⟨w,4,none⟩ p5).setCell ⟨w,5,none⟩ p6):=by exact z_
      simp at R;generalize ((((((W3.setCell w p1).setCell ⟨w,1,none⟩ p2).setCell ⟨w,2,none⟩ p3).setCell ⟨w,3,none⟩ p4).setCell ⟨w,4,none⟩ p5).setCell ⟨w,5,none⟩ p6)=W9 at R hR ⊢;have⟨R0,R1,R2,R3,R4,R5⟩:=R.q6;exact Vk (v:=.tuple #[.agg #[p1,p2,p3,p4,p5,p6],true]) Jv rfl (EI g.out HF.out hR)
    .exact GL
  .obtain rfl:u=m+1:=o_
   have⟨aL,ac,ax,Z,H,ae⟩:=kT.q6;have⟨bb,a5,aX,aZ,a3,a9⟩:=kT.f6;have K:=kT.lt;go_wp2;have R:=((((((kT.set 0 ()).set 1 ()).set 2 ()).set 3 ()).set 4 ()).set 5 ())
   have hR:af w w ((((((wr.setCell w ()).setCell ⟨w,1,none⟩ ()).setCell ⟨w,2,none⟩ ()).setCell ⟨w,3,none⟩ ()).setCell ⟨w,4,none⟩ ()).setCell ⟨w,5,none⟩ ()):=by exact z_
   simp at R;generalize ((((((wr.setCell w ()).setCell ⟨w,1,none⟩ ()).setCell ⟨w,2,none⟩ ()).setCell ⟨w,3,none⟩ ()).setCell ⟨w,4,none⟩ ()).setCell ⟨w,5,none⟩ ())=W9 at R hR ⊢;have⟨R0,R1,R2,R3,R4,R5⟩:=R.q6;exact Vk (v:=.tuple #[.agg #[(),(),(),(),(),()],false]) Jv rfl (Ev HN.out hR)
def Bp(n m:Int)(hn:1<=n/\n<=31)(hm:2<=m/\m<=100)(w):
 Kp 219 #[n,m] w (nj w (iH n m) (il n m)):=by
 have⟨kT,J⟩:=ay w #[(),(),(),(),(),()] 175;go_enter func219,ntmps219;go_wp2;generalize w.alloc _=W at *;go_loopw [6] (λx wr=>∃u:Int,x=.int .i64 u/\(1<=u/\u<=m+1)/\Hid (gD n u 1)/\ah w #[(),(),(),(),(),()] 175 wr/\af w w wr) (λx _=>(m+1 - intOf x).toNat)
 case atStart=>exact⟨1,rfl,o_,gD.start n 1 o_,kT,J⟩
 case round=>
  obtain⟨u,rfl,hu,HN,kT,hB⟩:=hrel;by_cases ab:u<=m
  .obtain⟨wo,rfl⟩:∃wo:World,wo=wr:=⟨_,rfl⟩
   go_wp2;go_loopw [7] (λx wr=>∃v:Int,x=.int .i64 v/\(1<=v/\v<=u)/\Hid (gD n u v)/\ah w #[(),(),(),(),(),()] 175 wr/\af w w wr) (λx _=>(u - intOf x).toNat)
   case atStart=>exact⟨1,rfl,o_,HN,kT,hB⟩
   case round=>
    obtain⟨v,rfl,hv,HN,kT,hB⟩:=hrel;have hs:=hB.size;by_cases aF:v<u
    .have⟨p1,p2,p3,p4,p5,p6,hf⟩:=DK n u v;have HF:=h_ hf;have hc:=λw=>MF n u v hn o_ o_ w;rw[hf] at hc;cases hb:fm n u v
     .exact Lb
     .have hF:je n m (u,v):=⟨⟨hv.1,aF,ab⟩,hb,HN.out⟩
      have g:=h_ hF;rw[hb] at hc;go_wp2_with fail
      refine aj ((h_ hc).out _) λw2 U=>?_;have ax:=kT.next U
      have kN:=ah.new w2 #[p1,p2,p3,p4,p5,p6] 175;have aa:=ag U hs hB;have ad:=aa.size;have Z:=ax.alloc (.cells #[p1,p2,p3,p4,p5,p6] 175);have aM:af w w (w2.alloc (.cells #[p1,p2,p3,p4,p5,p6] 175)):=by exact z_
      go_upto_region 9 with fail
      generalize w2.alloc _=W3 at *;have⟨a4,a2,a6,bi,a8,a7⟩:=Z.q6;have⟨az,I,V,F,aG,G⟩:=Z.f6;have a1:=Z.lt;have⟨bp,bv,bz,bq,bo,bx⟩:=kN.q6;go_wp2;have R:=((((((Z.set 0 p1).set 1 p2).set 2 p3).set 3 p4).set 4 p5).set 5 p6)
      have hR:af w w ((((((W3.setCell w p1).setCell ⟨w,1,none⟩ p2).setCell ⟨w,2,none⟩ p3).setCell ⟨w,3,none⟩ p4).setCell ⟨w,4,none⟩ p5).setCell ⟨w,5,none⟩ p6):=by exact z_
      simp at R;generalize ((((((W3.setCell w p1).setCell ⟨w,1,none⟩ p2).setCell ⟨w,2,none⟩ p3).setCell ⟨w,3,none⟩ p4).setCell ⟨w,4,none⟩ p5).setCell ⟨w,5,none⟩ p6)=W9 at R hR ⊢;have⟨R0,R1,R2,R3,R4,R5⟩:=R.q6;exact Vk (v:=.tuple #[.agg #[p1,p2,p3,p4,p5,p6],true]) In rfl (EI g.out HF.out hR)
    .exact GL
  .obtain rfl:u=m+1:=o_
   have⟨aL,ac,ax,Z,H,ae⟩:=kT.q6;have⟨bb,a5,aX,aZ,a3,a9⟩:=kT.f6;have K:=kT.lt;go_wp2;have R:=((((((kT.set 0 ()).set 1 ()).set 2 ()).set 3 ()).set 4 ()).set 5 ())
   have hR:af w w ((((((wr.setCell w ()).setCell ⟨w,1,none⟩ ()).setCell ⟨w,2,none⟩ ()).setCell ⟨w,3,none⟩ ()).setCell ⟨w,4,none⟩ ()).setCell ⟨w,5,none⟩ ()):=by exact z_
   simp at R;generalize ((((((wr.setCell w ()).setCell ⟨w,1,none⟩ ()).setCell ⟨w,2,none⟩ ()).setCell ⟨w,3,none⟩ ()).setCell ⟨w,4,none⟩ ()).setCell ⟨w,5,none⟩ ())=W9 at R hR ⊢;have⟨R0,R1,R2,R3,R4,R5⟩:=R.q6;exact Vk (v:=.tuple #[.agg #[(),(),(),(),(),()],false]) In rfl (Ev HN.out hR)
noncomputable def jJ(n m:Int):Bool:=jz n&&aw m 2 100
def om{n m}(h:jJ n m=true):(1<=n/\n<=31)/\(2<=m/\m<=100):=by
 unfold jJ at h;simp at h;exact⟨Sk h.1,bO h.2⟩
def tR(n m:Int)(w):
 Rv 186 #[n,m] w (.bool (jJ n m)):=by
 unfold jJ;cases h1:jz n
 .go_enter func186,ntmps186;go_wp2_with ((go_at_call 241;refine aj (DE _ _) λw1 I=>?_))
  exact iC
 .go_enter func186,ntmps186;go_wp2_with fail
  (go_at_call 241;refine aj (DE _ _) λw1 I=>?_)
  go_wp2_with ((go_at_call 104;refine aA (cK _ _ _ _) ?_))
  exact iC
def rn{n}(h:n<=5):(1:Int)<=4 ^ n/\(4:Int) ^ n<=1024:=by
 have:n=0\/n=1\/n=2\/n=3\/n=4\/n=5:=o_
 rcases this with h|h|h|h|h|h<;>subst h<;>decide
def PO(n:Nat)(hn:n<=5)(w):
 Rw 269 #[(4:Int),n] w (.int .i64 ((4:Int) ^ n)):=by
 go_enter func269,ntmps269;go_upto_region 3 with fail
 go_loop [5,7] (λov iv=>∃(i:Nat) (o:Int),i<=n/\ov=.int .i64 o/\iv=.int .i64 i/\(1<=o/\o<=1024)/\Hid (o=4 ^ i)) (λ_ iv=>n - (intOf iv).toNat)
 case atStart=>exact⟨0,1,o_,rfl,rfl,o_,h_ rfl⟩
 case round=>
  obtain⟨i,o,hi,rfl,rfl,Z,hO⟩:=hrel;by_cases aG:i<n
  .have b3:(i:Int)<(n:Int):=o_;have bx:Hid (o*4=4 ^ (i+1)):=h_ (by rw[VR,hO.out]);have hb:=rn (n:=i+1) o_;rw[<-bx.out] at hb;go_wp2;go_round
   case rel=>exact⟨i+1,o*4,o_,by go_num,by go_num,o_,bx⟩
   case measure=>exact aJ
  .have b3:¬(i:Int)<(n:Int):=o_;have aX:i=n:=o_;have bx:=aX▸hO;go_wp2;exact Vk (v:=.int .i64 o) (by simp [results,results269,go_sem]) rfl ⟨by rw[bx.out],rfl⟩
def QH(n:Nat)(hn:n<=5)(w):
 Rw 240 #[n] w (.int .i64 (3*(4:Int) ^ n)):=by
 go_enter func240,ntmps240;go_upto_region 2 with fail
 go_loop [0,3] (λiv ov=>∃(i:Nat) (o:Int),i<=n/\ov=.int .i64 o/\iv=.int .i64 i/\(3<=o/\o<=3072)/\Hid (o=3*4 ^ (n - i))) (λiv _=>(intOf iv).toNat)
 case atStart=>exact⟨n,3,Vj _,rfl,rfl,o_,h_ s_⟩
 case round=>
  obtain⟨i,o,hi,rfl,rfl,Z,hO⟩:=hrel;by_cases aG:0<i
  .have bx:Hid (o*4=3*4 ^ (n - (i - 1))):=h_ (by
    rw[show n - (i - 1)=(n - i)+1 by omega,VR,<-Wd,<-hO.out])
   have hb:=rn (n:=n - (i - 1)) o_;have ab:=bx.out;have g:3<=o*4/\o*4<=3072:=o_;go_wp2;go_round
   case rel=>exact⟨i - 1,o*4,o_,by go_num,by first|go_num|(congr 1;omega),o_,bx⟩
   case measure=>exact aJ
  .have b3:¬(0:Int)<(i:Int):=o_;have aX:i=0:=o_;have bx:=h_ (by have:=hO.out;rw[aX,Zx] at this;exact this);go_wp2;exact Vk (v:=.int .i64 o) (by simp [results,results240,go_sem]) rfl ⟨by rw[bx.out],rfl⟩
structure Dr (B k)(v)(xs)(n)(w0)(bl:List (Nat×Array Value×TypeId))(w):Prop where
 cur:ib B k v xs n w
 ovr:ai [k] w0 w
 mem:bU bl w
 far:∀b∈bl,b.1≠k/\w0.heap.size<=b.1/\B<=b.1
 dif:bl.Pairwise (λa b=>a.1≠b.1)
section
variable {B k n:Nat}{v:Value}{xs:List Int}{w0 w w1:World}{bl:List (Nat×Array Value×TypeId)}{S:Nat}{cs:Array Value}{T:TypeId}
def Dr.skip(d:Dr B k v xs n w0 bl w)(o:Obj):Dr B k v xs n w0 bl (w.alloc o):=
 ⟨d.cur.below ((Vn _ _).alloc (Vj _) _),d.ovr.alloc o,λx hx=>(d.mem x hx).alloc o,d.far,d.dif⟩
def Dr.go{m}(d:Dr B k v xs n w0 bl w)(hc:ib B k v xs m w1)(Z:ai [k] w w1):Dr B k v xs m w0 bl w1:=
 ⟨hc,d.ovr.trans Z,λx hx=>(d.mem x hx).over Z (by simpa using (d.far x hx).1),d.far,d.dif⟩
def Dr.below(d:Dr B k v xs n w0 bl w)(hb:af w w w1):Dr B k v xs n w0 bl w1:=d.go (d.cur.below hb) (.of_below hb)
def Dr.le{m}(d:Dr B k v xs n w0 bl w)(h:n<=m):Dr B k v xs m w0 bl w:=⟨d.cur.le h,d.ovr,d.mem,d.far,d.dif⟩
end
section
variable {B k n:Nat}{v:Value}{xs:List Int}{w0 w w1:World}{bl:List (Nat×Array Value×TypeId)}{S:Nat}{T:TypeId}{a b c:Value}
def Dr.out(d:Dr w0 k v xs n w0 bl w):af w0 w0 w:=
 d.ovr.belowGe (Vn _ _) (Vj _) (by have:=d.cur.1;simpa using this)
def Dr.make0(h:RdB w w v xs):Dr w w v xs 0 w [] (w.alloc (.cells #[v,(),.int .u64 0] 74)):=
 ⟨ib.new h,(ai.refl _ _).alloc _,(λ_ hx=>(Zd hx).elim),(λ_ hb=>(Zd hb).elim),List.Pairwise.nil⟩
end
def Ve(B k:Nat)(v:Value)(xs:List Int)(n:Nat)(w0:World)(bl:List (Nat×Array Value×TypeId))(lo hi:Int)(e:Ending)(w':World):Prop:=
 ∃b:Int,e=.returned b/\(lo<=b/\b<=hi)/\Dr B k v xs n w0 bl w'
def U1(B k:Nat)(v:Value)(xs:List Int)(n:Nat)(w0:World)(bl:List (Nat×Array Value×TypeId))(e:Ending)(w':World):Prop:=
 ∃b:Bool,e=.returned b/\Dr B k v xs n w0 bl w'
section
variable {B k n:Nat}{v:Value}{xs:List Int}{w0 w:World}{bl:List (Nat×Array Value×TypeId)}
def pE(d:Dr B k v xs n w0 bl w)(hn:n<=900000)(m:Int)(hm:0<=m/\m<=1000000):
 Kp 45 #[.pointer k,m] w (Ve B k v xs (n+2) w0 bl 0 (if m<=1 then 0 else m - 1)):=
 (y_ B k v xs n hn m hm w d.cur).mono λ_ _ ⟨b,h1,h2,h3,h4,h5⟩=>⟨b,h1,⟨h2,h3⟩,d.go h4 h5⟩
def Hz(d:Dr B k v xs n w0 bl w)(hn:n<=900000)(m:Int)(hm:0<=m/\m<=1000000):
 Kp 44 #[.pointer k,m] w (U1 B k v xs (n+2) w0 bl):=
 (UL B k v xs n hn m hm w d.cur).mono λ_ _ ⟨b,h1,h4,h5⟩=>⟨b,h1,d.go h4 h5⟩
def Ac(B k:Nat)(v:Value)(xs:List Int)(n:Nat)(w0:World)(bl:List (Nat×Array Value×TypeId))(m:Nat)(e:Ending)(w':World):Prop:=
 ∃s:ak,e=.returned s/\s.size<=m/\Dr B k v xs n w0 bl w'
def U7(d:Dr B k v xs n w0 bl w)(hn:n<=900000)(L:bW)(hL:1<=L.length/\L.length<=200)(m)(hm:∀s∈L,s.size<=m)(g)(hg:g≠k)(hk:ah g (L.map Value.string).toArray 9 w):
 Kp 58 #[.pointer k,.slice g L.length L.length] w (Ac B k v xs (n+2) w0 bl m):=by
 have h1:=hL.1;have h2:=hL.2;go_enter func58,ntmps58;go_wp2_with fail
 refine (h_ (y_ B k v xs n hn L.length ⟨o_,o_⟩ w d.cur)).out.mono ?_;rintro e w2 ⟨x,rfl,x0,x1,bb,o2⟩;obtain⟨i,rfl⟩:=Wr x0;have hi:i<L.length:=by split at x1<;>omega
 have aL:(i:Int)<(L.length:Int):=o_;have H:w2.cell? ⟨g,i,none⟩=some (.string L[i]):=by
  rw[(hk.over o2 (by simpa using hg)).cell i];simp [hi]
 have aa:=hm _ (VC hi);generalize L[i]=y at H aa;go_wp2;go_ret;exact⟨y,rfl,aa,d.go bb o2⟩
end
def vD(h:P:=by simp [results,results193,go_sem]):=h
def iY(X Y E:Int):Prop:=(-10000<=X/\X<=10000)/\(-3000000<=Y/\Y<=3000000)/\(0<=E/\E<=20)
def tD(X Y E:Int)(hY:-3000000<=Y/\Y<=3000000)(w:World):
 Rv 137 #[.agg #[X,Y,E]] w (.agg #[X,(-Y:Int),E]):=by
 go_enter func137,ntmps137;go_wp2;refine Vk (v:=.agg #[X,(-Y:Int),E]) (by simp [results,results137,go_sem]) rfl ⟨rfl,?_⟩;exact z_
def slN(A X1 Y1 E1 X2 Y2 E2:Int):Int:=if X1=X2/\Y1=Y2/\E1=E2 then 3*X1*X1+A*E1*E1*E1*E1 else Y2*E1*E1*E1 - Y1*E2*E2*E2
def slD(X1 Y1 E1 X2 Y2 E2:Int):Int:=if X1=X2/\Y1=Y2/\E1=E2 then 2*Y1*E1 else E1*E2*(X2*E1*E1 - X1*E2*E2)
def fH{x e:Int}(b:Int)(hx:-b<=x/\x<=b)(he:0<=e/\e<=20):(-(b*20)<=x*e/\x*e<=b*20)/\(-(b*400)<=x*e*e/\x*e*e<=b*400)/\(-(b*8000)<=x*e*e*e/\x*e*e*e<=b*8000)/\(-(b*160000)<=x*e*e*e*e/\x*e*e*e*e<=b*160000):=by
 have h1:=aN (x:=x) (y:=e) b 20 hx o_;have h2:=aN (x:=x*e) (y:=e) (b*20) 20 o_ o_;have h3:=aN (x:=x*e*e) (y:=e) (b*400) 20 o_ o_;have h4:=aN (x:=x*e*e*e) (y:=e) (b*8000) 20 o_ o_;omega
def Mh{A X1 Y1 E1 X2 Y2 E2:Int}(h:X1=X2/\Y1=Y2/\E1=E2):slN A X1 Y1 E1 X2 Y2 E2=3*X1*X1+A*E1*E1*E1*E1/\slD X1 Y1 E1 X2 Y2 E2=2*Y1*E1:=by unfold slN slD;rw[Vo h,Vo h];exact⟨rfl,rfl⟩
def Me{A X1 Y1 E1 X2 Y2 E2:Int}(h:¬(X1=X2/\Y1=Y2/\E1=E2)):slN A X1 Y1 E1 X2 Y2 E2=Y2*E1*E1*E1 - Y1*E2*E2*E2/\slD X1 Y1 E1 X2 Y2 E2=E1*E2*(X2*E1*E1 - X1*E2*E2):=by unfold slN slD;rw[Vm h,Vm h];exact⟨rfl,rfl⟩
def NH(A B X Y E:Int)(hA:bh A)(G:iY X Y E)(w:World):
 Rv 193 #[.agg #[A,B],.agg #[X,Y,E],.agg #[X,Y,E]] w (.tuple #[(3*X*X+A*E*E*E*E:Int),(2*Y*E:Int)]):=by
 obtain⟨hX,hY,hE⟩:=G;obtain⟨a1,a2,a3,a4⟩:=fH 1000 (x:=A) (e:=E) o_ hE;have x1:=aN (x:=3*X) (y:=X) 30000 10000 o_ o_;have y1:=aN (x:=2*Y) (y:=E) 6000000 20 o_ o_;obtain⟨kA,kP,kQ,J⟩:=fv w #[A,B] 42 #[X,Y,E] 46 #[X,Y,E] 46;have a6:=J.size;go_enter func193,ntmps193;go_upto_region 1 with fail
 generalize ((w.alloc _).alloc _).alloc _=W at *;have l1:=kA.lt;have l2:=kP.lt;have l3:=kQ.lt;generalize w.heap.size+1+1=rQ at *;generalize w.heap.size+1=rP at *;have c0:W.cell? ⟨w.heap.size,0,none⟩=some (.int .i64 A):=kA.cell 0;have⟨p0,p1,p2⟩:=kP.q3;have⟨q0,q1,q2⟩:=kQ.q3;go_wp2
 (refine bR k_ k_ ?_;(repeat (go_big_quiet_step (fail)));refine wpQuiet_nil ?_;intro w8 ca;obtain⟨fx,fr⟩:=bu ca;have d8:=ca.size;(try simp only[VG] at d8))
 go_wp2;refine Vk (v:=.tuple #[(3*X*X+A*E*E*E*E:Int),(2*Y*E:Int)]) vD rfl ?_;exact⟨rfl,ag ca a6 J⟩
def Nt(A B X1 Y1 E1 X2 Y2 E2:Int)(G:iY X1 Y1 E1)(hq:iY X2 Y2 E2)(hne:¬(X1=X2/\Y1=Y2/\E1=E2))(w:World):
 Rv 193 #[.agg #[A,B],.agg #[X1,Y1,E1],.agg #[X2,Y2,E2]] w (.tuple #[(Y2*E1*E1*E1 - Y1*E2*E2*E2:Int),(E1*E2*(X2*E1*E1 - X1*E2*E2):Int)]):=by
 obtain⟨c4,cB,bs⟩:=G;obtain⟨da,cZ,bq⟩:=hq;obtain⟨a1,a2,a3,_⟩:=fH 3000000 (x:=Y2) (e:=E1) o_ bs;obtain⟨b1,b2,b3,_⟩:=fH 3000000 (x:=Y1) (e:=E2) o_ bq;obtain⟨c1,c2,_,_⟩:=fH 10000 (x:=X2) (e:=E1) o_ bs;obtain⟨d1,d2,_,_⟩:=fH 10000 (x:=X1) (e:=E2) o_ bq;have e1:=aN (x:=E1) (y:=E2) 20 20 o_ o_;have e2:=aN (x:=E1*E2) (y:=X2*E1*E1 - X1*E2*E2) 400 8000000 o_ o_;by_cases h1:X1=X2
 .subst h1;by_cases h2:Y1=Y2
  .subst h2;have h3:¬(E1=E2):=λh=>hne ⟨rfl,rfl,h⟩;clear hne;go_enter func193,ntmps193;go_wp2;refine Vk (v:=.tuple #[(Y1*E1*E1*E1 - Y1*E2*E2*E2:Int),(E1*E2*(X1*E1*E1 - X1*E2*E2):Int)]) vD rfl ⟨rfl,?_⟩;exact z_
  .clear hne;go_enter func193,ntmps193;go_wp2;refine Vk (v:=.tuple #[(Y2*E1*E1*E1 - Y1*E2*E2*E2:Int),(E1*E2*(X1*E1*E1 - X1*E2*E2):Int)]) vD rfl ⟨rfl,?_⟩;exact z_
 .clear hne;go_enter func193,ntmps193;go_wp2;refine Vk (v:=.tuple #[(Y2*E1*E1*E1 - Y1*E2*E2*E2:Int),(E1*E2*(X2*E1*E1 - X1*E2*E2):Int)]) vD rfl ⟨rfl,?_⟩;exact z_
def Lm(h:P:=by
 obtain⟨z1,z2,z3,z4⟩:=fH 1000 (x:=A) (e:=E1) o_ bs;have x1:=aN (x:=3*X1) (y:=X1) 30000 10000 o_ o_;have y1:=aN (x:=2*Y1) (y:=E1) 6000000 20 o_ o_;obtain⟨a1,a2,a3,_⟩:=fH 3000000 (x:=Y2) (e:=E1) o_ bs;obtain⟨b1,b2,b3,_⟩:=fH 3000000 (x:=Y1) (e:=E2) o_ bq;obtain⟨c1,c2,_,_⟩:=fH 10000 (x:=X2) (e:=E1) o_ bs;obtain⟨d1,d2,_,_⟩:=fH 10000 (x:=X1) (e:=E2) o_ bq;have e1:=aN (x:=E1) (y:=E2) 20 20 o_ o_;have e2:=aN (x:=E1*E2) (y:=X2*E1*E1 - X1*E2*E2) 400 8000000 o_ o_;unfold slN slD;split<;>omega):=h
def fX(A X1 Y1 E1 X2 Y2 E2:Int):Int:=(slN A X1 Y1 E1 X2 Y2 E2).tdiv (au (slN A X1 Y1 E1 X2 Y2 E2) (slD X1 Y1 E1 X2 Y2 E2))
def eW(A X1 Y1 E1 X2 Y2 E2:Int):Int:=(slD X1 Y1 E1 X2 Y2 E2).tdiv (au (slN A X1 Y1 E1 X2 Y2 E2) (slD X1 Y1 E1 X2 Y2 E2))
def dU(n m X1 E1 X2 E2:Int):Int:=n*n*(E1*E1*E2*E2)+-(m*m*(X1*E2*E2+X2*E1*E1))
def fk(m E1 E2:Int):Int:=m*m*(E1*E1*E2*E2)
def eN(A B X Y E:Int):Prop:=(-10000<=X/\X<=10000)/\(1<=E/\E<=20)/\au X E=1/\(-3000000<=Y/\Y<=3000000)/\Y*Y=cvV A B X E
def uD{x e}{K}(h:au x e=1)(h2:e*e∣x*K):e*e∣K:=by
 have h1:=by
  unfold au at h;have:Int.gcd x e=1:=o_
  exact (Y_.1 this)
 have h3:=Nat.Coprime.mul_left h1 h1;rw[<-XP,V_,V_] at h2;rw[<-XP,V_];exact h3.dvd_of_dvd_mul_left h2
def T_{X1 E1 X2 E2}(h1:au X1 E1=1)(h2:au X2 E2=1)(p1:1<=E1)(p2:1<=E2)(h:X2*E1*E1=X1*E2*E2):X1=X2/\E1=E2:=by
 have d1:E1*E1∣E2*E2:=uD h1 ⟨X2,by grind⟩;have d2:E2*E2∣E1*E1:=uD h2 ⟨X1,by grind⟩;have q2:=VK (show 0<E2 by omega) (show 0<E2 by omega);have e1:=Ys q2 d1;have e2:=Ys (VK (show 0<E1 by omega) (show 0<E1 by omega)) d2;have e3:E1*E1=E2*E2:=o_;have e4:E1=E2:=by
  rcases YX E1 E2 with hh|hh|hh
  .have:=Int.mul_lt_mul hh (Wc hh) o_ o_;omega
  .exact hh
  .have:=Int.mul_lt_mul hh (Wc hh) o_ o_;omega
 subst e4;refine⟨?_,rfl⟩;have:(X2 - X1)*(E1*E1)=0:=by grind
 rcases WQ.1 this with h|h<;>omega
def zV{A B X1 Y1 E1 X2 Y2 E2}(G:eN A B X1 Y1 E1)(hq:eN A B X2 Y2 E2)(a4:¬(X1=X2/\Y1=-Y2/\E1=E2)):slD X1 Y1 E1 X2 Y2 E2≠0:=by
 have⟨_,bs,g1,_,c1⟩:=G;have⟨da,bq,g2,cZ,c2⟩:=hq;unfold slD;split
 .rename_i h;obtain⟨rfl,rfl,rfl⟩:=h;intro h0;rcases WQ.1 h0 with h|h
  .exact a4 ⟨rfl,o_,rfl⟩
  .omega
 .rename_i h;intro h0;have h3:X2*E1*E1 - X1*E2*E2=0:=by
   rcases WQ.1 h0 with h|h
   .rcases WQ.1 h with h|h<;>omega
   .exact h
  obtain⟨rfl,rfl⟩:=T_ g1 g2 bs.1 bq.1 o_;have h4:(Y1 - Y2)*(Y1+Y2)=0:=by rw[<-c2] at c1;grind
  rcases WQ.1 h4 with h5|h5
  .exact h ⟨rfl,o_,rfl⟩
  .exact a4 ⟨rfl,o_,rfl⟩
def E8{a b}(h:au a b≠0):au (a.tdiv (au a b)) (b.tdiv (au a b))=1:=by
 unfold au at *;have e:∀x:Int,(x.tdiv (Int.gcd a b:Nat)).natAbs=x.natAbs / Int.gcd a b:=λx=>by rw[Zm];rfl
 unfold Int.gcd at *;rw[e a,e b,Nat.gcd_div (Za _ _) (Yn _ _),Nat.div_self o_];rfl
def Dt{n m x e X1 E1 X2 E2}(hc:au n m=1)(c4:a_ X1)(da:a_ X2)(hx:a_ x)(bs:1<=E1/\E1<=20)(bq:1<=E2/\E2<=20)(he:1<=e/\e<=20)
 (h:(n*n*(E1*E1*E2*E2)+-(m*m*(X1*E2*E2+X2*E1*E1)))*(e*e)=m*m*(E1*E1*E2*E2)*x):(-8000<=m/\m<=8000)/\(-2000000000<=n/\n<=2000000000):=by
 have k:n*n*(E1*E1*E2*E2*(e*e))=m*m*(x*(E1*E1*E2*E2)+(e*e)*(X1*E2*E2+X2*E1*E1)):=by grind
 have d1:m*m∣n*(n*(E1*E1*E2*E2*(e*e))):=⟨_,by rw[<-k];grind⟩
 have d2:=uD hc (uD hc d1);have a1:=aN 20 20 (x:=E1) (y:=E1) o_ o_;have a2:=aN 400 20 (x:=E1*E1) (y:=E2) o_ o_;have a3:=aN 8000 20 (x:=E1*E1*E2) (y:=E2) o_ o_;have a4:=aN 20 20 (x:=e) (y:=e) o_ o_;have a5:=aN 160000 400 (x:=E1*E1*E2*E2) (y:=e*e) o_ o_;have p2:=VK (VK (VK (show 0<E1 by omega) (show 0<E1 by omega)) (show 0<E2 by omega)) (show 0<E2 by omega);have p4:=VK p2 (VK (show 0<e by omega) (show 0<e by omega));have l1:=Ys p4 d2;have cy:-8000<=m/\m<=8000:=by
  constructor
  .rcases VJ m (-8000) with hh|hh
   .have:=Vs (show 8001<=-m by omega) (show 8001<=-m by omega) o_ o_;rw[V8] at this;omega
   .exact hh
  .rcases VJ 8000 m with hh|hh
   .have:=Vs (show 8001<=m by omega) (show 8001<=m by omega) o_ o_;omega
   .exact hh
 refine⟨cy,?_⟩;have b1:=aN 8000 8000 (x:=m) (y:=m) o_ o_;have b2:=aN 10000 160000 (x:=x) (y:=E1*E1*E2*E2) o_ o_;have b3:=aN 10000 20 (x:=X1) (y:=E2) o_ o_;have b4:=aN 200000 20 (x:=X1*E2) (y:=E2) o_ o_;have b5:=aN 10000 20 (x:=X2) (y:=E1) o_ o_;have b6:=aN 200000 20 (x:=X2*E1) (y:=E1) o_ o_;have b7:=aN 400 8000000 (x:=e*e) (y:=X1*E2*E2+X2*E1*E1) o_ o_;have b8:=aN 64000000 4800000000 (x:=m*m) (y:=x*(E1*E1*E2*E2)+(e*e)*(X1*E2*E2+X2*E1*E1)) o_ o_;have n0:0<=n*n:=by rcases YB 0 n with hh|hh;exact VP hh hh;have:=VP (show 0<=-n by omega) (show 0<=-n by omega);rwa [V8] at this
 have n1:n*n*1<=n*n*(E1*E1*E2*E2*(e*e)):=VW o_ n0;have n2:n*n<=307200000000000000:=o_;constructor
 .rcases VJ n (-2000000000) with hh|hh
  .have:=Vs (show 2000000000<=-n by omega) (show 2000000000<=-n by omega) o_ o_;rw[V8] at this;omega
  .exact hh
 .rcases VJ 2000000000 n with hh|hh
  .have:=Vs (show 2000000000<=n by omega) (show 2000000000<=n by omega) o_ o_;omega
  .exact hh
def eN.ptIn{A B X Y E}(h:eN A B X Y E):iY X Y E:=⟨h.1,h.2.2.2.1,by have:=h.2.1;omega⟩
def Fa{A X1 Y1 E1 X2 Y2 E2}(hA:bh A)(G:iY X1 Y1 E1)(hq:iY X2 Y2 E2):(-48000000000<=slN A X1 Y1 E1 X2 Y2 E2/\slN A X1 Y1 E1 X2 Y2 E2<=48000000000)/\(-3200000000<=slD X1 Y1 E1 X2 Y2 E2/\slD X1 Y1 E1 X2 Y2 E2<=3200000000):=by
 have⟨c4,cB,bs⟩:=G;have⟨da,cZ,bq⟩:=hq;exact Lm
def Sm{A B X1 Y1 E1 X2 Y2 E2}(hA:bh A)(G:eN A B X1 Y1 E1)(hq:eN A B X2 Y2 E2)(a4:¬(X1=X2/\Y1=-Y2/\E1=E2)):
 au (slN A X1 Y1 E1 X2 Y2 E2) (slD X1 Y1 E1 X2 Y2 E2)≠0/\(-48000000000<=fX A X1 Y1 E1 X2 Y2 E2/\fX A X1 Y1 E1 X2 Y2 E2<=48000000000)/\(-3200000000<=eW A X1 Y1 E1 X2 Y2 E2/\eW A X1 Y1 E1 X2 Y2 E2<=3200000000)/\
 (∀e x:Int,(1<=e/\e<=20)->(-10000<=x/\x<=10000)->dU (fX A X1 Y1 E1 X2 Y2 E2) (eW A X1 Y1 E1 X2 Y2 E2) X1 E1 X2 E2*(e*e)=fk (eW A X1 Y1 E1 X2 Y2 E2) E1 E2*x->(-8000<=eW A X1 Y1 E1 X2 Y2 E2/\eW A X1 Y1 E1 X2 Y2 E2<=8000)/\(-2000000000<=fX A X1 Y1 E1 X2 Y2 E2/\fX A X1 Y1 E1 X2 Y2 E2<=2000000000)):=by
 have hd:au (slN A X1 Y1 E1 X2 Y2 E2) (slD X1 Y1 E1 X2 Y2 E2)≠0:=by have:=(nY (slN A X1 Y1 E1 X2 Y2 E2) _ (.inr (zV G hq a4))).1;omega
 have⟨b1,b2⟩:=Fa hA G.ptIn hq.ptIn;have t1:=mW (slN A X1 Y1 E1 X2 Y2 E2) (au (slN A X1 Y1 E1 X2 Y2 E2) (slD X1 Y1 E1 X2 Y2 E2));have t2:=mW (slD X1 Y1 E1 X2 Y2 E2) (au (slN A X1 Y1 E1 X2 Y2 E2) (slD X1 Y1 E1 X2 Y2 E2));refine⟨hd,by unfold fX;omega,by unfold eW;omega,λe x he hx h=>?_⟩;exact Dt (E8 hd) G.1 hq.1 hx G.2.1 hq.2.1 he h
def jI(A B X Y E:Int):Prop:=(X=0/\Y=0/\E=0)\/eN A B X Y E
def sd(h:P:=by simp [results,results112,go_sem]):=h
def uZ(h:P:=by
 go_enter func112,ntmps112;go_wp2;refine Vk (v:=.tuple #[(1:Int),()]) sd rfl ⟨rfl,?_⟩;exact z_):=h
def CV(X Y E:Int)(hY:-3000000<=Y/\Y<=3000000)(w:World):
 Rv 76 #[.agg #[X,Y,E]] w (.agg #[X,(-Y:Int),E]):=by
 go_enter func76,ntmps76;go_wp2;refine Vk (v:=.agg #[X,(-Y:Int),E]) (by simp [results,results76,go_sem]) rfl ⟨rfl,?_⟩;exact z_
def nP(n d:Int)(hd:d≠0)(hn:iZ n)(K:iZ d)(w:World):
 Rv 114 #[n,d] w (.tuple #[bc n d,aO n d]):=by
 obtain⟨f1,f2,f3,f4⟩:=yq hd hn K;have HA:=h_ (D0 n d);have aa:-4000000000000000000<=n.tdiv (bK n d)/\n.tdiv (bK n d)<=4000000000000000000:=f3;have U:-4000000000000000000<=d.tdiv (bK n d)/\d.tdiv (bK n d)<=4000000000000000000:=f4;have ab:(bK n d==0)=false:=by simpa using f1
 show Kp 114 _ w λe w'=>e=.returned (.tuple #[(n.tdiv (bK n d):Int),(d.tdiv (bK n d):Int)])/\af w w w';have hG:(d<0/\bK n d=-au n d)\/(0<=d/\bK n d=au n d):=by unfold bK;split<;>omega
 clear hd f3 f4;generalize bK n d=g at *;rcases hG with ⟨hs,hg⟩|⟨hs,hg⟩
 all_goals
  go_enter func114,ntmps114;go_wp2_with (first|(go_at_call 113;refine (lK _ o_ _).mono ?_;rintro e w' ⟨rfl,rfl⟩)|(go_at_call 169;refine (nJ _ _ o_ o_ _).mono ?_;rintro e w' ⟨rfl,rfl⟩;rw[HA.out]))
  rw[<-hg];clear hg;have w1:IntKind.i64.wrap (n.tdiv g)=n.tdiv g:=Wg _ o_;have w2:IntKind.i64.wrap (d.tdiv g)=d.tdiv g:=Wg _ o_
  go_still k_
  go_wp2;refine Vk (v:=.tuple #[(n.tdiv g:Int),(d.tdiv g:Int)]) (by simp [results,results114,go_sem]) rfl ⟨rfl,?_⟩;exact (Vn w.heap.size w).drew
def Kv{A X1 Y1 E1 X2 Y2 E2:Int}(h:X1=X2/\Y1=Y2/\E1=E2):slN A X1 Y1 E1 X2 Y2 E2=3*X1*X1+A*E1*E1*E1*E1/\slD X1 Y1 E1 X2 Y2 E2=2*Y1*E1:=by unfold slN slD;rw[Vo h,Vo h];exact⟨rfl,rfl⟩
def KE{A X1 Y1 E1 X2 Y2 E2:Int}(h:¬(X1=X2/\Y1=Y2/\E1=E2)):slN A X1 Y1 E1 X2 Y2 E2=Y2*E1*E1*E1 - Y1*E2*E2*E2/\slD X1 Y1 E1 X2 Y2 E2=E1*E2*(X2*E1*E1 - X1*E2*E2):=by unfold slN slD;rw[Vm h,Vm h];exact⟨rfl,rfl⟩
def kZ(n d:Int):Int:=if d=0 then 1 else bc n d
def ll(n d:Int):Int:=if d=0 then 0 else aO n d
def Qx(A B X1 Y1 E1 X2 Y2 E2:Int)(hA:bh A)(G:iY X1 Y1 E1)(hq:iY X2 Y2 E2)(w:World):
 Rv 112 #[.agg #[A,B],.agg #[X1,Y1,E1],.agg #[X2,Y2,E2]] w (.tuple #[kZ (slN A X1 Y1 E1 X2 Y2 E2) (slD X1 Y1 E1 X2 Y2 E2),ll (slN A X1 Y1 E1 X2 Y2 E2) (slD X1 Y1 E1 X2 Y2 E2)]):=by
 obtain⟨-,-,-,J⟩:=qo w #[A,B] 42 #[X1,Y1,E1] 46 #[X2,Y2,E2] 46;obtain⟨c4,cB,bs⟩:=G;obtain⟨da,cZ,bq⟩:=hq;obtain⟨a1,a2,a3,_⟩:=fH 3000000 (x:=Y2) (e:=E1) o_ bs;obtain⟨b1,b2,b3,_⟩:=fH 3000000 (x:=Y1) (e:=E2) o_ bq;obtain⟨c1,c2,_,_⟩:=fH 10000 (x:=X2) (e:=E1) o_ bs;obtain⟨d1,d2,_,_⟩:=fH 10000 (x:=X1) (e:=E2) o_ bq;have e1:=aN (x:=E1) (y:=E2) 20 20 o_ o_;have e2:=aN (x:=E1*E2) (y:=X2*E1*E1 - X1*E2*E2) 400 8000000 o_ o_;by_cases h:X1=X2/\Y1=Y2/\E1=E2
 .rw[(Kv (A:=A) h).1,(Kv (A:=A) h).2];obtain⟨rfl,rfl,rfl⟩:=h;obtain⟨z1,z2,z3,z4⟩:=fH 1000 (x:=A) (e:=E1) o_ bs;have x1:=aN (x:=3*X1) (y:=X1) 30000 10000 o_ o_;have y1:=aN (x:=2*Y1) (y:=E1) 6000000 20 o_ o_;by_cases hz:2*Y1*E1=0
  .rw[show kZ (3*X1*X1+A*E1*E1*E1*E1) (2*Y1*E1)=1 from Vo hz,show ll (3*X1*X1+A*E1*E1*E1*E1) (2*Y1*E1)=0 from Vo hz];exact uZ
  .rw[show kZ (3*X1*X1+A*E1*E1*E1*E1) (2*Y1*E1)=bc (3*X1*X1+A*E1*E1*E1*E1) (2*Y1*E1) from Vm hz,show ll (3*X1*X1+A*E1*E1*E1*E1) (2*Y1*E1)=aO (3*X1*X1+A*E1*E1*E1*E1) (2*Y1*E1) from Vm hz];have HE:=h_ (nP (3*X1*X1+A*E1*E1*E1*E1) (2*Y1*E1) hz o_ o_);go_enter func112,ntmps112;go_wp2_with fail
   refine aj (HE.out _) λw1 I=>?_;go_wp2;refine Vk (v:=.tuple #[(bc (3*X1*X1+A*E1*E1*E1*E1) (2*Y1*E1):Int),(aO (3*X1*X1+A*E1*E1*E1*E1) (2*Y1*E1):Int)]) sd rfl ?_;exact qb
 .rw[(KE (A:=A) h).1,(KE (A:=A) h).2];clear hA;by_cases h1:X1=X2
  .subst h1;by_cases h2:Y1=Y2
   .subst h2;have h3:¬(E1=E2):=λk=>h ⟨rfl,rfl,k⟩;clear h;by_cases hz:E1*E2*(X1*E1*E1 - X1*E2*E2)=0
    .rw[show kZ (Y1*E1*E1*E1 - Y1*E2*E2*E2) (E1*E2*(X1*E1*E1 - X1*E2*E2))=1 from Vo hz,show ll (Y1*E1*E1*E1 - Y1*E2*E2*E2) (E1*E2*(X1*E1*E1 - X1*E2*E2))=0 from Vo hz];exact uZ
    .rw[show kZ (Y1*E1*E1*E1 - Y1*E2*E2*E2) (E1*E2*(X1*E1*E1 - X1*E2*E2))=bc (Y1*E1*E1*E1 - Y1*E2*E2*E2) (E1*E2*(X1*E1*E1 - X1*E2*E2)) from Vm hz,show ll (Y1*E1*E1*E1 - Y1*E2*E2*E2) (E1*E2*(X1*E1*E1 - X1*E2*E2))=aO (Y1*E1*E1*E1 - Y1*E2*E2*E2) (E1*E2*(X1*E1*E1 - X1*E2*E2)) from Vm hz];have HE:=h_ (nP (Y1*E1*E1*E1 - Y1*E2*E2*E2) (E1*E2*(X1*E1*E1 - X1*E2*E2)) hz o_ o_);go_enter func112,ntmps112;go_wp2_with fail
     refine aj (HE.out _) λw1 I=>?_;go_wp2;refine Vk (v:=.tuple #[(bc (Y1*E1*E1*E1 - Y1*E2*E2*E2) (E1*E2*(X1*E1*E1 - X1*E2*E2)):Int),(aO (Y1*E1*E1*E1 - Y1*E2*E2*E2) (E1*E2*(X1*E1*E1 - X1*E2*E2)):Int)]) sd rfl ?_;exact qb
   .clear h;by_cases hz:E1*E2*(X1*E1*E1 - X1*E2*E2)=0
    .rw[show kZ (Y2*E1*E1*E1 - Y1*E2*E2*E2) (E1*E2*(X1*E1*E1 - X1*E2*E2))=1 from Vo hz,show ll (Y2*E1*E1*E1 - Y1*E2*E2*E2) (E1*E2*(X1*E1*E1 - X1*E2*E2))=0 from Vo hz];exact uZ
    .rw[show kZ (Y2*E1*E1*E1 - Y1*E2*E2*E2) (E1*E2*(X1*E1*E1 - X1*E2*E2))=bc (Y2*E1*E1*E1 - Y1*E2*E2*E2) (E1*E2*(X1*E1*E1 - X1*E2*E2)) from Vm hz,show ll (Y2*E1*E1*E1 - Y1*E2*E2*E2) (E1*E2*(X1*E1*E1 - X1*E2*E2))=aO (Y2*E1*E1*E1 - Y1*E2*E2*E2) (E1*E2*(X1*E1*E1 - X1*E2*E2)) from Vm hz];have HE:=h_ (nP (Y2*E1*E1*E1 - Y1*E2*E2*E2) (E1*E2*(X1*E1*E1 - X1*E2*E2)) hz o_ o_);go_enter func112,ntmps112;go_wp2_with fail
     refine aj (HE.out _) λw1 I=>?_;go_wp2;refine Vk (v:=.tuple #[(bc (Y2*E1*E1*E1 - Y1*E2*E2*E2) (E1*E2*(X1*E1*E1 - X1*E2*E2)):Int),(aO (Y2*E1*E1*E1 - Y1*E2*E2*E2) (E1*E2*(X1*E1*E1 - X1*E2*E2)):Int)]) sd rfl ?_;exact qb
  .clear h;by_cases hz:E1*E2*(X2*E1*E1 - X1*E2*E2)=0
   .rw[show kZ (Y2*E1*E1*E1 - Y1*E2*E2*E2) (E1*E2*(X2*E1*E1 - X1*E2*E2))=1 from Vo hz,show ll (Y2*E1*E1*E1 - Y1*E2*E2*E2) (E1*E2*(X2*E1*E1 - X1*E2*E2))=0 from Vo hz];exact uZ
   .rw[show kZ (Y2*E1*E1*E1 - Y1*E2*E2*E2) (E1*E2*(X2*E1*E1 - X1*E2*E2))=bc (Y2*E1*E1*E1 - Y1*E2*E2*E2) (E1*E2*(X2*E1*E1 - X1*E2*E2)) from Vm hz,show ll (Y2*E1*E1*E1 - Y1*E2*E2*E2) (E1*E2*(X2*E1*E1 - X1*E2*E2))=aO (Y2*E1*E1*E1 - Y1*E2*E2*E2) (E1*E2*(X2*E1*E1 - X1*E2*E2)) from Vm hz];have HE:=h_ (nP (Y2*E1*E1*E1 - Y1*E2*E2*E2) (E1*E2*(X2*E1*E1 - X1*E2*E2)) hz o_ o_);go_enter func112,ntmps112;go_wp2_with fail
    refine aj (HE.out _) λw1 I=>?_;go_wp2;refine Vk (v:=.tuple #[(bc (Y2*E1*E1*E1 - Y1*E2*E2*E2) (E1*E2*(X2*E1*E1 - X1*E2*E2)):Int),(aO (Y2*E1*E1*E1 - Y1*E2*E2*E2) (E1*E2*(X2*E1*E1 - X1*E2*E2)):Int)]) sd rfl ?_;exact qb
def AN(h:P:=by simp [results,results77,go_sem,q0,q1,q2]):=h
def Gb(h:P:=by
 generalize (setCell (setCell (setCell _ _ _) _ _) _ _)=w9 at k9 ad ⊢;clear t0 t1 t2 z0 z1 z2;have⟨q0,q1,q2⟩:=k9.q3;refine Vk (v:=.tuple #[.agg #[(),(),()],false]) AN rfl ?_;exact⟨rfl,bv.out▸ad⟩):=h
def GH(h:P:=by
 have U:=Vn w3.heap.size w3;go_upto_region 14 with fail
 have l9:=V.lt;have jR:=V.next U
 have⟨z0,z1,z2⟩:=jR.f3;have⟨t0,t1,t2⟩:=jR.q3;have k9:=((jR.set 0 ()).set 1 ()).set 2 ();have ad:af rC w (((w3.setCell ⟨rR,0,none⟩ ()).setCell ⟨rR,1,none⟩ ()).setCell ⟨rR,2,none⟩ ()):=(((ag U o_ F).setCell u_ _).setCell u_ _).setCell u_ _
 (repeat (first|go_skip|go_guarded|go_step))
 exact Gb):=h
def Li(h:P:=by
 simp only[kY] at aa;subst aa;exact GH):=h
def Lc(h:P:=by
 have U:=Vn w1.heap.size w1;go_upto_region 9 with fail
 have l9:=V.lt;have jR:=V.next U
 have⟨z0,z1,z2⟩:=jR.f3;have⟨t0,t1,t2⟩:=jR.q3;have k9:=((jR.set 0 ()).set 1 ()).set 2 ();have ad:af rC w (((w1.setCell ⟨rR,0,none⟩ ()).setCell ⟨rR,1,none⟩ ()).setCell ⟨rR,2,none⟩ ()):=(((ag U o_ F).setCell u_ _).setCell u_ _).setCell u_ _
 (repeat (first|go_skip|go_guarded|go_step))
 exact Gb):=h
def DJ{d G:Int}(hG:0<G)(h:G∣d)(hd:0<d):1<=d.tdiv G:=by
 obtain⟨k,rfl⟩:=h;rw[Yb _ o_];rcases VJ 0 k with h|h
 .omega
 .have:=VP (show 0<=G by omega) (show 0<=-k by omega);rw[XV] at this;omega
def lJ{n d:Int}(hd:d≠0):1<=aO n d:=by
 have hg:0<Int.gcd n d:=YA.2 (.inr hd);have h2:((Int.gcd n d:Nat):Int)∣d:=Wi n d;unfold aO bK au;split
 .rw[YC,<-Int.neg_tdiv];exact DJ o_ (Zq.2 h2) o_
 .exact DJ o_ h2 o_
def pS(n d:Int):(bc n d).natAbs<=n.natAbs/\(aO n d).natAbs<=d.natAbs:=⟨mW _ _,mW _ _⟩
def dH(n d X1 E1 X2 E2:Int):Int:=n*n*(E1*E1)*(E2*E2) - X1*d*d*(E2*E2) - X2*d*d*(E1*E1)
def dG(d E1 E2:Int):Int:=d*d*(E1*E1)*(E2*E2)
def dM(n X1 E1 x e:Int):Int:=n*(X1*e*e - x*(E1*E1))
def dJ(d E1 e:Int):Int:=d*(E1*E1)*e*e
def eO(u v Y1 E1:Int):Int:=u*(E1*E1)*E1 - Y1*v
def eY(v E1:Int):Int:=v*(E1*E1)*E1
def wO(y bo e:Int):Int:=wrap64 (y*(e*e*e).tdiv bo)
def tf(n d X1 Y1 E1 x e:Int):Int:=wO (bc (eO (bc (dM n X1 E1 x e) (dJ d E1 e)) (aO (dM n X1 E1 x e) (dJ d E1 e)) Y1 E1) (eY (aO (dM n X1 E1 x e) (dJ d E1 e)) E1)) (aO (eO (bc (dM n X1 E1 x e) (dJ d E1 e)) (aO (dM n X1 E1 x e) (dJ d E1 e)) Y1 E1) (eY (aO (dM n X1 E1 x e) (dJ d E1 e)) E1)) e
noncomputable def oJ(n d X1 Y1 E1 X2 E2:Int):Option (Int×Int×Int):=
 if 8000<d\/200*d<n.natAbs then none
 else if aq (aO (dH n d X1 E1 X2 E2) (dG d E1 E2))*aq (aO (dH n d X1 E1 X2 E2) (dG d E1 E2))=aO (dH n d X1 E1 X2 E2) (dG d E1 E2)/\aq (aO (dH n d X1 E1 X2 E2) (dG d E1 E2))<=20/\aw (bc (dH n d X1 E1 X2 E2) (dG d E1 E2)) (-10000) 10000=true then
  some (bc (dH n d X1 E1 X2 E2) (dG d E1 E2),tf n d X1 Y1 E1 (bc (dH n d X1 E1 X2 E2) (dG d E1 E2)) (aq (aO (dH n d X1 E1 X2 E2) (dG d E1 E2))),aq (aO (dH n d X1 E1 X2 E2) (dG d E1 E2)))
 else none
noncomputable def oO(A X1 Y1 E1 X2 Y2 E2:Int):Option (Int×Int×Int):=
 if slD X1 Y1 E1 X2 Y2 E2=0 then some (0,0,0) else oJ (bc (slN A X1 Y1 E1 X2 Y2 E2) (slD X1 Y1 E1 X2 Y2 E2)) (aO (slN A X1 Y1 E1 X2 Y2 E2) (slD X1 Y1 E1 X2 Y2 E2)) X1 Y1 E1 X2 E2
def kY:Option (Int×Int×Int)->Value
 |some (x,y,e)=>.tuple #[.agg #[.int .i64 x,.int .i64 y,.int .i64 e],.bool true]
 |none=>.tuple #[.agg #[.int .i64 0,.int .i64 0,.int .i64 0],.bool false]
def Qh(A B X1 Y1 E1 X2 Y2 E2:Int)(hA:bh A)(G:iY X1 Y1 E1)(hq:iY X2 Y2 E2)(h1:1<=E1)(h2:1<=E2)(w:World):
 Rv 77 #[.agg #[A,B],.agg #[X1,Y1,E1],.agg #[X2,Y2,E2]] w (kY (oO A X1 Y1 E1 X2 Y2 E2)):=by
 have el:=h_ (Qx A B X1 Y1 E1 X2 Y2 E2 hA G hq);obtain⟨kC,kP,kQ,V,F⟩:=Bb w #[A,B] 42 #[X1,Y1,E1] 46 #[X2,Y2,E2] 46 #[(),(),()] 46;have a6:=F.size;obtain⟨c4,cB,bs⟩:=G;obtain⟨da,cZ,bq⟩:=hq;have g1:(E1==0)=false:=u_;have g2:(E2==0)=false:=u_;have a8:=Fa (X1:=X1) (Y1:=Y1) (E1:=E1) (X2:=X2) (Y2:=Y2) (E2:=E2) hA ⟨c4,cB,bs⟩ ⟨da,cZ,bq⟩;have HS:Hid (oO A X1 Y1 E1 X2 Y2 E2=if slD X1 Y1 E1 X2 Y2 E2=0 then some (0,0,0) else oJ (bc (slN A X1 Y1 E1 X2 Y2 E2) (slD X1 Y1 E1 X2 Y2 E2)) (aO (slN A X1 Y1 E1 X2 Y2 E2) (slD X1 Y1 E1 X2 Y2 E2)) X1 Y1 E1 X2 E2):=rfl;generalize aa:kY (oO A X1 Y1 E1 X2 Y2 E2)=cz;have ba:Hid (kY (if slD X1 Y1 E1 X2 Y2 E2=0 then some (0,0,0) else oJ (bc (slN A X1 Y1 E1 X2 Y2 E2) (slD X1 Y1 E1 X2 Y2 E2)) (aO (slN A X1 Y1 E1 X2 Y2 E2) (slD X1 Y1 E1 X2 Y2 E2)) X1 Y1 E1 X2 E2)=cz):=h_ (by rw[<-HS.out];exact aa);clear aa HS;generalize slN A X1 Y1 E1 X2 Y2 E2=n0 at *;generalize slD X1 Y1 E1 X2 Y2 E2=m0 at *;go_enter func77,ntmps77;go_upto_region 1 with fail
 generalize (((w.alloc _).alloc _).alloc _).alloc _=W at *;have e4:w.heap.size<=w.heap.size+1+1+1:=o_;generalize w.heap.size+1+1+1=rR at *;generalize w.heap.size+1+1=rQ at *;generalize w.heap.size+1=rP at *;generalize a9:w.heap.size=rC at *;have bv:Hid (w.heap.size=rC):=a9;clear a9;have lR:=V.lt;have lP:=kP.lt;have lQ:=kQ.lt;have lC:=kC.lt;have⟨p0,p1,p2⟩:=kP.q3;have⟨q0,q1,q2⟩:=kQ.q3;have⟨c0,c1⟩:=kC.q2;have hz:=a6;go_wp2_with fail
 refine aj (el.out _) λw1 I=>?_;clear el c0 c1 kC lC;by_cases hm:m0=0
 .have aa:=ba.out;rw[Vo hm] at aa;simp only[kY] at aa;subst aa;rw[show kZ n0 m0=1 from Vo hm,show ll n0 m0=0 from Vo hm];clear p0 p1 p2 q0 q1 q2 kP kQ a8 hm ba;go_upto_region 7 with fail
  have l9:=V.lt;have jR:=V.next I
  have⟨z0,z1,z2⟩:=jR.f3;have⟨t0,t1,t2⟩:=jR.q3;have k9:=((jR.set 0 ()).set 1 ()).set 2 ();have ad:af rC w (((w1.setCell ⟨rR,0,none⟩ ()).setCell ⟨rR,1,none⟩ ()).setCell ⟨rR,2,none⟩ ()):=(((ag I o_ F).setCell u_ _).setCell u_ _).setCell u_ _
  (repeat (first|go_skip|go_guarded|go_step))
  generalize (setCell (setCell (setCell _ _ _) _ _) _ _)=w9 at k9 ad ⊢;clear t0 t1 t2 z0 z1 z2;have⟨q0,q1,q2⟩:=k9.q3;refine Vk (v:=.tuple #[.agg #[(),(),()],true]) AN rfl ?_;exact⟨rfl,bv.out▸ad⟩
 .rw[show kZ n0 m0=bc n0 m0 from Vm hm,show ll n0 m0=aO n0 m0 from Vm hm];have H:=ba.out;rw[Vm hm] at H;have b3:=lJ (n:=n0) hm;obtain⟨cF,bp⟩:=pS n0 m0;have cA:-48000000000<=bc n0 m0/\bc n0 m0<=48000000000:=o_;have bi:1<=aO n0 m0/\aO n0 m0<=3200000000:=o_;clear ba a8 hm cF bp b3;generalize bc n0 m0=n at *;generalize aO n0 m0=d at *;have cb:=h_ H;clear H;replace F:=ag I o_ F;replace kP:=kP.next I
  replace kQ:=kQ.next I
  replace V:=V.next I
  clear p0 p1 p2 q0 q1 q2 I;replace hz:=V.lt;have⟨p0,p1,p2⟩:=kP.q3;have⟨q0,q1,q2⟩:=kQ.q3;have ac:=h_ (lK n o_);by_cases b0:8000<d
  .have aa:=cb.out;unfold oJ at aa;rw[Vo (.inl b0)] at aa;simp only[kY] at aa;subst aa;exact Lc
  .by_cases cy:200*d<n.natAbs
   .have aa:=cb.out;unfold oJ at aa;rw[Vo (.inr cy)] at aa;simp only[kY] at aa;subst aa;go_wp2_with fail
    refine (ac.out _).mono ?_;rintro e w2 ⟨rfl,rfl⟩;exact Lc
   .go_wp2_with fail
    refine (ac.out _).mono ?_;rintro e w2 ⟨rfl,rfl⟩;replace cA:-1600000<=n/\n<=1600000:=o_;replace bi:1<=d/\d<=8000:=o_;have g:Hid (kY (if aq (aO (dH n d X1 E1 X2 E2) (dG d E1 E2))*aq (aO (dH n d X1 E1 X2 E2) (dG d E1 E2))=aO (dH n d X1 E1 X2 E2) (dG d E1 E2)/\aq (aO (dH n d X1 E1 X2 E2) (dG d E1 E2))<=20/\aw (bc (dH n d X1 E1 X2 E2) (dG d E1 E2)) (-10000) 10000=true then
     some (bc (dH n d X1 E1 X2 E2) (dG d E1 E2),tf n d X1 Y1 E1 (bc (dH n d X1 E1 X2 E2) (dG d E1 E2)) (aq (aO (dH n d X1 E1 X2 E2) (dG d E1 E2))),aq (aO (dH n d X1 E1 X2 E2) (dG d E1 E2))) else none)=cz):=by
     have h:=cb.out;unfold oJ at h;rw[Vm o_] at h;exact h
    clear cb ac;have fV:=aN (x:=E1) (y:=E1) 20 20 o_ o_;have fy:=aN (x:=E2) (y:=E2) 20 20 o_ o_;have m1:=aN (x:=n) (y:=n) 1600000 1600000 o_ o_;have m2:=aN (x:=n*n) (y:=E1*E1) 2560000000000 400 o_ o_;have m3:=aN (x:=n*n*(E1*E1)) (y:=E2*E2) 1024000000000000 400 o_ o_;have m4:=aN (x:=X1) (y:=d) 10000 8000 o_ o_;have m5:=aN (x:=X1*d) (y:=d) 80000000 8000 o_ o_;have m6:=aN (x:=X1*d*d) (y:=E2*E2) 640000000000 400 o_ o_;have m7:=aN (x:=X2) (y:=d) 10000 8000 o_ o_;have m8:=aN (x:=X2*d) (y:=d) 80000000 8000 o_ o_;have m9:=aN (x:=X2*d*d) (y:=E1*E1) 640000000000 400 o_ o_;have aL:=aN (x:=d) (y:=d) 8000 8000 o_ o_;have aG:=aN (x:=d*d) (y:=E1*E1) 64000000 400 o_ o_;have aZ:=aN (x:=d*d*(E1*E1)) (y:=E2*E2) 25600000000 400 o_ o_;have hT:-500000000000000000<=dH n d X1 E1 X2 E2/\dH n d X1 E1 X2 E2<=500000000000000000:=by unfold dH;omega
    have hB:1<=dG d E1 E2/\dG d E1 E2<=10240000000000:=by
     have r1:=VK (show 0<d by omega) (show 0<d by omega);have r2:=VK r1 (VK (show 0<E1 by omega) (show 0<E1 by omega));have r3:=VK r2 (VK (show 0<E2 by omega) (show 0<E2 by omega));unfold dG;omega
    have a4:=h_ (nP (dH n d X1 E1 X2 E2) (dG d E1 E2) o_ o_ o_);have eT:n*n*(E1*E1)*(E2*E2) - X1*d*d*(E2*E2) - X2*d*d*(E1*E1)=dH n d X1 E1 X2 E2:=rfl;have eB:d*d*(E1*E1)*(E2*E2)=dG d E1 E2:=rfl;have dq:=(pS (dH n d X1 E1 X2 E2) (dG d E1 E2))
    have bX:=lJ (n:=dH n d X1 E1 X2 E2) (d:=dG d E1 E2) o_;go_upto_region 10 with fail
    have lP:=kP.lt;have lQ:=kQ.lt
    (refine bR k_ k_ ?_;(repeat (go_big_quiet_step (fail)));refine wpQuiet_nil ?_;intro w8 ca;obtain⟨fx,fr⟩:=bu ca;have d8:=ca.size;(try simp only[VG] at d8))
    replace F:=ag ca o_ F;replace kP:=kP.next ca
    replace kQ:=kQ.next ca
    replace V:=V.next ca
    clear p0 p1 p2 q0 q1 q2 ca;replace hz:=V.lt;have⟨p0,p1,p2⟩:=kP.q3;have⟨q0,q1,q2⟩:=kQ.q3;clear fx fr;go_wp2_with fail
    refine aj (a4.out _) λw3 aF=>?_;replace F:=ag aF o_ F;replace kP:=kP.next aF
    replace kQ:=kQ.next aF
    replace V:=V.next aF
    clear p0 p1 p2 q0 q1 q2 aF;replace hz:=V.lt;have⟨p0,p1,p2⟩:=kP.q3;have⟨q0,q1,q2⟩:=kQ.q3;clear eT eB a4 m1 m2 m3 m4 m5 m6 m7 m8 m9 aL aG aZ;have a2:-500000000000000000<=bc (dH n d X1 E1 X2 E2) (dG d E1 E2)/\bc (dH n d X1 E1 X2 E2) (dG d E1 E2)<=500000000000000000:=o_;have b5:1<=aO (dH n d X1 E1 X2 E2) (dG d E1 E2)/\aO (dH n d X1 E1 X2 E2) (dG d E1 E2)<=10240000000000:=o_;clear dq bX hT hB;generalize bc (dH n d X1 E1 X2 E2) (dG d E1 E2)=x at *;generalize aO (dH n d X1 E1 X2 E2) (dG d E1 E2)=q at *;have bY:=h_ (pg q o_);have b7:=nU (n:=q) o_;have a3:=oh (n:=q) (b:=3200001) o_ o_ o_;have bz:=lu q;generalize aq q=e at *;have b4:=aN (x:=e) (y:=e) 3200001 3200001 o_ o_;go_wp2_with fail
    refine (bY.out _).mono ?_;rintro e' w4 ⟨rfl,rfl⟩;clear bY;have co:=h_ (cK x (-10000) 10000);by_cases ax:e*e=q
    .by_cases e9:e<=20
     .cases aX:aw x (-10000) 10000
      .have aa:=g.out;rw[Vm (λh=>by rw[aX] at h;exact Bool.noConfusion h.2.2)] at aa;simp only[kY] at aa;subst aa;rw[aX] at co;go_wp2_with fail
       refine (co.out _).mono ?_;rintro e' w4 ⟨rfl,rfl⟩;exact GH
      .have aa:=g.out;rw[Vo ⟨ax,e9,aX⟩] at aa;simp only[kY] at aa;rw[aX] at co;have az:=bO aX;go_wp2_with fail
       refine (co.out _).mono ?_;rintro e' w4 ⟨rfl,rfl⟩;have Z:1<=e:=by
        rcases VJ 0 e with h|h
        .omega
        .have:e=0:=o_
         rw[this] at ax;omega
       have x1:=aN (x:=X1) (y:=e) 10000 20 o_ o_;have x2:=aN (x:=X1*e) (y:=e) 200000 20 o_ o_;have x3:=aN (x:=x) (y:=E1*E1) 10000 400 o_ o_;have x4:=aN (x:=n) (y:=X1*e*e - x*(E1*E1)) 1600000 8000000 o_ o_;have v1:=aN (x:=d) (y:=E1*E1) 8000 400 o_ o_;have v2:=aN (x:=d*(E1*E1)) (y:=e) 3200000 20 o_ o_;have v3:=aN (x:=d*(E1*E1)*e) (y:=e) 64000000 20 o_ o_;have hU:-12800000000000<=dM n X1 E1 x e/\dM n X1 E1 x e<=12800000000000:=by unfold dM;omega
       have hV:1<=dJ d E1 e/\dJ d E1 e<=1280000000:=by
        have r1:=VK (show 0<d by omega) (VK (show 0<E1 by omega) (show 0<E1 by omega));have r2:=VK (VK r1 (show 0<e by omega)) (show 0<e by omega);unfold dJ;omega
       have eU:n*(X1*e*e - x*(E1*E1))=dM n X1 E1 x e:=rfl;have eV:d*(E1*E1)*e*e=dJ d E1 e:=rfl;have a1:=h_ (nP (dM n X1 E1 x e) (dJ d E1 e) o_ o_ o_);have HW:Hid (tf n d X1 Y1 E1 x e=wO (bc (eO (bc (dM n X1 E1 x e) (dJ d E1 e)) (aO (dM n X1 E1 x e) (dJ d E1 e)) Y1 E1) (eY (aO (dM n X1 E1 x e) (dJ d E1 e)) E1)) (aO (eO (bc (dM n X1 E1 x e) (dJ d E1 e)) (aO (dM n X1 E1 x e) (dJ d E1 e)) Y1 E1) (eY (aO (dM n X1 E1 x e) (dJ d E1 e)) E1)) e):=rfl;rw[HW.out] at aa;have K:=h_ aa;have bx:=pS (dM n X1 E1 x e) (dJ d E1 e);have aM:=lJ (n:=dM n X1 E1 x e) (d:=dJ d E1 e) o_;clear aa HW g co;go_wp2_with fail
       refine (a1.out _).mono ?_;rintro e' w5 ⟨rfl,ae⟩;replace F:=ag ae o_ F;replace kP:=kP.next ae
       replace kQ:=kQ.next ae
       replace V:=V.next ae
       clear p0 p1 p2 q0 q1 q2 ae;replace hz:=V.lt;have⟨p0,p1,p2⟩:=kP.q3;have⟨q0,q1,q2⟩:=kQ.q3;clear a1 eU eV x1 x2 x3 x4 v1 v2 v3;have b9:-12800000000000<=bc (dM n X1 E1 x e) (dJ d E1 e)/\bc (dM n X1 E1 x e) (dJ d E1 e)<=12800000000000:=o_;have c6:1<=aO (dM n X1 E1 x e) (dJ d E1 e)/\aO (dM n X1 E1 x e) (dJ d E1 e)<=1280000000:=o_;clear bx aM hU hV;generalize bc (dM n X1 E1 x e) (dJ d E1 e)=u at *;generalize aO (dM n X1 E1 x e) (dJ d E1 e)=v at *;have y1:=aN (x:=u) (y:=E1*E1) 12800000000000 400 o_ o_;have y2:=aN (x:=u*(E1*E1)) (y:=E1) 5120000000000000 20 o_ o_;have y3:=aN (x:=Y1) (y:=v) 3000000 1280000000 o_ o_;have y4:=aN (x:=v) (y:=E1*E1) 1280000000 400 o_ o_;have y5:=aN (x:=v*(E1*E1)) (y:=E1) 512000000000 20 o_ o_;have hG:-110000000000000000<=eO u v Y1 E1/\eO u v Y1 E1<=110000000000000000:=by unfold eO;omega
       have hH:1<=eY v E1/\eY v E1<=10240000000000:=by
        have r1:=VK (VK (show 0<v by omega) (VK (show 0<E1 by omega) (show 0<E1 by omega))) (show 0<E1 by omega);unfold eY;omega
       have eG:u*(E1*E1)*E1 - Y1*v=eO u v Y1 E1:=rfl;have eH:v*(E1*E1)*E1=eY v E1:=rfl;have a5:=h_ (nP (eO u v Y1 E1) (eY v E1) o_ o_ o_);have cc:=pS (eO u v Y1 E1) (eY v E1);have bZ:=lJ (n:=eO u v Y1 E1) (d:=eY v E1) o_;go_wp2_with fail
       refine (a5.out _).mono ?_;rintro e' w6 ⟨rfl,ab⟩;replace F:=ag ab o_ F;replace kP:=kP.next ab
       replace kQ:=kQ.next ab
       replace V:=V.next ab
       clear p0 p1 p2 q0 q1 q2 ab;replace hz:=V.lt;have⟨p0,p1,p2⟩:=kP.q3;have⟨q0,q1,q2⟩:=kQ.q3;clear a5 eG eH y1 y2 y3 y4 y5 p0 p1 p2 q0 q1 q2;have b1:-110000000000000000<=bc (eO u v Y1 E1) (eY v E1)/\bc (eO u v Y1 E1) (eY v E1)<=110000000000000000:=o_;have b8:1<=aO (eO u v Y1 E1) (eY v E1)/\aO (eO u v Y1 E1) (eY v E1)<=10240000000000:=o_;clear cc bZ hG hH;generalize bc (eO u v Y1 E1) (eY v E1)=y at *;generalize aO (eO u v Y1 E1) (eY v E1)=bo at *;clear ax b7;have k1:=aN (x:=e) (y:=e) 20 20 o_ o_;have k2:=aN (x:=e*e) (y:=e) 400 20 o_ o_;have J:=mW (e*e*e) bo;have k4:IntKind.i64.wrap ((e*e*e).tdiv bo)=(e*e*e).tdiv bo:=Wg _ o_;have b6:(bo==0)=false:=u_;have b2:bo≠0:=o_;have aa:=K.out;unfold wO at aa;subst aa;clear K;have a7:=Vn w6.heap.size w6;go_upto_region 17 with fail
       have l9:=V.lt;have jR:=V.next a7
       have⟨z0,z1,z2⟩:=jR.f3;have⟨t0,t1,t2⟩:=jR.q3;have k9:=((jR.set 0 x).set 1 (wrap64 (y*(e*e*e).tdiv bo):Int)).set 2 e;have ad:af rC w (((w6.setCell ⟨rR,0,none⟩ x).setCell ⟨rR,1,none⟩ (wrap64 (y*(e*e*e).tdiv bo):Int)).setCell ⟨rR,2,none⟩ e):=(((ag a7 o_ F).setCell u_ _).setCell u_ _).setCell u_ _
       (repeat (first|go_skip|go_guarded|go_step))
       generalize (setCell (setCell (setCell _ _ _) _ _) _ _)=w9 at k9 ad ⊢;clear t0 t1 t2 z0 z1 z2;have⟨q0,q1,q2⟩:=k9.q3;refine Vk (v:=.tuple #[.agg #[x,(wrap64 (y*(e*e*e).tdiv bo):Int),e],true]) AN rfl ?_;exact⟨rfl,bv.out▸ad⟩
     .have aa:=g.out;rw[Vm (λh=>e9 h.2.1)] at aa;exact Li
    .have aa:=g.out;rw[Vm (λh=>ax h.1)] at aa;exact Li
end Go.Proofs.YtaamhakdhaolmaaGreatDoor
