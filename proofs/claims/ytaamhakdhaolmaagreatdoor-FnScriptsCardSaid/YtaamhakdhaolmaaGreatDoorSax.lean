/- Part 23. -/
import Derived.Test.YtaamhakdhaolmaaGreatDoorShelf
import Derived.Test.YtaamhakdhaolmaaGreatDoorSaj
import Derived.Test.YtaamhakdhaolmaaGreatDoorSaw
namespace Go.Proofs.YtaamhakdhaolmaaGreatDoor
open Go.RowKit Go.Proofs.Tryz
open World(setCell)
set_option maxHeartbeats 8000000
set_option maxRecDepth 100000
variable {P:Prop}
set_option linter.all false
def IW(h:P:=by simp [results,results308,go_sem]):=h
def TN{L}(h:Dg L)(hl:L.length<=2)(k):(0<=vl (L.drop k)/\vl (L.drop k)<=99999999)/\(1<=k->vl (L.drop k)<=9999):=by
 have h0:Dg (L.drop k):=λx hx=>h x (Xf hx);have h2:=Dg.lt h0;rw[WF] at h2;refine⟨⟨h0.nn,?_⟩,λhk=>?_⟩
 .have h3:(10000:Int) ^ (L.length - k)<=10000 ^ 2:=by
   have:L.length - k=0\/L.length - k=1\/L.length - k=2:=o_
   rcases this with h|h|h<;>rw[h]<;>decide
  omega
 .have h3:(10000:Int) ^ (L.length - k)<=10000 ^ 1:=by
   have:L.length - k=0\/L.length - k=1:=o_
   rcases this with h|h<;>rw[h]<;>decide
  omega
def RH{L:List Int}{j}(h:j<L.length):vl (L.drop j)=(L[j]?.getD 0)+10000*vl (L.drop (j+1)):=by
 rw[WG h,Vv h];rfl
def Ke{x k}(h:k<(dg x).length):10000 ^ k<=x:=by
 by_cases h1:x<10000 ^ k
 .have:=ft h1;omega
 .omega
def Uu{x}(h:(dg x).length<=1):(dg x)[0]?.getD 0=(x:Int)/\x<10000:=by
 have h1:=(ke x).2.2;have hd:=(ke x).1;cases hL:dg x with
 |nil=>rw[hL] at h1;simp [vl] at h1;exact⟨u_,o_⟩
 |cons a l=>
  rw[hL] at h h1 hd;have hl:l=[]:=VY.1 (by rw[VA] at h;omega);subst hl;have:=hd.head;simp [vl] at h1;simp;omega
def uU{x k}(h:(dg x).length<=k):ct x<=14*k:=by
 refine zb _ _ ?_;have h1:Sz k (x:Int):=wu h;have h2:x<10000 ^ k:=h1;have h3:(10000:Nat) ^ k<=(2 ^ 14) ^ k:=Nat.pow_le_pow_left d_ k;rw[<-Nat.pow_mul] at h3;omega
def E_{x k d}(h:(dg x).length<=k):(dg (x / d)).length<=k:=by
 have h1:Sz k (x:Int):=wu h;have h2:x<10000 ^ k:=h1;exact ft (Nat.lt_of_le_of_lt (Zo x d) h2)
def qr.nat{x d:Nat}{r}{w}{e}{w'}(h:qr ((x) / (d)) r w e w'):∃sl H,e=.returned (.tuple #[.agg #[false,.slice sl (dg (x / d)).length H],r])/\aW w' w (.slice sl (dg (x / d)).length H) (dg (x / d))/\af w w w':=by
 obtain⟨v,h1,⟨lv,rfl,h2⟩,h3⟩:=h;rw[<-Int.natCast_ediv] at h1 h2;have e1:decide (((x / d:Nat):Int)<0)=false:=We (Y0.2 (Int.natCast_nonneg _));rw[e1] at h1;obtain⟨sl,H,rfl,_⟩:=id h2.1;exact⟨sl,H,h1,h2,h3⟩
def dP.nat{x:Nat}{w}{e}{w'}(h:dP (x) w e w'):∃sl H,e=.returned (.agg #[false,.slice sl (dg x).length H])/\aW w' w (.slice sl (dg x).length H) (dg x)/\af w w w':=by
 obtain⟨v,h1,⟨lv,rfl,h2⟩,h3⟩:=h;have e1:decide ((x:Int)<0)=false:=s_;rw[e1] at h1;obtain⟨sl,H,rfl,_⟩:=id h2.1;exact⟨sl,H,h1,h2,h3⟩
def Ce(N)(a)(hN:(dg N.natAbs).length<=100000)(w)(ha:br N a w):
 Kp 343 #[a] w (dP (N.natAbs:Int) w):=by
 obtain⟨la,rfl,a3⟩:=ha;have⟨kA,kS,J⟩:=cO w #[decide (N<0),la] 182 #[false,.slice none 0 0] 182;generalize decide (N<0)=sa at *;have a6:=J.size;have HT:=h_ (λW (hb:af w w W)=>((mg false la (dg N.natAbs) o_ W ((h_ a3).out.below hb)).mono λe w' h=>dP.nat (h.whole (N:=(N.natAbs:Int)) (.inl s_) (by rw[rE];rfl))));generalize hx:N.natAbs=x at *;go_enter func343,ntmps343;go_upto_region 1 with fail
 generalize (w.alloc _).alloc _=W,b7:w.heap.size+1=rs at *;have⟨_,a1⟩:=kA.q2;go_wp2_with fail
 refine (HT.out W J).mono ?_;rintro e w1 ⟨sl,H,rfl,Z,I⟩;have aZ:=kS.next I
 have⟨c0,c1⟩:=aZ.q2;have⟨z0,z1⟩:=aZ.f2;have aL:=ag I a6 J;have k9:=(aZ.set 0 false).set 1 (.slice sl (dg x).length H);have ad:af w w ((w1.setCell rs false).setCell ⟨rs,1,none⟩ (.slice sl (dg x).length H)):=(aL.setCell u_ _).setCell u_ _;have az:=Z.set2 (S:=rs) kS.lt false (.slice sl (dg x).length H);replace az:aW _ w _ _:=az.le a6;go_wp2;generalize (setCell (setCell _ _ _) _ _)=w9 at ad k9 az ⊢;have⟨q0,q1⟩:=k9.q2;exact Vk (v:=.agg #[false,.slice sl (dg x).length H]) (by simp [results,results343,go_sem,q0,q1]) rfl ⟨_,rfl,⟨_,s_,az⟩,ad⟩
def BS(N)(a)(hN:(dg N.natAbs).length<=1000)(w)(ha:br N a w):
 Rv 308 #[a] w (ct N.natAbs):=by
 have HW:=h_ ha;obtain⟨la,rfl,a3⟩:=ha;have⟨kB,J⟩:=ay w #[decide (N<0),la] 182;have HT:=h_ (λW hr=>(Ce N (.agg #[decide (N<0),la]) o_ W hr).mono λe w' h=>dP.nat h);have ba:=uU hN;generalize hx:N.natAbs=x0,decide (N<0)=sa at *;obtain⟨B,hB⟩:∃B,ct x0=B:=⟨_,rfl⟩
 rw[hB] at ba ⊢;have HB:=h_ hB;go_enter func308,ntmps308;go_upto_region 1 with fail
 have aa:=h_ (br.below HW.out J);generalize w.alloc _=W at *;have b5:=kB.lt;have⟨b0,b1⟩:=kB.q2;go_wp2_with fail
 refine (HT.out W aa.out).mono ?_;rintro e w1 ⟨sl,H,rfl,Z,I⟩;have ac:=kB.next I
 have⟨c0,c1⟩:=ac.q2;have⟨z0,z1⟩:=ac.f2;have aL:=ag I J.size J;have k9:=(ac.set 0 false).set 1 (.slice sl (dg x0).length H);simp at k9;have ad:af w w ((w1.setCell w false).setCell ⟨w,1,none⟩ (.slice sl (dg x0).length H)):=(aL.setCell s_ _).setCell s_ _;have az:=(Z.set2 (S:=w.heap.size) b5 false (.slice sl (dg x0).length H)).1;go_upto_region 2 with fail
 generalize (setCell (setCell _ _ _) _ _)=w9 at ad k9 az ⊢;go_upto_region 3 with fail
 go_loopw [3] (λbv wr=>∃(x F:Nat) (sl:ck) (H:Nat),bv=.int .i64 F/\Hid (B=F+ct x)/\(dg x).length<=1000/\F<=B/\ah w #[false,.slice sl (dg x).length H] 182 wr/\cd wr (.slice sl (dg x).length H) (dg x)/\af w w wr) (λbv _=>(B+100 - intOf bv).toNat)
 case atStart=>exact⟨x0,0,sl,H,rfl,h_ (by rw[HB.out];omega),hN,o_,k9,az,ad⟩
 case round=>
  obtain⟨x,F,sl,H,rfl,hS,hl,a4,kB,hr,hb⟩:=hrel;have⟨b0,b1⟩:=kB.q2;by_cases h2:2<(dg x).length
  .have a2:(2:Int)<((dg x).length:Int):=o_;have U:67108864<=x:=Vl d_ (Ke h2);have cb:Hid (B=(F+26)+ct (x / 67108864)):=h_ (by rw[hS.out,Op U];omega);have a7:(dg (x / 67108864)).length<=1000:=E_ hl;have K:F+26<=B:=by have:=cb.out;omega
   have HQ:=h_ ((tG (x:Int) 67108864 (.agg #[false,.slice sl (dg x).length H]) (by show (dg x).length<=_;omega) o_ wr ⟨_,s_,hr⟩).mono λe w' h=>qr.nat (d:=67108864) h);go_wp2_with fail
   refine HQ.out.mono ?_;rintro e w1 ⟨G,g,rfl,Z,I⟩;have ac:=kB.next I
   have⟨c0,c1⟩:=ac.q2;have⟨z0,z1⟩:=ac.f2;have aL:=ag I hb.size hb;have k9:=(ac.set 0 false).set 1 (.slice G (dg (x / 67108864)).length g);simp at k9;have ad:af w w ((w1.setCell w false).setCell ⟨w,1,none⟩ (.slice G (dg (x / 67108864)).length g)):=(aL.setCell s_ _).setCell s_ _;have az:=(Z.set2 (S:=w.heap.size) kB.lt false (.slice G (dg (x / 67108864)).length g)).1;go_wp2;generalize (setCell (setCell _ _ _) _ _)=w9 at ad k9 az ⊢;go_roundw
   case rel=>exact⟨x / 67108864,F+26,G,g,by go_num,cb,a7,K,k9,az,ad⟩
   case measure=>exact aJ
  .have a2:¬(2:Int)<((dg x).length:Int):=o_;have ab:=(ke x).1;have aM:=h_ (ke x).2.2;generalize dg x=A at *;go_upto_region 8 with fail
   go_loopw [4,5] (λnv iv w2=>∃(k:Nat) (n i:Int),k<=A.length/\nv=.int .i64 n/\iv=.int .i64 i/\i+1=k/\(0<=n/\n<=99999999)/\Hid (vl (A.drop k)=n)/\w2=wr) (λ_ iv _=>(intOf iv+1).toNat)
   case atStart=>exact⟨A.length,0,(A.length:Int) - 1,Vj _,rfl,by go_num,o_,o_,h_ (by simp [vl]),rfl⟩
   case round=>
    obtain⟨k,n,i,hk,rfl,rfl,cm,hn,hV,rfl⟩:=hrel;cases k with
    |succ j=>
     obtain rfl:i=(j:Int):=o_
     have cG:j<A.length:=o_;have aF:=ab.adi j;have cF:=((h_ (TN ab o_)).out (j+1)).2 o_;rw[hV.out] at cF;have aG:=RH cG;have⟨_,_,e1,_,b9⟩:=hr;injection e1 with e1 _ e2;subst e1 e2;obtain⟨ga,oa,rfl,d1,_⟩:=b9 j cG;generalize A[j]?.getD 0=y at d1 aF aG;have bX:Hid (vl (A.drop j)=n*10000+y):=h_ (by rw[aG,hV.out];omega);go_wp2;go_roundw
     case rel=>exact⟨j,n*10000+y,(j:Int) - 1,o_,by go_num,by go_num,o_,o_,bX,by first|trivial|rfl⟩
     case measure=>simp [intOf]
    |zero=>
     obtain rfl:i=-1:=o_
     have b3:n=(x:Int):=by rw[<-hV.out,V1,aM.out]
     subst b3;by_cases aX:x=0
     .subst aX;have ae:Hid (B=F):=h_ (by have:=hS.out;rw[pi] at this;omega);go_wp2;exact Vk (v:=.int .i64 (F:Int)) IW rfl ⟨by rw[ae.out],hb⟩
     .have b7:((x:Int)==0)=false:=u_;have HL:=h_ (λW=>Tryz.bits_Len (x:Int) W o_ o_);have ax:Lib.bitLen (x:Int).toNat=ct x:=Cm u_;rw[ax] at HL;have cb:=hS.out;obtain⟨C,hC⟩:∃C,ct x=C:=⟨_,rfl⟩
      rw[hC] at HL cb;have V:=h_ cb;go_wp2_with fail
      refine (HL.out _).mono ?_;rintro e w2 ⟨rfl,rfl⟩;have aZ:F+C<=14000:=o_;go_wp2;refine Vk (v:=.int .i64 ((F:Int)+(C:Int))) IW rfl ?_;exact⟨by rw[V.out];simp,hb⟩
def yw(N)(a)(hN:(dg N.natAbs).length<=1000)(w)(ha:br N a w):
 Rv 288 #[a] w (ct N.natAbs):=by
 obtain⟨la,rfl,a3⟩:=ha;have⟨kA,J⟩:=ay w #[decide (N<0),la] 182;have a5:=h_ a3;have HT:=h_ (λW (hb:af w w W)=>((mq false la (dg N.natAbs) o_ W (a5.out.below hb)).mono λe w' h=>dP.nat (h.whole (N:=(N.natAbs:Int)) (.inl s_) (by rw[rE];rfl))));have ba:=uU hN;generalize hx:N.natAbs=x0,decide (N<0)=sa at *;obtain⟨B,hB⟩:∃B,ct x0=B:=⟨_,rfl⟩
 rw[hB] at ba ⊢;have HB:=h_ hB;go_enter func288,ntmps288;go_upto_region 2 with fail
 generalize w.alloc _=W at *;have⟨_,a1⟩:=kA.q2;go_wp2_with fail
 refine (HT.out W J).mono ?_;rintro e w1 ⟨sl,H,rfl,Z,I⟩;have⟨kX,ab⟩:=ay w1 #[false,.slice sl (dg x0).length H] 182;have aL:=ag I J.size J;have aZ:=aL.size;replace aL:=ag ab aL.size aL;have ax:=Z.1.below ab;go_upto_region 3 with fail
 generalize w1.alloc _=W9,w1.heap.size=rx at *;go_loopw [3] (λbv wr=>∃(x F:Nat) (sl:ck) (H:Nat),bv=.int .i64 F/\Hid (B=F+ct x)/\(dg x).length<=1000/\F<=B/\ah rx #[false,.slice sl (dg x).length H] 182 wr/\cd wr (.slice sl (dg x).length H) (dg x)/\af w w wr) (λbv _=>(B+100 - intOf bv).toNat)
 case atStart=>exact⟨x0,0,sl,H,rfl,h_ (by rw[HB.out];omega),hN,o_,kX,ax,aL⟩
 case round=>
  obtain⟨x,F,sl,H,rfl,hS,hl,a4,kB,hr,hb⟩:=hrel;have⟨b0,b1⟩:=kB.q2;by_cases h2:1<(dg x).length
  .have a2:(1:Int)<((dg x).length:Int):=o_;have U:4096<=x:=Vl d_ (Ke h2);have cb:Hid (B=(F+12)+ct (x / 4096)):=h_ (by rw[hS.out,Om U];omega);have a7:(dg (x / 4096)).length<=1000:=E_ hl;have K:F+12<=B:=by have:=cb.out;omega
   have HQ:=h_ ((nV (x:Int) 4096 (.agg #[false,.slice sl (dg x).length H]) (by show (dg x).length<=_;omega) o_ wr ⟨_,s_,hr⟩).mono λe w' h=>qr.nat (d:=4096) h);go_wp2_with fail
   refine HQ.out.mono ?_;rintro e w1 ⟨G,g,rfl,Z,I⟩;have ac:=kB.next I
   have⟨c0,c1⟩:=ac.q2;have⟨z0,z1⟩:=ac.f2;have aL:=ag I hb.size hb;have k9:=(ac.set 0 false).set 1 (.slice G (dg (x / 4096)).length g);simp at k9;have ad:af w w ((w1.setCell rx false).setCell ⟨rx,1,none⟩ (.slice G (dg (x / 4096)).length g)):=(aL.setCell aZ _).setCell aZ _;have az:=(Z.set2 (S:=rx) kB.lt false (.slice G (dg (x / 4096)).length g)).1;go_wp2;generalize (setCell (setCell _ _ _) _ _)=w9 at ad k9 az ⊢;go_roundw
   case rel=>exact⟨x / 4096,F+12,G,g,by go_num,cb,a7,K,k9,az,ad⟩
   case measure=>exact aJ
  .have a2:¬(1:Int)<((dg x).length:Int):=o_;have hd:=Uu (x:=x) o_;have HL:Hid (Kp 326 #[.slice sl (dg x).length H,()] wr λe w'=>e=.returned (.int .i64 (x:Int))/\w'=wr):=by
    have:=nS (.slice sl (dg x).length H) (dg x) 0 wr hr;rw[hd.1] at this;exact h_ this
   have V:=hd.2;go_wp2_with fail
   refine HL.out.mono ?_;rintro e w2 ⟨rfl,rfl⟩;go_upto_region 7 with fail
   go_loopw [3,5] (λbv nv w3=>∃(n b2:Nat),bv=.int .i64 b2/\nv=.int .i64 n/\n<10000/\b2<=B/\Hid (B=b2+ct n)/\w3=w2) (λ_ nv _=>(intOf nv).toNat)
   case atStart=>exact⟨x,F,rfl,rfl,V,a4,hS,rfl⟩
   case round=>
    obtain⟨n,b2,rfl,rfl,hn,_,aa,rfl⟩:=hrel;by_cases cz:n=0
    .subst cz;have ae:Hid (B=b2):=h_ (by have:=aa.out;rw[pi] at this;omega);go_wp2;exact Vk (v:=.int .i64 (b2:Int)) (by simp [results,results288,go_sem]) rfl ⟨by rw[ae.out],hb⟩
    .have aM:Hid (B=(b2+1)+ct (n / 2)):=h_ (by rw[aa.out,uq cz];omega);have aF:b2+1<=B:=by have:=aM.out;omega
     have aG:(0:Int)<(n:Int):=o_;go_wp2;go_roundw
     case rel=>exact⟨n / 2,b2+1,by go_num,by go_num,o_,aF,aM,by first|trivial|rfl⟩
     case measure=>exact aJ
def bS{x y}(a b){c:Int}(hx:0<=x/\x<=a)(hy:0<=y/\y<=b)(hc:a*b=c):0<=x*y/\x*y<=c:=by
 subst hc;exact⟨VP hx.1 hy.1,Vs hx.2 hy.2 hy.1 o_⟩
def yZ(a b d:Int):(max (1+2*a+8*b+a*a) (4*(1+a+b)))=max (1+2*a+8*b+a*a) (4*(1+a+b))/\(max (12+16*a+3+5*a+27*b) (4*d+4*a*a*b+4*a*(3*a*a*a+22*b*b)+12*b*(a*a*a+8*b*b)+(a*a*b+a*(5*a*a*a+32*b*b)+2*b*(13*a*a*a+96*b*b)+3*a*a*(a*a*a+8*b*b))))=max (15+21*a+27*b) (4*d+5*(a*a)*b+4*a*(3*(a*a*a)+22*(b*b))+12*b*(a*a*a+8*(b*b))+a*(5*(a*a*a)+32*(b*b))+2*b*(13*(a*a*a)+96*(b*b))+3*(a*a)*(a*a*a+8*(b*b))):=by
 refine⟨rfl,?_⟩;congr 1
 .omega
 .grind
def Fy(a b d:Int):(max (1+2*a+8*b+a*a) (4*(1+a+b)))=max (1+2*a+8*b+a*a) (4*(1+a+b))/\(max (15+21*a+27*b) (4*d+5*a*a*b+4*a*(3*a*a*a+22*b*b)+12*b*(a*a*a+8*b*b)+(a*(5*a*a*a+32*b*b)+2*b*(13*a*a*a+96*b*b)+3*a*a*(a*a*a+8*b*b))))=max (15+21*a+27*b) (4*d+5*(a*a)*b+4*a*(3*(a*a*a)+22*(b*b))+12*b*(a*a*a+8*(b*b))+a*(5*(a*a*a)+32*(b*b))+2*b*(13*(a*a*a)+96*(b*b))+3*(a*a)*(a*a*a+8*(b*b))):=by
 refine⟨rfl,?_⟩;congr 1;grind
def UQ{a b d:Int}(ha:0<=a/\a<=1000)(hb:0<=b/\b<=10000)(hd:0<=d/\d<=7000000000):(0<=max (1+2*a+8*b+a*a) (4*(1+a+b))/\max (1+2*a+8*b+a*a) (4*(1+a+b))<=2000000)/\(0<=max (12+16*a+3+5*a+27*b) (4*d+4*a*a*b+4*a*(3*a*a*a+22*b*b)+12*b*(a*a*a+8*b*b)+(a*a*b+a*(5*a*a*a+32*b*b)+2*b*(13*a*a*a+96*b*b)+3*a*a*(a*a*a+8*b*b)))/\max (12+16*a+3+5*a+27*b) (4*d+4*a*a*b+4*a*(3*a*a*a+22*b*b)+12*b*(a*a*a+8*b*b)+(a*a*b+a*(5*a*a*a+32*b*b)+2*b*(13*a*a*a+96*b*b)+3*a*a*(a*a*a+8*b*b)))<=7000000000000000):=by
 have q0:0<=a*a/\a*a<=1000000:=bS 1000 1000 o_ o_ d_;have q1:0<=4*a*a/\4*a*a<=4000000:=bS 4000 1000 o_ o_ d_;have q2:0<=4*a*a*b/\4*a*a*b<=40000000000:=bS 4000000 10000 o_ o_ d_;have q3:0<=3*a*a/\3*a*a<=3000000:=bS 3000 1000 o_ o_ d_;have q4:0<=3*a*a*a/\3*a*a*a<=3000000000:=bS 3000000 1000 o_ o_ d_;have q5:0<=22*b*b/\22*b*b<=2200000000:=bS 220000 10000 o_ o_ d_;have q6:0<=4*a*(3*a*a*a+22*b*b)/\4*a*(3*a*a*a+22*b*b)<=20800000000000:=bS 4000 5200000000 o_ o_ d_;have q7:0<=a*a*a/\a*a*a<=1000000000:=bS 1000000 1000 o_ o_ d_;have q8:0<=8*b*b/\8*b*b<=800000000:=bS 80000 10000 o_ o_ d_;have q9:0<=12*b*(a*a*a+8*b*b)/\12*b*(a*a*a+8*b*b)<=216000000000000:=bS 120000 1800000000 o_ o_ d_;have K:0<=a*a*b/\a*a*b<=10000000000:=bS 1000000 10000 o_ o_ d_;have H:0<=5*a*a/\5*a*a<=5000000:=bS 5000 1000 o_ o_ d_;have G:0<=5*a*a*a/\5*a*a*a<=5000000000:=bS 5000000 1000 o_ o_ d_;have aa:0<=32*b*b/\32*b*b<=3200000000:=bS 320000 10000 o_ o_ d_;have ab:0<=a*(5*a*a*a+32*b*b)/\a*(5*a*a*a+32*b*b)<=8200000000000:=bS 1000 8200000000 o_ o_ d_;have U:0<=13*a*a/\13*a*a<=13000000:=bS 13000 1000 o_ o_ d_;have Z:0<=13*a*a*a/\13*a*a*a<=13000000000:=bS 13000000 1000 o_ o_ d_;have V:0<=96*b*b/\96*b*b<=9600000000:=bS 960000 10000 o_ o_ d_;have ad:0<=2*b*(13*a*a*a+96*b*b)/\2*b*(13*a*a*a+96*b*b)<=452000000000000:=bS 20000 22600000000 o_ o_ d_;have ac:0<=3*a*a*(a*a*a+8*b*b)/\3*a*a*(a*a*a+8*b*b)<=5400000000000000:=bS 3000000 1800000000 o_ o_ d_;omega
def yo{A B}(hA:bh A)(hB:a_ B):-7000000000<=aP A B/\aP A B<=7000000000:=by
 have h1:=lI hA hB;unfold aP;omega
def MJ(A B:Int)(hA:bh A)(hB:a_ B)(w):
 Rv 309 #[.agg #[A,B]] w (.tuple #[jk A B,(max (jf A B) (ji A B):Int)]):=by
 have⟨kC,J⟩:=ay w #[A,B] 42;have HC:=h_ (oo A B hA hB);have⟨d1,d2⟩:=yo hA hB;obtain⟨a,ha⟩:∃a:Int,(A.natAbs:Int)=a:=⟨_,rfl⟩
 obtain⟨b,hb⟩:∃b:Int,(B.natAbs:Int)=b:=⟨_,rfl⟩
 obtain⟨d,hd⟩:∃d:Int,((aP A B).natAbs:Int)=d:=⟨_,rfl⟩
 have ba:0<=a/\a<=1000:=o_;have F:0<=b/\b<=10000:=o_;have bd:0<=d/\d<=7000000000:=o_;have ea:max A (-A)=a:=o_;have eb:max B (-B)=b:=o_;have ed:max (aP A B) (-(aP A B))=d:=o_;have g:Hid (jk A B=max (1+2*a+8*b+a*a) (4*(1+a+b))/\max (jf A B) (ji A B)=max (12+16*a+3+5*a+27*b) (4*d+4*a*a*b+4*a*(3*a*a*a+22*b*b)+12*b*(a*a*a+8*b*b)+(a*a*b+a*(5*a*a*a+32*b*b)+2*b*(13*a*a*a+96*b*b)+3*a*a*(a*a*a+8*b*b)))):=h_ (by
  unfold jk jf ji;rw[ha,hb,hd];exact⟨(yZ a b d).1.symm,(yZ a b d).2.symm⟩)
 generalize aP A B=D at *;go_enter func309,ntmps309;go_upto_region 1 with fail
 generalize w.alloc _=W at *;have⟨a4,a3,a5⟩:=kC.p2
 (refine bR k_ k_ ?_;(repeat (go_big_quiet_step ((go_at_call 98;with_reducible exact Calls.quiet_cls ao _ (HC.out _)))));refine wpQuiet_nil ?_;intro w1 I)
 have q0:0<=a*a/\a*a<=1000000:=bS 1000 1000 o_ o_ d_;have q1:0<=4*a*a/\4*a*a<=4000000:=bS 4000 1000 o_ o_ d_;have q2:0<=4*a*a*b/\4*a*a*b<=40000000000:=bS 4000000 10000 o_ o_ d_;have q3:0<=3*a*a/\3*a*a<=3000000:=bS 3000 1000 o_ o_ d_;have q4:0<=3*a*a*a/\3*a*a*a<=3000000000:=bS 3000000 1000 o_ o_ d_;have q5:0<=22*b*b/\22*b*b<=2200000000:=bS 220000 10000 o_ o_ d_;have q6:0<=4*a*(3*a*a*a+22*b*b)/\4*a*(3*a*a*a+22*b*b)<=20800000000000:=bS 4000 5200000000 o_ o_ d_;have q7:0<=a*a*a/\a*a*a<=1000000000:=bS 1000000 1000 o_ o_ d_;have q8:0<=8*b*b/\8*b*b<=800000000:=bS 80000 10000 o_ o_ d_;have q9:0<=12*b*(a*a*a+8*b*b)/\12*b*(a*a*a+8*b*b)<=216000000000000:=bS 120000 1800000000 o_ o_ d_;have K:0<=a*a*b/\a*a*b<=10000000000:=bS 1000000 10000 o_ o_ d_;have H:0<=5*a*a/\5*a*a<=5000000:=bS 5000 1000 o_ o_ d_;have G:0<=5*a*a*a/\5*a*a*a<=5000000000:=bS 5000000 1000 o_ o_ d_;have aa:0<=32*b*b/\32*b*b<=3200000000:=bS 320000 10000 o_ o_ d_;have ab:0<=a*(5*a*a*a+32*b*b)/\a*(5*a*a*a+32*b*b)<=8200000000000:=bS 1000 8200000000 o_ o_ d_;have U:0<=13*a*a/\13*a*a<=13000000:=bS 13000 1000 o_ o_ d_;have Z:0<=13*a*a*a/\13*a*a*a<=13000000000:=bS 13000000 1000 o_ o_ d_;have V:0<=96*b*b/\96*b*b<=9600000000:=bS 960000 10000 o_ o_ d_;have ad:0<=2*b*(13*a*a*a+96*b*b)/\2*b*(13*a*a*a+96*b*b)<=452000000000000:=bS 20000 22600000000 o_ o_ d_;have ac:0<=3*a*a*(a*a*a+8*b*b)/\3*a*a*(a*a*a+8*b*b)<=5400000000000000:=bS 3000000 1800000000 o_ o_ d_;go_wp2;exact Vk (v:=.tuple #[(max (1+2*a+8*b+a*a) (4*(1+a+b)):Int),(max (12+16*a+3+5*a+27*b) (4*d+4*a*a*b+4*a*(3*a*a*a+22*b*b)+12*b*(a*a*a+8*b*b)+(a*a*b+a*(5*a*a*a+32*b*b)+2*b*(13*a*a*a+96*b*b)+3*a*a*(a*a*a+8*b*b))):Int)]) (by simp [results,results309,go_sem]) rfl ⟨by rw[g.out.1,g.out.2],ag I J.size J⟩
def Nq(A B:Int)(hA:bh A)(hB:a_ B)(w):
 Rv 289 #[.agg #[A,B]] w (.tuple #[jk A B,(max (jf A B) (ji A B):Int)]):=by
 have⟨kC,J⟩:=ay w #[A,B] 42;have HC:=h_ (nT A B hA hB);have HM:Hid (∀x y W,Rw 172 #[.int .i64 x,.int .i64 y] W (max x y:Int)):=h_ (λx y W=>(ng x y W).mono λ_ _ h=>⟨by rw[h.1];congr 2;omega,h.2.symm⟩);have⟨d1,d2⟩:=yo hA hB;obtain⟨a,ha⟩:∃a:Int,(A.natAbs:Int)=a:=⟨_,rfl⟩
 obtain⟨b,hb⟩:∃b:Int,(B.natAbs:Int)=b:=⟨_,rfl⟩
 obtain⟨d,hd⟩:∃d:Int,((aP A B).natAbs:Int)=d:=⟨_,rfl⟩
 have ba:0<=a/\a<=1000:=o_;have F:0<=b/\b<=10000:=o_;have bd:0<=d/\d<=7000000000:=o_;have h1:=λW=>uI A o_ W;have h2:=λW=>uI B o_ W;have h3:=λW=>uI (aP A B) o_ W;rw[ha] at h1;rw[hb] at h2;rw[hd] at h3;have HA:=h_ (λW=>(h1 W).mono λ_ _ h=>(⟨h.1,h.2.symm⟩:_/\W=_));have HB:=h_ (λW=>(h2 W).mono λ_ _ h=>(⟨h.1,h.2.symm⟩:_/\W=_));have HD:=h_ (λW=>(h3 W).mono λ_ _ h=>(⟨h.1,h.2.symm⟩:_/\W=_));have g:Hid (jk A B=max (1+2*a+8*b+a*a) (4*(1+a+b))/\max (jf A B) (ji A B)=max (15+21*a+27*b) (4*d+5*a*a*b+4*a*(3*a*a*a+22*b*b)+12*b*(a*a*a+8*b*b)+(a*(5*a*a*a+32*b*b)+2*b*(13*a*a*a+96*b*b)+3*a*a*(a*a*a+8*b*b)))):=h_ (by
  unfold jk jf ji;rw[ha,hb,hd];exact⟨(Fy a b d).1.symm,(Fy a b d).2.symm⟩)
 generalize aP A B=D at *;go_enter func289,ntmps289;go_upto_region 1 with fail
 generalize w.alloc _=W at *;have⟨a4,a3,a5⟩:=kC.p2
 (refine bR k_ k_ ?_;(repeat (go_big_quiet_step ((first|(go_at_call 105;with_reducible exact Calls.quiet_cls ao _ (HC.out _))|(go_at_call 113;first|with_reducible exact Calls.quiet_clsS _ (HA.out _)|with_reducible exact Calls.quiet_clsS _ (HB.out _)|with_reducible exact Calls.quiet_clsS _ (HD.out _))))));refine wpQuiet_nil ?_;intro w1 I)
 have q0:0<=a*a/\a*a<=1000000:=bS 1000 1000 o_ o_ d_;have q1:0<=5*a*a/\5*a*a<=5000000:=bS 5000 1000 o_ o_ d_;have q2:0<=5*a*a*b/\5*a*a*b<=50000000000:=bS 5000000 10000 o_ o_ d_;have q3:0<=3*a*a/\3*a*a<=3000000:=bS 3000 1000 o_ o_ d_;have q4:0<=3*a*a*a/\3*a*a*a<=3000000000:=bS 3000000 1000 o_ o_ d_;have q5:0<=22*b*b/\22*b*b<=2200000000:=bS 220000 10000 o_ o_ d_;have q6:0<=4*a*(3*a*a*a+22*b*b)/\4*a*(3*a*a*a+22*b*b)<=20800000000000:=bS 4000 5200000000 o_ o_ d_;have q7:0<=a*a*a/\a*a*a<=1000000000:=bS 1000000 1000 o_ o_ d_;have q8:0<=8*b*b/\8*b*b<=800000000:=bS 80000 10000 o_ o_ d_;have q9:0<=12*b*(a*a*a+8*b*b)/\12*b*(a*a*a+8*b*b)<=216000000000000:=bS 120000 1800000000 o_ o_ d_;have K:0<=5*a*a*a/\5*a*a*a<=5000000000:=bS 5000000 1000 o_ o_ d_;have H:0<=32*b*b/\32*b*b<=3200000000:=bS 320000 10000 o_ o_ d_;have G:0<=a*(5*a*a*a+32*b*b)/\a*(5*a*a*a+32*b*b)<=8200000000000:=bS 1000 8200000000 o_ o_ d_;have aa:0<=13*a*a/\13*a*a<=13000000:=bS 13000 1000 o_ o_ d_;have ab:0<=13*a*a*a/\13*a*a*a<=13000000000:=bS 13000000 1000 o_ o_ d_;have U:0<=96*b*b/\96*b*b<=9600000000:=bS 960000 10000 o_ o_ d_;have Z:0<=2*b*(13*a*a*a+96*b*b)/\2*b*(13*a*a*a+96*b*b)<=452000000000000:=bS 20000 22600000000 o_ o_ d_;have V:0<=3*a*a*(a*a*a+8*b*b)/\3*a*a*(a*a*a+8*b*b)<=5400000000000000:=bS 3000000 1800000000 o_ o_ d_;go_wp2_with ((go_at_call 172;refine aA (HM.out _ _ _) ?_))
 exact Vk (v:=.tuple #[(max (1+2*a+8*b+a*a) (4*(1+a+b)):Int),(max (15+21*a+27*b) (4*d+5*a*a*b+4*a*(3*a*a*a+22*b*b)+12*b*(a*a*a+8*b*b)+(a*(5*a*a*a+32*b*b)+2*b*(13*a*a*a+96*b*b)+3*a*a*(a*a*a+8*b*b))):Int)]) (by simp [results,results289,go_sem]) rfl ⟨by rw[g.out.1,g.out.2],ag I J.size J⟩
def zc{A B}(hA:bh A)(hB:a_ B):(0<=jk A B/\jk A B<=2000000)/\(0<=max (jf A B) (ji A B)/\max (jf A B) (ji A B)<=7000000000000000):=by
 have⟨d1,d2⟩:=yo hA hB;have h:=UQ (a:=A.natAbs) (b:=B.natAbs) (d:=(aP A B).natAbs) o_ o_ o_;have e:=yZ A.natAbs B.natAbs (aP A B).natAbs;rw[e.1,e.2] at h;exact h
def zE{A B}(hA:bh A)(hB:a_ B):0<=dV A B/\dV A B<=64:=by
 have h:=zc hA hB;unfold dV;have:=zb 64 (max (jk A B) (max (jf A B) (ji A B))).toNat o_;omega
def MB(A B:Int)(hA:bh A)(hB:a_ B)(w):
 Rv 268 #[.agg #[A,B]] w (dV A B):=by
 have⟨kC,J⟩:=ay w #[A,B] 42;have HC:=h_ (MJ A B hA hB);have b6:=zc hA hB;have g:Hid (dV A B=(ct (max (jk A B) (max (jf A B) (ji A B))).toNat:Int)):=rfl;rw[g.out];generalize jk A B=m,max (jf A B) (ji A B)=k at *;have HL:=h_ (λW=>Tryz.bits_Len (max m k) W o_ o_);rw[Cm o_] at HL;go_enter func268,ntmps268;go_upto_region 1 with fail
 generalize w.alloc _=W at *;have⟨a4,a3⟩:=kC.q2;go_wp2_with fail
 refine aj (HC.out _) λw1 I=>?_;go_wp2_with fail
 refine (HL.out _).mono ?_;rintro e w2 ⟨rfl,rfl⟩;exact oA
def Nv(A B:Int)(hA:bh A)(hB:a_ B)(w):
 Rv 239 #[.agg #[A,B]] w (dV A B):=by
 have⟨kC,J⟩:=ay w #[A,B] 42;have HC:=h_ (Nq A B hA hB);have b6:=zc hA hB;have g:Hid (dV A B=(ct (max (jk A B) (max (jf A B) (ji A B))).toNat:Int)):=rfl;rw[g.out];generalize jk A B=m,max (jf A B) (ji A B)=k at *;have HM:Hid (∀W,Rw 172 #[m,k] W (max m k:Int)):=h_ (λW=>(ng m k W).mono λ_ _ h=>⟨by rw[h.1];congr 2;omega,h.2.symm⟩);have hz:Sz 5 (max m k):=by unfold Sz;omega
 have he:(max m k).toNat=(max m k).natAbs:=o_;rw[he];have HO:=h_ (rL (max m k) o_);have HB:=h_ (λW v h=>yw (max m k) v (Vl hz.len o_) W h);generalize max m k=M at *;go_enter func239,ntmps239;go_upto_region 1 with fail
 generalize w.alloc _=W at *;have⟨a4,a3⟩:=kC.q2;go_wp2_with fail
 refine aj (HC.out _) λw1 I=>?_;have H:=ag I J.size J;go_wp2_with ((go_at_call 172;refine aA (HM.out _) ?_))
 refine (HO.out _).mono ?_;rintro e w2 ⟨v2,rfl,ba,U⟩;have ax:=ag U H.size H;go_wp2_with fail
 refine aj (HB.out _ _ ba.rd) λw3 aF=>?_;have az:=ag aF ax.size ax;go_wp2;go_ret;exact⟨rfl,az⟩
def Am(h:P:=by simp [results,results342,go_sem]):=h
def Ab(h:P:=by simp [results,results323,go_sem]):=h
def Gz(h:P:=by
 go_wp2;refine Vk (v:=.bool true) (by simp [results,results355,go_sem]) rfl ?_;exact⟨rfl,J⟩):=h
def CQ(K)(a)(hl:(dg K.natAbs).length<=400)(w)(ha:br K a w):
 Rv 355 #[a] w true:=by
 obtain⟨la,rfl,hr⟩:=ha;have hD:=ke K.natAbs;have⟨kA,J⟩:=ay w #[decide (K<0),la] 182;obtain⟨I,F,rfl,_,hc⟩:=hr.below J;have a8:dg K.natAbs=[]->K=0:=λh=>by have:=uH.1 h;omega
 have H:∀j,(dg K.natAbs).length=j+1->0<(dg K.natAbs)[j]?.getD 0:=λj hj=>by
  have h0:dg K.natAbs≠[]:=λh=>by rw[h] at hj;cases hj
  rw[Vv o_];have hx:=hD.2.1 h0;rw[Yi] at hx;have:=hD.1 _ (VC (show j<(dg K.natAbs).length by omega));simp;have e:(dg K.natAbs).length - 1=j:=o_;simp only[e] at hx;omega
 have cF:=λh=>a8 (VY.1 h);generalize dg K.natAbs=L at *;generalize L.length=n at *;cases n with
 |zero=>
  have e0:=cF rfl;subst e0;have b5:decide ((0:Int)<0)=false:=rfl;rw[b5] at J kA hc;go_enter func355,ntmps355;go_upto_region 1 with fail
  generalize w.alloc _=W at *;have⟨a0,a1⟩:=kA.q2;go_upto_region 5 with fail
  go_loopw [35] (λiv w2=>iv=.int .i64 0/\w2=W) (λ_ _=>0)
  case atStart=>exact⟨rfl,rfl⟩
  case round=>
   obtain⟨rfl,rfl⟩:=hrel;exact Gz
 |succ j=>
  have⟨g,o,a3,Z,_⟩:=hc j o_;have hx:=H j rfl;generalize L[j]?.getD 0=x at Z hx;subst a3;have U:¬(400:Int)<((j+1:Nat):Int):=o_;have a6:(x==0)=false:=u_;generalize decide (K<0)=sg at *;go_enter func355,ntmps355;go_upto_region 1 with fail
  generalize w.alloc _=W at *;have⟨a0,a1⟩:=kA.q2;go_upto_region 5 with fail
  go_loopw [35] (λiv w2=>∃i:Nat,iv=.int .i64 i/\i<=(j+1)/\w2=W) (λiv _=>(j+1)+1 - (intOf iv).toNat)
  case atStart=>exact⟨0,rfl,o_,rfl⟩
  case round=>
   obtain⟨i,rfl,hi,rfl⟩:=hrel;by_cases aG:i<(j+1)
   .have⟨g,o,a3,d1,b3⟩:=hc i aG;cases a3;have aF:=hD.1.adi i;generalize L[i]?.getD 0=y at d1 aF;have HI:=h_ (dh y 0 9999);rw[show aw y 0 9999=true by unfold aw;simp;omega] at HI;go_wp2_with fail
    refine (HI.out _).mono ?_;rintro e w1 ⟨rfl,rfl⟩;go_wp2;go_roundw
    case rel=>exact⟨i+1,by go_num,o_,by first|trivial|rfl⟩
    case measure=>exact aJ
   .have G:¬(i:Int)<(((j+1:Nat)):Int):=o_;exact Gz
def QB(x z)(lx lz)(K:(dg x.natAbs).length<=400)(G:(dg z.natAbs).length<=400)(hz:0<=z)(w)(aZ:cd w lx (dg x.natAbs))(a8:cd w lz (dg z.natAbs)):
 Rv 342 #[.agg #[decide (x<0),lx,decide (z<0),lz]] w (.bool (iD x z)):=by
 have a6:decide (z<0)=false:=We o_;have⟨kB,J⟩:=ay w #[decide (x<0),lx,decide (z<0),lz] 209;have H:=h_ (λW (hb:af w w W)=>CQ x (.agg #[decide (x<0),lx]) K W (br.below ⟨_,rfl,aZ⟩ hb));have F:=h_ (λW (hb:af w w W)=>CQ z (.agg #[decide (z<0),lz]) G W (br.below ⟨_,rfl,a8⟩ hb));obtain⟨ax,cx,rfl,_,_⟩:=aZ;obtain⟨az,cz,rfl,_,_⟩:=a8;rw[a6] at kB J F ⊢;generalize decide (x<0)=sx at *;have HI:=h_ (dh ((dg z.natAbs).length:Int) 1 80);unfold iD
 skip
 generalize (dg x.natAbs).length=nx,(dg z.natAbs).length=nz at *;generalize aw (nz:Int) 1 80=b2 at *;go_enter func342,ntmps342;go_upto_region 1 with fail
 generalize w.alloc _=W at *;have⟨a0,a1⟩:=kB.q2;go_wp2_with fail
 refine aj (H.out W J) λw1 I=>?_;have ac:=kB.next I
 have aL:=ag I J.size J;have⟨_,_,a2⟩:=ac.q3;have⟨_,_,_,a3⟩:=ac.q4;go_wp2_with fail
 refine aj (F.out w1 aL) λw2 U=>?_;have g:=ac.next U
 replace aL:=ag U aL.size aL;have⟨_,a1⟩:=g.q2;have⟨_,_,a2⟩:=g.q3;have⟨_,_,_,a3⟩:=g.q4;by_cases h8:nx<=80
 .have V:(nx:Int)<=80:=o_;go_wp2_with fail
  refine (HI.out _).mono ?_;rintro e w3 ⟨rfl,rfl⟩;cases b2
  .go_wp2;exact Vk (v:=.bool false) Am rfl ⟨s_,aL⟩
  .go_wp2;exact Vk (v:=.bool true) Am rfl ⟨by simp [h8],aL⟩
 .have V:¬(nx:Int)<=80:=o_;go_wp2;exact Vk (v:=.bool false) Am rfl ⟨by simp [h8],aL⟩
def DH(x z)(lx lz)(K:(dg x.natAbs).length<=400)(G:(dg z.natAbs).length<=400)(hz:0<=z)(w)(aZ:cd w lx (dg x.natAbs))(a8:cd w lz (dg z.natAbs)):
 Rv 323 #[.agg #[decide (x<0),lx,decide (z<0),lz]] w (.bool (iD x z)):=by
 have a6:decide (z<0)=false:=We o_;have⟨kB,J⟩:=ay w #[decide (x<0),lx,decide (z<0),lz] 209;have H:=h_ (λW (hb:af w w W)=>DX x (.agg #[decide (x<0),lx]) o_ W (br.below ⟨_,rfl,aZ⟩ hb));have F:=h_ (λW (hb:af w w W)=>DX z (.agg #[decide (z<0),lz]) o_ W (br.below ⟨_,rfl,a8⟩ hb));obtain⟨ax,cx,rfl,_,_⟩:=aZ;obtain⟨az,cz,rfl,_,_⟩:=a8;rw[a6] at kB J F ⊢;generalize decide (x<0)=sx at *;have HI:=h_ (cK ((dg z.natAbs).length:Int) 1 80);unfold iD;rw[show mM x=true by simp [mM];omega] at H;rw[show mM z=true by simp [mM];omega] at F;generalize (dg x.natAbs).length=nx,(dg z.natAbs).length=nz at *;generalize aw (nz:Int) 1 80=b2 at *;go_enter func323,ntmps323;go_upto_region 1 with fail
 generalize w.alloc _=W at *;have⟨a0,a1⟩:=kB.q2;go_wp2_with fail
 refine aj (H.out W J) λw1 I=>?_;have ac:=kB.next I
 have aL:=ag I J.size J;have⟨_,_,a2⟩:=ac.q3;have⟨_,_,_,a3⟩:=ac.q4;go_wp2_with fail
 refine aj (F.out w1 aL) λw2 U=>?_;have g:=ac.next U
 replace aL:=ag U aL.size aL;have⟨_,a1⟩:=g.q2;have⟨_,_,a2⟩:=g.q3;have⟨_,_,_,a3⟩:=g.q4;by_cases h8:nx<=80
 .have V:(nx:Int)<=80:=o_;go_wp2_with fail
  refine (HI.out _).mono ?_;rintro e w3 ⟨rfl,rfl⟩;cases b2
  .go_wp2;exact Vk (v:=.bool false) Ab rfl ⟨s_,aL⟩
  .go_wp2;exact Vk (v:=.bool true) Ab rfl ⟨by simp [h8],aL⟩
 .have V:¬(nx:Int)<=80:=o_;go_wp2;exact Vk (v:=.bool false) Ab rfl ⟨by simp [h8],aL⟩
def wF(h:P:=by
 intro bp;refine bw [] (λ_=>false) (λ_=>True) (KD (λ_=>True) []) k_ ⟨trivial,bU.nil _⟩ ?_;refine aE ⟨W,ai.refl _ _,trivial,bU.nil _⟩ (cj 4 0) 4 (KD.closed ao _) aB ?_;refine aR [4,5] ?_;refine am.cons ?_ ?_
 .refine dB (zs:=#[false,.slice none 0 0]) (T:=182) ao (λr5 bo bY hne=>?_);refine ap ?_;refine aR [5] ?_;refine am.cons ?_ ?_
  .refine dB (zs:=#[false,.slice none 0 0]) (T:=182) ao (λr6 b0 cP hne=>?_);refine ap ?_;simp at cP;refine aR [6] ?_;refine am.cons ?_ ?_
   .refine fB (v:=.agg #[decide (x<0),.slice ax (dg x.natAbs).length cx]) [(r6,#[false,.slice none 0 0],182)] [] (.inl bo) ao (λ_ _ h _=>h) u_ (λhne=>?_)
    try simp only[Value.cells]
    refine aR [7] ?_;refine am.cons ?_ ?_
    .refine fB (v:=.agg #[decide (z<0),.slice az (dg z.natAbs).length cz]) [] [(r5,#[decide (x<0),.slice ax (dg x.natAbs).length cx],182)] (.inl b0) ao (λ_ _ h _=>h) u_ (λhne=>?_)
     try simp only[Value.cells]
     refine jp k_ (λWz a7 aX=>?_) _;exact bp r5 r6 Wz ⟨a7,aX.1,o_,o_,o_,aX.2.tail.head,aX.2.head⟩
    exact am.nil
   exact am.nil
  exact am.nil
 refine am.cons ?_ ?_
 .refine dB (zs:=#[false,.slice none 0 0]) (T:=182) ao (λr6 b0 cP hne=>?_);refine ap ?_;refine aR [4] ?_;refine am.cons ?_ ?_
  .refine dB (zs:=#[false,.slice none 0 0]) (T:=182) ao (λr5 bo bY hne=>?_);refine ap ?_;simp at bY;refine aR [6] ?_;refine am.cons ?_ ?_
   .refine fB (v:=.agg #[decide (x<0),.slice ax (dg x.natAbs).length cx]) [] [(r6,#[false,.slice none 0 0],182)] (.inl bo) ao (λ_ _ h _=>h) u_ (λhne=>?_)
    try simp only[Value.cells]
    refine aR [7] ?_;refine am.cons ?_ ?_
    .refine fB (v:=.agg #[decide (z<0),.slice az (dg z.natAbs).length cz]) [(r5,#[decide (x<0),.slice ax (dg x.natAbs).length cx],182)] [] (.inl b0) ao (λ_ _ h _=>h) u_ (λhne=>?_)
     try simp only[Value.cells]
     refine jp k_ (λWz a7 aX=>?_) _;exact bp r5 r6 Wz ⟨a7,aX.1,o_,o_,o_,aX.2.head,aX.2.tail.head⟩
    exact am.nil
   exact am.nil
  exact am.nil
 exact am.nil):=h
def gW(h:P:=by
 refine aS.q _ r_ r_ λρ w' H=>?_;have hx:ρ (.tmp 5)=.pointer (some ⟨r5,0,none⟩):=H.bas 5 k_;exact lN _ rfl hx (kx.next H.bel)):=h
def fI(h:P:=by
 refine aS.q _ r_ r_ λρ w' H=>?_;have hx:ρ (.tmp 6)=.pointer (some ⟨r6,0,none⟩):=H.bas 6 k_;exact lN _ rfl hx (kz.next H.bel)):=h
def AE(h:P:=by
 obtain rfl:v5=.pointer (some ⟨S,0,none⟩):=p5;exact jx _ rfl e5 ((kC.next H.bel).cell 0)):=h
def kK(h:P:=by
 refine aS.a _ r_ λρ w' H=>?_;exact bn.alloc rfl (λw=>by simp [go_sem]) H.bel.size):=h
def Kk(h:P:=by
 exact Ft _ _ _ _ _ _ rfl (by rw[e0];exact p0) (by rw[e1];exact p1) (by rw[e2];exact p2)):=h
def np(h:P:=by
 refine aS.q _ r_ r_ λρ w' H=>?_;exact PZ _ rfl (H.bas 2 k_)):=h
def uW(h:P:=by
 refine aS.q _ r_ r_ λρ w' H=>?_;exact Qy _ rfl (H.bas 2 k_)):=h
def vi(h:P:=by
 exact⟨_,rfl,⟨_,rfl,r9⟩,HS.out▸ad⟩):=h
def nh{K}{N}(hl:K.length<=6)(hz:∀y∈K,Sz 1000 y)(he:pr K=N)(v)(w)(h:jF w v K):Kp 338 #[v] w (dP N w):=by
 subst he;exact MS K v o_ (λi hi=>Vl (hz _ (VC hi)).len o_) (Us (s:=1000) o_ hz) w h
def Di{K}{N}(hl:K.length<=10)(hz:∀y∈K,Sz 30000 y)(he:sm K=N)(v)(w)(h:jF w v K):Kp 337 #[v] w (dP N w):=by
 subst he;exact Ow K v o_ (λi hi=>Vl (hz _ (VC hi)).len o_) (UA hl λy hy=>(hz y hy).mono o_) w h
def oK{K}(hl:K.length<=6)(hz:∀y∈K,Sz 1000 y):Sz 30000 (pr K):=(AL K hz).mono o_
def wL(b:Nat)(N:Int)(w:World)(e:Ending)(w':World):Prop:=∃v,e=.returned v/\Wh b N v w'/\af w w w'
def BA(A B x z:Int)(b)(lx lz)(hA:bh A)(hB:a_ B)(zx:Sz 80 x)(zz:Sz 80 z)(w)(hb:b<=w.heap.size)(aZ:aW w b lx (dg x.natAbs))(a8:aW w b lz (dg z.natAbs)):
 Kp 341 #[.agg #[A,B],.agg #[decide (x<0),lx,decide (z<0),lz]] w (wL b (bm A B x z) w):=by
 have⟨kC,kT,V,J⟩:=qo w #[A,B] 42 #[decide (x<0),lx,decide (z<0),lz] 209 #[false,.slice none 0 0] 182;have a6:(((w.alloc (.cells #[A,B] 42)).alloc (.cells #[decide (x<0),lx,decide (z<0),lz] 209)).alloc (.cells #[false,.slice none 0 0] 182)).heap.size=w.heap.size+3:=s_;have rx:=aZ.below J;have rz:=a8.below J;obtain⟨ax,cx,rfl,_⟩:=id aZ.1;obtain⟨az,cz,rfl,_⟩:=id a8.1;simp at kT V;have x1:Sz 1000 x:=zx.mono o_;have z1:Sz 1000 z:=zz.mono o_;have a2:Sz 1000 (-2*A):=(Sz.of1 o_ o_).mono o_;have b2:Sz 1000 (-8*B):=(Sz.of4 o_ o_).mono o_;have d2:=aN (x:=A) (y:=A) 1000 1000 hA hA;have aa:Sz 1000 (A*A):=(Sz.of4 o_ o_).mono o_;have hM:Hid (∀v w,jF w v [pr [x,x,x,x],pr [-2*A,x,x,z,z],pr [-8*B,x,z,z,z],pr [A*A,z,z,z,z]]->Kp 337 #[v] w (dP (bm A B x z) w)):=Di s_ (by
  simp only[Vx];exact⟨oK s_ (by simp [x1]),oK s_ (by simp [x1,z1,a2]),oK s_ (by simp [x1,z1,b2]),oK s_ (by simp [z1,aa]),λ_ h=>by cases h⟩) (by simp only[sm,pr,bm];grind)
 obtain⟨S,hS⟩:∃S,w.heap.size=S:=⟨_,rfl⟩
 go_enter func341,ntmps341;go_upto_region 1 with fail
 generalize ((w.alloc _).alloc _).alloc _=W at *;rw[hS] at kC kT V J a6 hb;have HS:=h_ hS;have aG:b<=W.heap.size:=o_;have a9:S<=W.heap.size:=o_;have⟨t0,t1,t2,t3,t4⟩:=kT.p4;apply tv (λr5 r6 Wz=>ai [] W Wz/\(λ_=>True) Wz/\W.heap.size<=r5/\W.heap.size<=r6/\r6≠r5/\ah r5 #[decide (x<0),.slice ax (dg x.natAbs).length cx] 182 Wz/\ah r6 #[decide (z<0),.slice az (dg z.natAbs).length cz] 182 Wz)
 .exact wF
 rintro r5 r6 W2 ⟨bi,_,_,_,_,k5,U⟩;have g:=bi.below;have kx:bG b r5 x W2:=⟨_,k5,rx.below g,rfl⟩
 have kz:bG b r6 z W2:=⟨_,U,rz.below g,rfl⟩
 replace kC:=kC.next g
 replace V:=V.next g
 replace J:af S w _:=ag g a9 J;replace aG:=Vl aG g.size;replace a9:=Vl a9 g.size;go_upto_region 2 with fail
 refine jl 40 [] [(0,11),(1,12),(2,13),(3,14),(4,15),(5,16),(6,17),(7,18),(8,19),(9,20),(10,21),(11,22),(12,23),(13,24),(14,25),(15,26),(16,27),(17,28),(18,29),(19,30),(20,31),(21,32),(22,33),(23,34),(24,35),(25,36),(26,37),(27,38),(28,39),(29,40),(30,41),(31,42),(32,43),(33,44),(34,45),(35,46),(36,47),(37,48),(38,49),(39,50)] [Wh b x,Wh b x,Wh b x,Wh b x,du [x,x,x,x],Wh b (pr [x,x,x,x]),aV (.pointer S),aV A,aV (-2*A:Int),Wh b (-2*A),Wh b x,Wh b x,Wh b z,Wh b z,du [(-2*A),x,x,z,z],Wh b (pr [-2*A,x,x,z,z]),aV (.pointer (some ⟨S,1,none⟩)),aV B,aV (-8*B:Int),Wh b (-8*B),Wh b x,Wh b z,Wh b z,Wh b z,du [(-8*B),x,z,z,z],Wh b (pr [-8*B,x,z,z,z]),aV (.pointer S),aV A,aV (.pointer S),aV A,aV (A*A:Int),Wh b (A*A),Wh b z,Wh b z,Wh b z,Wh b z,du [(A*A),z,z,z,z],Wh b (pr [A*A,z,z,z,z]),du [(pr [x,x,x,x]),(pr [-2*A,x,x,z,z]),(pr [-8*B,x,z,z,z]),(pr [A*A,z,z,z,z])],Wh b (bm A B x z)] k_ k_ k_ trivial ⟨Wh.closed _ _,Wh.closed _ _,Wh.closed _ _,Wh.closed _ _,du.closed _,Wh.closed _ _,aV.closed _,aV.closed _,aV.closed _,Wh.closed _ _,Wh.closed _ _,Wh.closed _ _,Wh.closed _ _,Wh.closed _ _,du.closed _,Wh.closed _ _,aV.closed _,aV.closed _,aV.closed _,Wh.closed _ _,Wh.closed _ _,Wh.closed _ _,Wh.closed _ _,Wh.closed _ _,du.closed _,Wh.closed _ _,aV.closed _,aV.closed _,aV.closed _,aV.closed _,aV.closed _,Wh.closed _ _,Wh.closed _ _,Wh.closed _ _,Wh.closed _ _,Wh.closed _ _,du.closed _,Wh.closed _ _,du.closed _,Wh.closed _ _,trivial⟩ ⟨?_,?_,?_,?_,?_,?_,?_,?_,?_,?_,?_,?_,?_,?_,?_,?_,?_,?_,?_,?_,?_,?_,?_,?_,?_,?_,?_,?_,?_,?_,?_,?_,?_,?_,?_,?_,?_,?_,?_,?_,trivial⟩ ?_
 .exact gW
 .exact gW
 .exact gW
 .exact gW
 .refine aS.q _ r_ r_ λρ w' H=>?_;have⟨v0,e0,p0⟩:=H.dep 0 11 k_;have p0:(Wh b x) v0 w':=p0;have⟨v1,e1,p1⟩:=H.dep 1 12 k_;have p1:(Wh b x) v1 w':=p1;have⟨v2,e2,p2⟩:=H.dep 2 13 k_;have p2:(Wh b x) v2 w':=p2;have⟨v3,e3,p3⟩:=H.dep 3 14 k_;have p3:(Wh b x) v3 w':=p3;exact uO _ _ _ _ _ _ _ _ rfl (by rw[e0];exact p0) (by rw[e1];exact p1) (by rw[e2];exact p2) (by rw[e3];exact p3)
 .refine aS.q _ r_ r_ λρ w' H=>?_;have⟨v4,e4,p4⟩:=H.dep 4 15 k_;have p4:(du [x,x,x,x]) v4 w':=p4;exact bn.call 338 #[v4] _ _ _ rfl (H.fn 338) (enters_of func338 k_ rfl) (by simp [e4]) ((nh s_ (Vx.2 ⟨x1,Vx.2 ⟨x1,Vx.2 ⟨x1,Vx.2 ⟨x1,λ_ h=>mA⟩⟩⟩⟩) rfl _ w' p4).mono λe w2 ⟨v,h1,h2,h3⟩=>⟨v,h1,h3,h2.le (Vl aG H.bel.size)⟩)
 .exact np
 .refine aS.q _ r_ r_ λρ w' H=>?_;have⟨K,e6,p6⟩:=H.dep 6 17 k_;obtain rfl:K=.pointer (some ⟨S,0,none⟩):=p6;exact jx _ rfl e6 ((kC.next H.bel).cell 0)
 .refine aS.q _ r_ r_ λρ w' H=>?_;have⟨v7,e7,p7⟩:=H.dep 7 18 k_;obtain rfl:v7=.int .i64 A:=p7;exact nZ _ _ rfl (H.con _) e7 o_
 .refine aS.q _ r_ r_ λρ w' H=>?_;have⟨v8,e8,p8⟩:=H.dep 8 19 k_;obtain rfl:v8=.int .i64 (-2*A):=p8;exact bn.call 195 #[(-2*A:Int)] _ _ _ rfl (H.fn 195) (enters_of func195 k_ rfl) (by simp [e8]) ((fF (-2*A) o_ w').mono λe w2 ⟨v,h1,h2,h3⟩=>⟨v,h1,h3,h2.le (Vl aG H.bel.size)⟩)
 .exact gW
 .exact gW
 .exact fI
 .exact fI
 .refine aS.q _ r_ r_ λρ w' H=>?_;have⟨v9,e9,p9⟩:=H.dep 9 20 k_;have p9:(Wh b (-2*A)) v9 w':=p9;have⟨cT,ba,ab⟩:=H.dep 10 21 k_;have ab:(Wh b x) cT w':=ab;have⟨cb,cX,bz⟩:=H.dep 11 22 k_;have bz:(Wh b x) cb w':=bz;have⟨cG,cW,bq⟩:=H.dep 12 23 k_;have bq:(Wh b z) cG w':=bq;have⟨cN,cB,bZ⟩:=H.dep 13 24 k_;have bZ:(Wh b z) cN w':=bZ;exact yY _ _ _ _ _ _ _ _ _ _ rfl (by rw[e9];exact p9) (by rw[ba];exact ab) (by rw[cX];exact bz) (by rw[cW];exact bq) (by rw[cB];exact bZ)
 .refine aS.q _ r_ r_ λρ w' H=>?_;have⟨cm,cu,bX⟩:=H.dep 14 25 k_;have bX:(du [(-2*A),x,x,z,z]) cm w':=bX;exact bn.call 338 #[cm] _ _ _ rfl (H.fn 338) (enters_of func338 k_ rfl) (by simp [cu]) ((nh s_ (Vx.2 ⟨a2,Vx.2 ⟨x1,Vx.2 ⟨x1,Vx.2 ⟨z1,Vx.2 ⟨z1,λ_ h=>mA⟩⟩⟩⟩⟩) rfl _ w' bX).mono λe w2 ⟨v,h1,h2,h3⟩=>⟨v,h1,h3,h2.le (Vl aG H.bel.size)⟩)
 .exact uW
 .refine aS.q _ r_ r_ λρ w' H=>?_;have⟨c3,co,b8⟩:=H.dep 16 27 k_;obtain rfl:c3=.pointer (some ⟨S,1,none⟩):=b8;exact jx _ rfl co ((kC.next H.bel).cell 1)
 .refine aS.q _ r_ r_ λρ w' H=>?_;have⟨cv,cM,b4⟩:=H.dep 17 28 k_;obtain rfl:cv=.int .i64 B:=b4;exact nZ _ _ rfl (H.con _) cM o_
 .refine aS.q _ r_ r_ λρ w' H=>?_;have⟨cZ,cQ,b9⟩:=H.dep 18 29 k_;obtain rfl:cZ=.int .i64 (-8*B):=b9;exact bn.call 195 #[(-8*B:Int)] _ _ _ rfl (H.fn 195) (enters_of func195 k_ rfl) (by simp [cQ]) ((fF (-8*B) o_ w').mono λe w2 ⟨v,h1,h2,h3⟩=>⟨v,h1,h3,h2.le (Vl aG H.bel.size)⟩)
 .exact gW
 .exact fI
 .exact fI
 .exact fI
 .refine aS.q _ r_ r_ λρ w' H=>?_;have⟨cc,c4,bb⟩:=H.dep 19 30 k_;have bb:(Wh b (-8*B)) cc w':=bb;have⟨c1,cF,ae⟩:=H.dep 20 31 k_;have ae:(Wh b x) c1 w':=ae;have⟨ca,c2,bx⟩:=H.dep 21 32 k_;have bx:(Wh b z) ca w':=bx;have⟨d7,eG,b3⟩:=H.dep 22 33 k_;have b3:(Wh b z) d7 w':=b3;have⟨eP,ey,bs⟩:=H.dep 23 34 k_;have bs:(Wh b z) eP w':=bs;exact yY _ _ _ _ _ _ _ _ _ _ rfl (by rw[c4];exact bb) (by rw[cF];exact ae) (by rw[c2];exact bx) (by rw[eG];exact b3) (by rw[ey];exact bs)
 .refine aS.q _ r_ r_ λρ w' H=>?_;have⟨c9,eH,a4⟩:=H.dep 24 35 k_;have a4:(du [(-8*B),x,z,z,z]) c9 w':=a4;exact bn.call 338 #[c9] _ _ _ rfl (H.fn 338) (enters_of func338 k_ rfl) (by simp [eH]) ((nh s_ (Vx.2 ⟨b2,Vx.2 ⟨x1,Vx.2 ⟨z1,Vx.2 ⟨z1,Vx.2 ⟨z1,λ_ h=>mA⟩⟩⟩⟩⟩) rfl _ w' a4).mono λe w2 ⟨v,h1,h2,h3⟩=>⟨v,h1,h3,h2.le (Vl aG H.bel.size)⟩)
 .exact np
 .refine aS.q _ r_ r_ λρ w' H=>?_;have⟨dc,ea,d4⟩:=H.dep 26 37 k_;obtain rfl:dc=.pointer (some ⟨S,0,none⟩):=d4;exact jx _ rfl ea ((kC.next H.bel).cell 0)
 .exact np
 .refine aS.q _ r_ r_ λρ w' H=>?_;have⟨dz,dl,en⟩:=H.dep 28 39 k_;obtain rfl:dz=.pointer (some ⟨S,0,none⟩):=en;exact jx _ rfl dl ((kC.next H.bel).cell 0)
 .refine aS.q _ r_ r_ λρ w' H=>?_;have⟨d9,es,dy⟩:=H.dep 27 38 k_;obtain rfl:d9=.int .i64 A:=dy;have⟨db,d6,d0⟩:=H.dep 29 40 k_;obtain rfl:db=.int .i64 A:=d0;exact nZ _ _ rfl es d6 o_
 .refine aS.q _ r_ r_ λρ w' H=>?_;have⟨em,ez,ev⟩:=H.dep 30 41 k_;obtain rfl:em=.int .i64 (A*A):=ev;exact bn.call 195 #[(A*A:Int)] _ _ _ rfl (H.fn 195) (enters_of func195 k_ rfl) (by simp [ez]) ((fF (A*A) o_ w').mono λe w2 ⟨v,h1,h2,h3⟩=>⟨v,h1,h3,h2.le (Vl aG H.bel.size)⟩)
 .exact fI
 .exact fI
 .exact fI
 .exact fI
 .refine aS.q _ r_ r_ λρ w' H=>?_;have⟨dx,dq,a1⟩:=H.dep 31 42 k_;have a1:(Wh b (A*A)) dx w':=a1;have⟨dd,eb,b1⟩:=H.dep 32 43 k_;have b1:(Wh b z) dd w':=b1;have⟨ec,da,b7⟩:=H.dep 33 44 k_;have b7:(Wh b z) ec w':=b7;have⟨eg,d3,bv⟩:=H.dep 34 45 k_;have bv:(Wh b z) eg w':=bv;have⟨dp,eB,I⟩:=H.dep 35 46 k_;have I:(Wh b z) dp w':=I;exact yY _ _ _ _ _ _ _ _ _ _ rfl (by rw[dq];exact a1) (by rw[eb];exact b1) (by rw[da];exact b7) (by rw[d3];exact bv) (by rw[eB];exact I)
 .refine aS.q _ r_ r_ λρ w' H=>?_;have⟨c6,d1,c5⟩:=H.dep 36 47 k_;have c5:(du [(A*A),z,z,z,z]) c6 w':=c5;exact bn.call 338 #[c6] _ _ _ rfl (H.fn 338) (enters_of func338 k_ rfl) (by simp [d1]) ((nh s_ (Vx.2 ⟨aa,Vx.2 ⟨z1,Vx.2 ⟨z1,Vx.2 ⟨z1,Vx.2 ⟨z1,λ_ h=>mA⟩⟩⟩⟩⟩) rfl _ w' c5).mono λe w2 ⟨v,h1,h2,h3⟩=>⟨v,h1,h3,h2.le (Vl aG H.bel.size)⟩)
 .refine aS.q _ r_ r_ λρ w' H=>?_;have⟨v5,e5,p5⟩:=H.dep 5 16 k_;have p5:(Wh b (pr [x,x,x,x])) v5 w':=p5;have⟨c0,cy,a5⟩:=H.dep 15 26 k_;have a5:(Wh b (pr [-2*A,x,x,z,z])) c0 w':=a5;have⟨d5,ed,a3⟩:=H.dep 25 36 k_;have a3:(Wh b (pr [-8*B,x,z,z,z])) d5 w':=a3;have⟨d8,el,b5⟩:=H.dep 37 48 k_;have b5:(Wh b (pr [A*A,z,z,z,z])) d8 w':=b5;exact uO _ _ _ _ _ _ _ _ rfl (by rw[e5];exact p5) (by rw[cy];exact a5) (by rw[ed];exact a3) (by rw[el];exact b5)
 .refine aS.q _ r_ r_ λρ w' H=>?_;have⟨c7,ee,cA⟩:=H.dep 38 49 k_;have cA:(du [(pr [x,x,x,x]),(pr [-2*A,x,x,z,z]),(pr [-8*B,x,z,z,z]),(pr [A*A,z,z,z,z])]) c7 w':=cA;exact bn.call 337 #[c7] _ _ _ rfl (H.fn 337) (enters_of func337 k_ rfl) (by simp [ee]) ((hM.out _ w' cA).mono λe w2 ⟨v,h1,h2,h3⟩=>⟨v,h1,h3,h2.le (Vl aG H.bel.size)⟩)
 intro vs Wt ac aM;have c8:(Wh b (bm A B x z)) (vs 39) Wt:=aM.1 39 o_;simp only[eM,Nat.reduceBEq,WT,WK,Nat.reduceAdd,VQ,V1];have⟨b6,aL,Z,aF⟩:=c8.cell;obtain⟨G,F,rfl,_⟩:=id Z.1;simp only[aL];replace V:=V.next ac
 have⟨x0,x1⟩:=V.q2;have⟨x2,x3⟩:=V.f2;have k9:bG b (S+2) (bm A B x z) ((Wt.setCell ⟨S+2,0,none⟩ (decide (bm A B x z<0))).setCell ⟨S+2,1,none⟩ (.slice G (dg (bm A B x z).natAbs).length F)):=bG.put V rfl Z aF;have ad:af S w ((Wt.setCell ⟨S+2,0,none⟩ (decide (bm A B x z<0))).setCell ⟨S+2,1,none⟩ (.slice G (dg (bm A B x z).natAbs).length F)):=((ag ac a9 J).setCell s_ _).setCell s_ _;have k8:=(V.set 0 (decide (bm A B x z<0))).set 1 (.slice G (dg (bm A B x z).natAbs).length F);have r9:aW ((Wt.setCell ⟨S+2,0,none⟩ (decide (bm A B x z<0))).setCell ⟨S+2,1,none⟩ (.slice G (dg (bm A B x z).natAbs).length F)) b (.slice G (dg (bm A B x z).natAbs).length F) (dg (bm A B x z).natAbs):=Z.far d_ V (kt _ _ _ _);go_wp2;generalize (setCell (setCell _ _ _) _ _)=w9 at *;have⟨q0,q1⟩:=k8.q2;exact Vk (v:=.agg #[decide (bm A B x z<0),(.slice G (dg (bm A B x z).natAbs).length F)]) (by simp [results,results341,go_sem,q0,q1]) rfl vi
def wU(A B x z:Int)(b:Nat)(lx lz:Value)(hA:bh A)(hB:a_ B)(zx:Sz 80 x)(zz:Sz 80 z)(w:World)(hb:b<=w.heap.size)(aZ:aW w b lx (dg x.natAbs))(a8:aW w b lz (dg z.natAbs)):
 Kp 306 #[.agg #[A,B],.agg #[decide (x<0),lx,decide (z<0),lz]] w (wL b (aT A B x z) w):=by
 obtain⟨kC,kT,V,J⟩:=qo w #[A,B] 42 #[decide (x<0),lx,decide (z<0),lz] 209 #[false,.slice none 0 0] 182;have a6:(((w.alloc (.cells #[A,B] 42)).alloc (.cells #[decide (x<0),lx,decide (z<0),lz] 209)).alloc (.cells #[false,.slice none 0 0] 182)).heap.size=w.heap.size+3:=s_;have rx:=aZ.below J;have rz:=a8.below J;obtain⟨ax,cx,rfl,_⟩:=id aZ.1;obtain⟨az,cz,rfl,_⟩:=id a8.1;clear aZ a8;simp at kT V;have x1:Sz 1000 x:=zx.mono o_;have z1:Sz 1000 z:=zz.mono o_;have a1:Sz 1000 A:=(Sz.of1 o_ o_).mono o_;have b1:Sz 1000 B:=(Sz.of4 o_ o_).mono o_;obtain⟨I,hI⟩:∃I,sm [pr [x,x,x],pr [A,x,z,z],pr [B,z,z,z]]=I:=⟨_,rfl⟩
 have b5:I=x*x*x+x*(z*z)*A+z*(z*z)*B:=by rw[<-hI];simp only[sm,pr];grind
 have zI:Sz 1000 I:=by
  rw[b5];exact (((((zx.mul zx).mul zx).mono (n:=300) o_).add (((zx.mul (zz.mul zz)).mul (Sz.of1 (x:=A) o_ o_)).mono (n:=300) o_)).add (((zz.mul (zz.mul zz)).mul (Sz.of4 (x:=B) o_ o_)).mono (n:=301) o_)).mono o_
 have hM:Hid (∀v w,jF w v [pr [x,x,x],pr [A,x,z,z],pr [B,z,z,z]]->Kp 337 #[v] w (dP I w)):=Di s_ (by
  simp only[Vx];exact⟨oK s_ (by simp [x1]),oK s_ (by simp [x1,z1,a1]),oK s_ (by simp [z1,b1]),λ_ h=>by cases h⟩) hI
 have h4:Sz 1000 4:=(Sz.of1 o_ o_).mono o_;have hP:Hid (∀v w,jF w v [4,z,I]->Kp 338 #[v] w (dP (aT A B x z) w)):=nh s_ (by simp [h4,z1,zI]) (by simp only[pr,aT];rw[b5];grind);clear hI b5 zI;clear zx zz;obtain⟨S,hS⟩:∃S,w.heap.size=S:=⟨_,rfl⟩
 go_enter func306,ntmps306;go_upto_region 1 with fail
 generalize ((w.alloc _).alloc _).alloc _=W at *;rw[hS] at kC kT V J a6 hb;have HS:=h_ hS;clear hS;have aG:b<=W.heap.size:=o_;have a9:S<=W.heap.size:=o_;clear a6;have⟨t0,t1,t2,t3,t4⟩:=kT.p4;apply tv (λr5 r6 Wz=>ai [] W Wz/\(λ_=>True) Wz/\W.heap.size<=r5/\W.heap.size<=r6/\r6≠r5/\ah r5 #[decide (x<0),.slice ax (dg x.natAbs).length cx] 182 Wz/\ah r6 #[decide (z<0),.slice az (dg z.natAbs).length cz] 182 Wz)
 .exact wF
 rintro r5 r6 W2 ⟨bi,_,h5,h6,d5,k5,U⟩;have g:af W W W2:=bi.below;have kx:bG b r5 x W2:=⟨_,k5,rx.below g,rfl⟩
 have kz:bG b r6 z W2:=⟨_,U,rz.below g,rfl⟩
 replace kC:=kC.next g
 replace V:=V.next g
 replace J:af S w _:=ag g a9 J;replace aG:=Vl aG g.size;replace a9:=Vl a9 g.size;clear bi k5 U rx rz t0 t1 t2 t3 t4 kT g;go_upto_region 2 with fail
 refine jl 24 [23] [(23,7),(0,12),(1,13),(2,14),(3,15),(4,16),(5,17),(6,18),(7,19),(8,20),(9,21),(10,22),(11,23),(12,24),(13,25),(14,26),(15,27),(16,28),(17,29),(18,30),(19,31),(20,32),(21,33),(22,34)] [Wh b x,Wh b x,Wh b x,du [x,x,x],Wh b (pr [x,x,x]),aV (.pointer (some ⟨S,0,none⟩)),aV A,Wh b A,Wh b x,Wh b z,Wh b z,du [A,x,z,z],Wh b (pr [A,x,z,z]),aV (.pointer (some ⟨S,1,none⟩)),aV B,Wh b B,Wh b z,Wh b z,Wh b z,du [B,z,z,z],Wh b (pr [B,z,z,z]),du [(pr [x,x,x]),(pr [A,x,z,z]),(pr [B,z,z,z])],Wh b I,PA W2.heap.size #[false,.slice none 0 0] 182] k_ k_ k_ ⟨⟨_,_,_,rfl⟩,trivial⟩ ⟨Wh.closed _ _,Wh.closed _ _,Wh.closed _ _,du.closed _,Wh.closed _ _,aV.closed _,aV.closed _,Wh.closed _ _,Wh.closed _ _,Wh.closed _ _,Wh.closed _ _,du.closed _,Wh.closed _ _,aV.closed _,aV.closed _,Wh.closed _ _,Wh.closed _ _,Wh.closed _ _,Wh.closed _ _,du.closed _,Wh.closed _ _,du.closed _,Wh.closed _ _,PA.closed _ _ _,trivial⟩ ⟨?_,?_,?_,?_,?_,?_,?_,?_,?_,?_,?_,?_,?_,?_,?_,?_,?_,?_,?_,?_,?_,?_,?_,?_,trivial⟩ ?_
 .exact gW
 .exact gW
 .exact gW
 .refine aS.q _ r_ r_ λρ w' H=>?_;obtain⟨v0,e0,p0⟩:=H.dep 0 12 k_;have p0:(Wh b x) v0 w':=p0;have⟨v1,e1,p1⟩:=H.dep 1 13 k_;have p1:(Wh b x) v1 w':=p1;have⟨v2,e2,p2⟩:=H.dep 2 14 k_;have p2:(Wh b x) v2 w':=p2;exact Kk
 .refine aS.q _ r_ r_ λρ w' H=>?_;have⟨v3,e3,p3⟩:=H.dep 3 15 k_;have p3:(du [x,x,x]) v3 w':=p3;exact bn.call 338 #[v3] _ _ _ rfl (H.fn 338) (enters_of func338 k_ rfl) (by simp [e3]) ((nh s_ (Vx.2 ⟨x1,Vx.2 ⟨x1,Vx.2 ⟨x1,λ_ h=>mA⟩⟩⟩) rfl _ w' p3).mono λe w2 ⟨v,h1,h2,h3⟩=>⟨v,h1,h3,h2.le (Vl aG H.bel.size)⟩)
 .exact np
 .refine aS.q _ r_ r_ λρ w' H=>?_;have⟨v5,e5,p5⟩:=H.dep 5 17 k_;exact AE
 .refine aS.q _ r_ r_ λρ w' H=>?_;have⟨K,e6,p6⟩:=H.dep 6 18 k_;obtain rfl:K=.int .i64 A:=p6;exact bn.call 195 #[A] _ _ _ rfl (H.fn 195) (enters_of func195 k_ rfl) (by simp [e6]) ((fF A o_ w').mono λe w2 ⟨v,h1,h2,h3⟩=>⟨v,h1,h3,h2.le (Vl aG H.bel.size)⟩)
 .exact gW
 .exact fI
 .exact fI
 .refine aS.q _ r_ r_ λρ w' H=>?_;have⟨v7,e7,p7⟩:=H.dep 7 19 k_;have p7:(Wh b A) v7 w':=p7;have⟨v8,e8,p8⟩:=H.dep 8 20 k_;have p8:(Wh b x) v8 w':=p8;have⟨v9,e9,p9⟩:=H.dep 9 21 k_;have p9:(Wh b z) v9 w':=p9;have⟨cT,ba,ab⟩:=H.dep 10 22 k_;have ab:(Wh b z) cT w':=ab;exact uO _ _ _ _ _ _ _ _ rfl (by rw[e7];exact p7) (by rw[e8];exact p8) (by rw[e9];exact p9) (by rw[ba];exact ab)
 .refine aS.q _ r_ r_ λρ w' H=>?_;have⟨cb,cX,bz⟩:=H.dep 11 23 k_;have bz:(du [A,x,z,z]) cb w':=bz;exact bn.call 338 #[cb] _ _ _ rfl (H.fn 338) (enters_of func338 k_ rfl) (by simp [cX]) ((nh s_ (Vx.2 ⟨a1,Vx.2 ⟨x1,Vx.2 ⟨z1,Vx.2 ⟨z1,λ_ h=>mA⟩⟩⟩⟩) rfl _ w' bz).mono λe w2 ⟨v,h1,h2,h3⟩=>⟨v,h1,h3,h2.le (Vl aG H.bel.size)⟩)
 .exact uW
 .refine aS.q _ r_ r_ λρ w' H=>?_;have⟨cN,cB,bZ⟩:=H.dep 13 25 k_;obtain rfl:cN=.pointer (some ⟨S,1,none⟩):=bZ;exact jx _ rfl cB ((kC.next H.bel).cell 1)
 .refine aS.q _ r_ r_ λρ w' H=>?_;have⟨cm,cu,bX⟩:=H.dep 14 26 k_;obtain rfl:cm=.int .i64 B:=bX;exact bn.call 195 #[B] _ _ _ rfl (H.fn 195) (enters_of func195 k_ rfl) (by simp [cu]) ((fF B o_ w').mono λe w2 ⟨v,h1,h2,h3⟩=>⟨v,h1,h3,h2.le (Vl aG H.bel.size)⟩)
 .exact fI
 .exact fI
 .exact fI
 .refine aS.q _ r_ r_ λρ w' H=>?_;have⟨c0,cy,a5⟩:=H.dep 15 27 k_;have a5:(Wh b B) c0 w':=a5;have⟨c3,co,b8⟩:=H.dep 16 28 k_;have b8:(Wh b z) c3 w':=b8;have⟨cv,cM,b4⟩:=H.dep 17 29 k_;have b4:(Wh b z) cv w':=b4;have⟨cZ,cQ,b9⟩:=H.dep 18 30 k_;have b9:(Wh b z) cZ w':=b9;exact uO _ _ _ _ _ _ _ _ rfl (by rw[cy];exact a5) (by rw[co];exact b8) (by rw[cM];exact b4) (by rw[cQ];exact b9)
 .refine aS.q _ r_ r_ λρ w' H=>?_;have⟨cc,c4,bb⟩:=H.dep 19 31 k_;have bb:(du [B,z,z,z]) cc w':=bb;exact bn.call 338 #[cc] _ _ _ rfl (H.fn 338) (enters_of func338 k_ rfl) (by simp [c4]) ((nh s_ (Vx.2 ⟨b1,Vx.2 ⟨z1,Vx.2 ⟨z1,Vx.2 ⟨z1,λ_ h=>mA⟩⟩⟩⟩) rfl _ w' bb).mono λe w2 ⟨v,h1,h2,h3⟩=>⟨v,h1,h3,h2.le (Vl aG H.bel.size)⟩)
 .refine aS.q _ r_ r_ λρ w' H=>?_;have⟨v4,e4,p4⟩:=H.dep 4 16 k_;have p4:(Wh b (pr [x,x,x])) v4 w':=p4;have⟨cG,cW,bq⟩:=H.dep 12 24 k_;have bq:(Wh b (pr [A,x,z,z])) cG w':=bq;have⟨c1,cF,ae⟩:=H.dep 20 32 k_;have ae:(Wh b (pr [B,z,z,z])) c1 w':=ae;exact Ft _ _ _ _ _ _ rfl (by rw[e4];exact p4) (by rw[cW];exact bq) (by rw[cF];exact ae)
 .refine aS.q _ r_ r_ λρ w' H=>?_;have⟨ca,c2,bx⟩:=H.dep 21 33 k_;have bx:(du [(pr [x,x,x]),(pr [A,x,z,z]),(pr [B,z,z,z])]) ca w':=bx;exact bn.call 337 #[ca] _ _ _ rfl (H.fn 337) (enters_of func337 k_ rfl) (by simp [c2]) ((hM.out _ w' bx).mono λe w2 ⟨v,h1,h2,h3⟩=>⟨v,h1,h3,h2.le (Vl aG H.bel.size)⟩)
 .exact kK
 intro vs Wt ac aM;have c5:(Wh b I) (vs 22) Wt:=aM.1 22 o_;have aa:(PA W2 #[false,.slice none 0 0] 182) (vs 23) Wt:=aM.1 23 o_;have⟨r7,b7,a3,a2⟩:=aa;simp only[eM,Nat.reduceBEq,WT,WK,Nat.reduceAdd,VQ,V1,b7];have⟨dc,b3,bv,b2⟩:=c5.cell;obtain⟨bs,a4,rfl,_⟩:=id bv.1;simp only[b3];have⟨x0,x1⟩:=a2.q2;have⟨x2,x3⟩:=a2.f2;have x4:=a2.lt;have kI:=bG.put a2 rfl bv b2;have g:af W2 W2 ((Wt.setCell r7 (decide (I<0))).setCell ⟨r7,1,none⟩ (.slice bs (dg I.natAbs).length a4)):=(ac.setCell a3 _).setCell a3 _;replace V:=V.next g
 replace kx:=kx.next g
 replace kz:=kz.next g
 replace J:af S w _:=ag g a9 J;replace aG:=Vl aG g.size;replace a9:=Vl a9 g.size;go_upto_region 3 with fail
 generalize (setCell (setCell _ _ _) _ _)=W3 at *;refine jl 5 [] [(0,35),(1,36),(2,37),(3,38),(4,39)] [Wh b 4,Wh b z,Wh b I,du [4,z,I],Wh b (aT A B x z)] k_ k_ k_ trivial ⟨Wh.closed _ _,Wh.closed _ _,Wh.closed _ _,du.closed _,Wh.closed _ _,trivial⟩ ⟨?_,?_,?_,?_,?_,trivial⟩ ?_
 .exact aS.q _ r_ r_ λρ w' H=>bn.call 195 #[(Value.int IntKind.i64 4)] _ _ _ rfl (H.fn 195) (enters_of func195 k_ rfl) (by simp [H.con]) ((fF 4 o_ w').mono λe w2 ⟨v,h1,h2,h3⟩=>⟨v,h1,h3,h2.le (Vl aG H.bel.size)⟩)
 .exact fI
 .refine aS.q _ r_ r_ λρ w' H=>?_;have hx:ρ (.tmp 7)=.pointer r7:=H.bas 7 k_;exact lN _ rfl hx (kI.next H.bel)
 .refine aS.q _ r_ r_ λρ w' H=>?_;have⟨v0,e0,p0⟩:=H.dep 0 35 k_;have p0:(Wh b 4) v0 w':=p0;have⟨v1,e1,p1⟩:=H.dep 1 36 k_;have p1:(Wh b z) v1 w':=p1;have⟨v2,e2,p2⟩:=H.dep 2 37 k_;have p2:(Wh b I) v2 w':=p2;exact Kk
 .refine aS.q _ r_ r_ λρ w' H=>?_;have⟨v3,e3,p3⟩:=H.dep 3 38 k_;have p3:(du [4,z,I]) v3 w':=p3;exact bn.call 338 #[v3] _ _ _ rfl (H.fn 338) (enters_of func338 k_ rfl) (by simp [e3]) ((hP.out _ w' p3).mono λe w2 ⟨v,h1,h2,h3⟩=>⟨v,h1,h3,h2.le (Vl aG H.bel.size)⟩)
 intro vs Wt ac aM;have cA:(Wh b (aT A B x z)) (vs 4) Wt:=aM.1 4 o_;simp only[eM,Nat.reduceBEq,WT,WK,Nat.reduceAdd,VQ,V1];obtain⟨b6,aL,Z,aF⟩:=cA.cell;obtain⟨G,F,rfl,_⟩:=id Z.1;simp only[aL];replace V:=V.next ac
 have c6:=V.lt;have⟨x0,x1⟩:=V.q2;have⟨x2,x3⟩:=V.f2;have k9:bG b (S+2) (aT A B x z) ((Wt.setCell ⟨S+2,0,none⟩ (decide (aT A B x z<0))).setCell ⟨S+2,1,none⟩ (.slice G (dg (aT A B x z).natAbs).length F)):=bG.put V rfl Z aF;have ad:af S w ((Wt.setCell ⟨S+2,0,none⟩ (decide (aT A B x z<0))).setCell ⟨S+2,1,none⟩ (.slice G (dg (aT A B x z).natAbs).length F)):=((ag ac a9 J).setCell s_ _).setCell s_ _;have k8:=(V.set 0 (decide (aT A B x z<0))).set 1 (.slice G (dg (aT A B x z).natAbs).length F);have r9:aW ((Wt.setCell ⟨S+2,0,none⟩ (decide (aT A B x z<0))).setCell ⟨S+2,1,none⟩ (.slice G (dg (aT A B x z).natAbs).length F)) b (.slice G (dg (aT A B x z).natAbs).length F) (dg (aT A B x z).natAbs):=Z.far d_ V (kt _ _ _ _);clear cA ac V aL Z aF J k9;go_wp2;generalize (setCell (setCell _ _ _) _ _)=w9 at *;have⟨q0,q1⟩:=k8.q2;refine Vk (v:=.agg #[decide (aT A B x z<0),(.slice G (dg (aT A B x z).natAbs).length F)]) (by simp [results,results306,go_sem,q0,q1]) rfl ?_;exact vi
def Ji(h:P:=by
 have p0:(Wh b x) v0 w':=p0;exact bn.call 315 #[v0] _ _ _ rfl (H.fn 315) (enters_of func315 k_ rfl) (by simp [e0]) ((qD x v0 x1 w' p0.rd).mono λe w2 ⟨v,h1,h2,h3⟩=>⟨v,h1,h3,h2.le (Vl aG H.bel.size)⟩)):=h
def Ix(h:P:=by
 refine aS.q _ r_ r_ λρ w' H=>?_;have hx:ρ (.tmp 7)=.pointer (some ⟨r7,0,none⟩):=H.bas 7 k_;exact lN _ rfl hx (ba.next H.bel)):=h
def Jj(h:P:=by
 refine aS.q _ r_ r_ λρ w' H=>?_;have hx:ρ (.tmp 7)=.pointer (some ⟨r7,0,none⟩):=H.bas 7 k_;exact lN _ rfl hx (ae.next H.bel)):=h
def zS(h:P:=by
 refine aS.q _ r_ r_ λρ w' H=>?_;have hx:ρ (.tmp 8)=.pointer (some ⟨r8,0,none⟩):=H.bas 8 k_;exact lN _ rfl hx (ae.next H.bel)):=h
def Kl(h:P:=by
 refine aS.q _ r_ r_ λρ w' H=>?_;have hx:ρ (.tmp 8)=.pointer (some ⟨r8,0,none⟩):=H.bas 8 k_;exact lN _ rfl hx (kO.next H.bel)):=h
def FF(h:P:=by
 refine aS.q _ r_ r_ λρ w' H=>?_;have hx:ρ (.tmp 9)=.pointer (some ⟨r9,0,none⟩):=H.bas 9 k_;exact lN _ rfl hx (kO.next H.bel)):=h
def nr{M N K}(hM:Sz 1000 M)(hN:Sz 1000 N)(he:M*N=K)(a b)(w)(ha:br M a w)(hb:br N b w):Kp 317 #[a,b] w (dP K w):=he▸EJ M N a b (Vl hM.len o_) (Vl hN.len o_) w ha hb
def Ia{M N K}(hM:Sz 1000 M)(hN:Sz 1000 N)(he:M - N=K)(a b)(w)(ha:br M a w)(hb:br N b w):Kp 349 #[a,b] w (dP K w):=by
 have h:=Ex M N a b (Vl hM.len o_) (Vl hN.len o_) w ha hb;rw[<-YO,he] at h;exact h
def Ak{M N K}(hM:Sz 1000 M)(hN:Sz 1000 N)(he:M+N=K)(a b)(w)(ha:br M a w)(hb:br N b w):Kp 316 #[a,b] w (dP K w):=he▸EZ M N a b (Vl hM.len o_) (Vl hN.len o_) w ha hb
def pm{M n K}(hM:Sz 1000 M)(hn:-1000000000000000000<=n/\n<=1000000000000000000)(he:M*n=K)(a)(w)(ha:br M a w):Kp 318 #[a,n] w (dP K w):=he▸Qz M n a (Vl hM.len o_) hn w ha
def qD(M)(a)(hM:Sz 1000 M)(w)(ha:br M a w):
 Kp 315 #[a] w (dP (M*M) w):=by
 have HW:=h_ ha;obtain⟨la,rfl,a3⟩:=ha;have⟨kA,kS,J⟩:=cO w #[decide (M<0),la] 182 #[false,.slice none 0 0] 182;have a6:=J.size;obtain⟨ax,cx,rfl,_,_⟩:=a3;have HT:=h_ (λW (hb:af w w W)=>nr hM hM rfl _ _ W (br.below HW.out hb) (br.below HW.out hb));obtain⟨K,hK⟩:∃K,M*M=K:=⟨_,rfl⟩
 rw[hK] at HT ⊢;generalize decide (M<0)=sa,(dg M.natAbs).length=nx at *;go_enter func315,ntmps315;go_upto_region 1 with fail
 generalize (w.alloc _).alloc _=W,b7:w.heap.size+1=rs at *;have⟨a0,a1⟩:=kA.q2;go_wp2_with fail
 refine (HT.out W J).mono ?_;rintro e w1 ⟨v,rfl,ba,I⟩;obtain⟨lv,rfl,Z⟩:=ba;obtain⟨sl,H,rfl,_⟩:=id Z.1;have aZ:=kS.next I
 have⟨c0,c1⟩:=aZ.q2;have⟨z0,z1⟩:=aZ.f2;have aL:=ag I a6 J;have k9:=(aZ.set 0 (decide (K<0))).set 1 (.slice sl (dg K.natAbs).length H);have ad:af w w ((w1.setCell rs (decide (K<0))).setCell ⟨rs,1,none⟩ (.slice sl (dg K.natAbs).length H)):=(aL.setCell u_ _).setCell u_ _;have az:=Z.set2 (S:=rs) kS.lt (decide (K<0)) (.slice sl (dg K.natAbs).length H);replace az:aW _ w _ _:=az.le a6;go_wp2;generalize (setCell (setCell _ _ _) _ _)=w9 at ad k9 az ⊢;have⟨q0,q1⟩:=k9.q2;exact Vk (v:=.agg #[decide (K<0),.slice sl (dg K.natAbs).length H]) (by simp [results,results315,go_sem,q0,q1]) rfl ⟨_,rfl,⟨_,rfl,az⟩,ad⟩
def Sp(A B x z:Int)(b:Nat)(lx lz:Value)(hA:bh A)(hB:a_ B)(zx:Sz 80 x)(zz:Sz 80 z)(w)(hb:b<=w.heap.size)(aZ:aW w b lx (dg x.natAbs))(a8:aW w b lz (dg z.natAbs)):
 Kp 319 #[.agg #[A,B],.agg #[decide (x<0),lx,decide (z<0),lz]] w (wL b (bm A B x z) w):=by
 have⟨kC,kT,V,J⟩:=qo w #[A,B] 42 #[decide (x<0),lx,decide (z<0),lz] 209 #[false,.slice none 0 0] 182;have a6:(((w.alloc (.cells #[A,B] 42)).alloc (.cells #[decide (x<0),lx,decide (z<0),lz] 209)).alloc (.cells #[false,.slice none 0 0] 182)).heap.size=w.heap.size+3:=s_;have rx:=aZ.below J;have rz:=a8.below J;obtain⟨ax,cx,rfl,_⟩:=id aZ.1;obtain⟨az,cz,rfl,_⟩:=id a8.1;simp only[VG] at kT V;have x1:Sz 1000 x:=zx.mono o_;have z1:Sz 1000 z:=zz.mono o_;have cv:Sz 1000 (x*x):=(zx.mul zx).mono o_;have ca:Sz 1000 (z*z):=(zz.mul zz).mono o_;have sxz:Sz 1000 (x*z):=(zx.mul zz).mono o_;have q1:Sz 1000 (x*x*(x*x)):=((zx.mul zx).mul (zx.mul zx)).mono o_;have q2:Sz 1000 (x*x*(z*z)):=((zx.mul zx).mul (zz.mul zz)).mono o_;have q3:Sz 1000 (x*z*(z*z)):=((zx.mul zz).mul (zz.mul zz)).mono o_;have q4:Sz 1000 (z*z*(z*z)):=((zz.mul zz).mul (zz.mul zz)).mono o_;have p2:Sz 1000 (x*x*(z*z)*(2*A)):=(((zx.mul zx).mul (zz.mul zz)).mul (Sz.of1 (x:=2*A) o_ o_)).mono o_;have p3:Sz 1000 (x*z*(z*z)*(8*B)):=(((zx.mul zz).mul (zz.mul zz)).mul (Sz.of4 (x:=8*B) o_ o_)).mono o_;have d2:=aN (x:=A) (y:=A) 1000 1000 hA hA;have p4:Sz 1000 (z*z*(z*z)*(A*A)):=(((zz.mul zz).mul (zz.mul zz)).mul (Sz.of4 (x:=A*A) o_ o_)).mono o_;obtain⟨O1,bi⟩:∃O1,x*x*(x*x) - x*x*(z*z)*(2*A)=O1:=⟨_,rfl⟩
 obtain⟨I,bx⟩:∃I,O1 - x*z*(z*z)*(8*B)=I:=⟨_,rfl⟩
 have ab:I+z*z*(z*z)*(A*A)=bm A B x z:=by rw[<-bx,<-bi];rfl
 have s1:Sz 330 O1:=by
  rw[<-bi];exact ((((zx.mul zx).mul (zx.mul zx)).mono (n:=325) o_).sub ((((zx.mul zx).mul (zz.mul zz)).mul (Sz.of1 (x:=2*A) o_ o_)).mono (n:=325) o_)).mono o_
 have s2:Sz 331 I:=by
  rw[<-bx];exact s1.sub ((((zx.mul zz).mul (zz.mul zz)).mul (Sz.of4 (x:=8*B) o_ o_)).mono (n:=330) o_)
 replace s1:Sz 1000 O1:=s1.mono o_;replace s2:Sz 1000 I:=s2.mono o_;have E1:=h_ bi;have E2:=h_ bx;have E3:=h_ ab;obtain⟨S,hS⟩:∃S,w.heap.size=S:=⟨_,rfl⟩
 go_enter func319,ntmps319;go_upto_region 1 with fail
 generalize ((w.alloc _).alloc _).alloc _=W at *;rw[hS] at kC kT V J a6 hb;have HS:=h_ hS;have aG:b<=W.heap.size:=o_;have a9:S<=W.heap.size:=o_;have⟨t0,t1,t2,t3,t4⟩:=kT.p4;apply tv (λr5 r6 Wz=>ai [] W Wz/\(λ_=>True) Wz/\W.heap.size<=r5/\W.heap.size<=r6/\r6≠r5/\ah r5 #[decide (x<0),.slice ax (dg x.natAbs).length cx] 182 Wz/\ah r6 #[decide (z<0),.slice az (dg z.natAbs).length cz] 182 Wz)
 .exact wF
 rintro r5 r6 W2 ⟨bi,_,_,_,_,k5,U⟩;have g:=bi.below;have kx:bG b r5 x W2:=⟨_,k5,rx.below g,rfl⟩
 have kz:bG b r6 z W2:=⟨_,U,rz.below g,rfl⟩
 replace kC:=kC.next g
 replace V:=V.next g
 replace J:af S w _:=ag g a9 J;replace aG:=Vl aG g.size;replace a9:=Vl a9 g.size;go_upto_region 2 with fail
 refine jl 6 [4,5] [(4,7),(5,8),(0,14),(1,15),(2,16),(3,17)] [Wh b x,Wh b (x*x),Wh b z,Wh b (z*z),PA W2 #[false,.slice none 0 0] 182,PA W2 #[false,.slice none 0 0] 182] k_ k_ k_ ⟨⟨_,_,_,rfl⟩,⟨_,_,_,rfl⟩,trivial⟩ ⟨Wh.closed _ _,Wh.closed _ _,Wh.closed _ _,Wh.closed _ _,PA.closed _ _ _,PA.closed _ _ _,trivial⟩ ⟨?_,?_,?_,?_,?_,?_,trivial⟩ ?_
 .exact gW
 .refine aS.q _ r_ r_ λρ w' H=>?_;have⟨v0,e0,p0⟩:=H.dep 0 14 k_;exact Ji
 .exact fI
 .refine aS.q _ r_ r_ λρ w' H=>?_;have⟨v2,e2,p2⟩:=H.dep 2 16 k_;have p2:(Wh b z) v2 w':=p2;exact bn.call 315 #[v2] _ _ _ rfl (H.fn 315) (enters_of func315 k_ rfl) (by simp [e2]) ((qD z v2 z1 w' p2.rd).mono λe w2 ⟨v,h1,h2,h3⟩=>⟨v,h1,h3,h2.le (Vl aG H.bel.size)⟩)
 .exact kK
 .exact kK
 intro vs Wt ac aM;have b8:(Wh b (x*x)) (vs 1) Wt:=aM.1 1 o_;have cu:(Wh b (z*z)) (vs 3) Wt:=aM.1 3 o_;have cA:(PA W2 #[false,.slice none 0 0] 182) (vs 4) Wt:=aM.1 4 o_;have cW:(PA W2 #[false,.slice none 0 0] 182) (vs 5) Wt:=aM.1 5 o_;have⟨r7,b7,a3,a2⟩:=cA;have⟨r8,cy,cb,a5⟩:=cW;have bX:r8≠r7:=λh=>aM.2 5 4 o_ o_ o_ s_ s_ (by rw[cy,b7,h]);simp only[eM,Nat.reduceBEq,WT,WK,Nat.reduceAdd,VQ,V1,b7,cy];have⟨dc,b3,bv,b2⟩:=b8.cell;obtain⟨bs,a4,rfl,_⟩:=id bv.1;simp only[b3];have⟨d0,cM,b4,cN⟩:=cu.cell;obtain⟨bz,bZ,rfl,_⟩:=id b4.1;simp only[cM];have⟨x0,x1⟩:=a2.q2;have⟨x2,x3⟩:=a2.f2;have x4:=a2.lt;have⟨y0,y1⟩:=a5.q2;have⟨y2,y3⟩:=a5.f2;have y4:=a5.lt;have ba:=bG.put a2 rfl bv b2;have kk:=(a5.far (p:=r7) bX (decide (x*x<0))).far (p:=⟨r7,1,none⟩) bX (.slice bs (dg (x*x).natAbs).length a4);have a1:af W2 W2 ((Wt.setCell r7 (decide (x*x<0))).setCell ⟨r7,1,none⟩ (.slice bs (dg (x*x).natAbs).length a4)):=(ac.setCell a3 _).setCell a3 _;have b9:aW ((Wt.setCell r7 (decide (x*x<0))).setCell ⟨r7,1,none⟩ (.slice bs (dg (x*x).natAbs).length a4)) b (.slice bz (dg (z*z).natAbs).length bZ) (dg (z*z).natAbs):=b4.far d_ a2 (kt _ _ _ _);replace ba:=ba.far (Ne.symm bX) kk (decide (z*z<0)) (.slice bz (dg (z*z).natAbs).length bZ);have ae:bG b r8 (z*z) ((((Wt.setCell ⟨r7,0,none⟩ (decide (x*x<0))).setCell ⟨r7,1,none⟩ (.slice bs (dg (x*x).natAbs).length a4)).setCell ⟨r8,0,none⟩ (decide (z*z<0))).setCell ⟨r8,1,none⟩ (.slice bz (dg (z*z).natAbs).length bZ)):=bG.put kk rfl b9 cN;have g:af W2 W2 ((((Wt.setCell ⟨r7,0,none⟩ (decide (x*x<0))).setCell ⟨r7,1,none⟩ (.slice bs (dg (x*x).natAbs).length a4)).setCell ⟨r8,0,none⟩ (decide (z*z<0))).setCell ⟨r8,1,none⟩ (.slice bz (dg (z*z).natAbs).length bZ)):=(a1.setCell (p:=⟨r8,0,none⟩) cb _).setCell (p:=⟨r8,1,none⟩) cb _;replace V:=V.next g
 replace kC:=kC.next g
 replace kx:=kx.next g
 replace kz:=kz.next g
 replace J:af S w _:=ag g a9 J;replace aG:=Vl aG g.size;replace a9:=Vl a9 g.size;clear b8 cu ac a2 a5 b3 bv b2 cM b4 cN kk a1 b9;go_upto_region 3 with fail
 generalize (setCell (setCell (setCell (setCell _ _ _) _ _) _ _) _ _)=W3 at *;clear x0 x1 x2 x3 x4 y0 y1 y2 y3 y4 g a3 cb;refine jl 11 [10] [(10,9),(0,18),(1,19),(2,20),(3,21),(4,22),(5,23),(6,24),(7,25),(8,26),(9,27)] [Wh b (x*x),Wh b (x*x*(x*x)),Wh b (x*x),Wh b (z*z),Wh b (x*x*(z*z)),aV (.pointer (some ⟨S,0,none⟩)),aV A,aV (2*A:Int),Wh b (x*x*(z*z)*(2*A)),Wh b O1,PA W3 #[false,.slice none 0 0] 182] k_ k_ k_ ⟨⟨_,_,_,rfl⟩,trivial⟩ ⟨Wh.closed _ _,Wh.closed _ _,Wh.closed _ _,Wh.closed _ _,Wh.closed _ _,aV.closed _,aV.closed _,aV.closed _,Wh.closed _ _,Wh.closed _ _,PA.closed _ _ _,trivial⟩ ⟨?_,?_,?_,?_,?_,?_,?_,?_,?_,?_,?_,trivial⟩ ?_
 .exact Ix
 .refine aS.q _ r_ r_ λρ w' H=>?_;have⟨v0,e0,p0⟩:=H.dep 0 18 k_;have p0:(Wh b (x*x)) v0 w':=p0;exact bn.call 315 #[v0] _ _ _ rfl (H.fn 315) (enters_of func315 k_ rfl) (by simp [e0]) ((qD (x*x) v0 cv w' p0.rd).mono λe w2 ⟨v,h1,h2,h3⟩=>⟨v,h1,h3,h2.le (Vl aG H.bel.size)⟩)
 .exact Ix
 .exact zS
 .refine aS.q _ r_ r_ λρ w' H=>?_;have⟨v2,e2,p2⟩:=H.dep 2 20 k_;have p2:(Wh b (x*x)) v2 w':=p2;have⟨v3,e3,p3⟩:=H.dep 3 21 k_;have p3:(Wh b (z*z)) v3 w':=p3;exact bn.call 317 #[v2,v3] _ _ _ rfl (H.fn 317) (enters_of func317 k_ rfl) (by simp [e2,e3]) ((nr cv ca rfl _ _ w' p2.rd p3.rd).mono λe w2 ⟨v,h1,h2,h3⟩=>⟨v,h1,h3,h2.le (Vl aG H.bel.size)⟩)
 .exact np
 .refine aS.q _ r_ r_ λρ w' H=>?_;have⟨v5,e5,p5⟩:=H.dep 5 23 k_;exact AE
 .refine aS.q _ r_ r_ λρ w' H=>?_;have⟨K,e6,p6⟩:=H.dep 6 24 k_;obtain rfl:K=.int .i64 A:=p6;exact nZ _ _ rfl (H.con _) e6 o_
 .refine aS.q _ r_ r_ λρ w' H=>?_;have⟨v4,e4,p4⟩:=H.dep 4 22 k_;have p4:(Wh b (x*x*(z*z))) v4 w':=p4;have⟨v7,e7,p7⟩:=H.dep 7 25 k_;obtain rfl:v7=.int .i64 (2*A):=p7;exact bn.call 318 #[v4,(2*A:Int)] _ _ _ rfl (H.fn 318) (enters_of func318 k_ rfl) (by simp [e4,e7]) ((pm q2 o_ rfl _ w' p4.rd).mono λe w2 ⟨v,h1,h2,h3⟩=>⟨v,h1,h3,h2.le (Vl aG H.bel.size)⟩)
 .refine aS.q _ r_ r_ λρ w' H=>?_;obtain⟨v1,e1,p1⟩:=H.dep 1 19 k_;have p1:(Wh b (x*x*(x*x))) v1 w':=p1;obtain⟨v8,e8,p8⟩:=H.dep 8 26 k_;have p8:(Wh b (x*x*(z*z)*(2*A))) v8 w':=p8;exact bn.call 349 #[v1,v8] _ _ _ rfl (H.fn 349) (enters_of func349 k_ rfl) (by simp [e1,e8]) ((Ia q1 p2 E1.out _ _ w' p1.rd p8.rd).mono λe w2 ⟨v,h1,h2,h3⟩=>⟨v,h1,h3,h2.le (Vl aG H.bel.size)⟩)
 .exact kK
 intro vs Wt ac aM;have b5:(Wh b O1) (vs 9) Wt:=aM.1 9 o_;have b1:(PA W3.heap.size #[false,.slice none 0 0] 182) (vs 10) Wt:=aM.1 10 o_;obtain⟨r9,cB,bb,bq⟩:=b1;clear aM;simp only[eM,Nat.reduceBEq,WT,WK,Nat.reduceAdd,VQ,V1,cB];have l5:=kx.lt;have l6:=kz.lt;have l7:=ba.lt;have l8:=ae.lt;have lR:=V.lt;have lC:=kC.lt;obtain⟨b6,aL,Z,aF⟩:=b5.cell;obtain⟨G,F,rfl,_⟩:=id Z.1;simp only[aL];have⟨x0,x1⟩:=bq.q2;have⟨x2,x3⟩:=bq.f2;have x4:=bq.lt;have kO:bG b r9 O1 ((Wt.setCell ⟨r9,0,none⟩ (decide (O1<0))).setCell ⟨r9,1,none⟩ (.slice G (dg O1.natAbs).length F)):=bG.put bq rfl Z aF;have g:af W3 W3 ((Wt.setCell ⟨r9,0,none⟩ (decide (O1<0))).setCell ⟨r9,1,none⟩ (.slice G (dg O1.natAbs).length F)):=(ac.setCell bb _).setCell bb _;replace V:=V.next g
 replace kC:=kC.next g
 replace kx:=kx.next g
 replace kz:=kz.next g
 replace ba:=ba.next g
 replace ae:=ae.next g
 replace J:af S w _:=ag g a9 J;replace aG:=Vl aG g.size;replace a9:=Vl a9 g.size;clear b5 ac bq aL Z aF;go_upto_region 4 with fail
 have n5:r5≠r9:=o_;have n6:r6≠r9:=o_;have n7:r7≠r9:=o_;have n8:r8≠r9:=o_;have nR:S+2≠r9:=o_;have nC:S≠r9:=o_;have cm:S<=r9:=o_;generalize (setCell (setCell _ _ _) _ _)=W4 at *;clear x0 x1 x2 x3 x4 g bb;refine jl 11 [] [(0,28),(1,29),(2,30),(3,31),(4,32),(5,33),(6,34),(7,35),(8,36),(9,37),(10,38)] [Wh b O1,Wh b x,Wh b z,Wh b (x*z),Wh b (z*z),Wh b (x*z*(z*z)),aV (.pointer (some ⟨S,1,none⟩)),aV B,aV (8*B:Int),Wh b (x*z*(z*z)*(8*B)),Wh b I] k_ k_ k_ trivial ⟨Wh.closed _ _,Wh.closed _ _,Wh.closed _ _,Wh.closed _ _,Wh.closed _ _,Wh.closed _ _,aV.closed _,aV.closed _,aV.closed _,Wh.closed _ _,Wh.closed _ _,trivial⟩ ⟨?_,?_,?_,?_,?_,?_,?_,?_,?_,?_,?_,trivial⟩ ?_
 .exact FF
 .exact gW
 .exact fI
 .refine aS.q _ r_ r_ λρ w' H=>?_;obtain⟨v1,e1,p1⟩:=H.dep 1 29 k_;have p1:(Wh b x) v1 w':=p1;obtain⟨v2,e2,p2⟩:=H.dep 2 30 k_;have p2:(Wh b z) v2 w':=p2;exact bn.call 317 #[v1,v2] _ _ _ rfl (H.fn 317) (enters_of func317 k_ rfl) (by simp [e1,e2]) ((nr x1 z1 rfl _ _ w' p1.rd p2.rd).mono λe w2 ⟨v,h1,h2,h3⟩=>⟨v,h1,h3,h2.le (Vl aG H.bel.size)⟩)
 .exact zS
 .refine aS.q _ r_ r_ λρ w' H=>?_;have⟨v3,e3,p3⟩:=H.dep 3 31 k_;have p3:(Wh b (x*z)) v3 w':=p3;have⟨v4,e4,p4⟩:=H.dep 4 32 k_;have p4:(Wh b (z*z)) v4 w':=p4;exact bn.call 317 #[v3,v4] _ _ _ rfl (H.fn 317) (enters_of func317 k_ rfl) (by simp [e3,e4]) ((nr sxz ca rfl _ _ w' p3.rd p4.rd).mono λe w2 ⟨v,h1,h2,h3⟩=>⟨v,h1,h3,h2.le (Vl aG H.bel.size)⟩)
 .exact uW
 .refine aS.q _ r_ r_ λρ w' H=>?_;have⟨K,e6,p6⟩:=H.dep 6 34 k_;obtain rfl:K=.pointer (some ⟨S,1,none⟩):=p6;exact jx _ rfl e6 ((kC.next H.bel).cell 1)
 .refine aS.q _ r_ r_ λρ w' H=>?_;have⟨v7,e7,p7⟩:=H.dep 7 35 k_;obtain rfl:v7=.int .i64 B:=p7;exact nZ _ _ rfl (H.con _) e7 o_
 .refine aS.q _ r_ r_ λρ w' H=>?_;have⟨v5,e5,p5⟩:=H.dep 5 33 k_;have p5:(Wh b (x*z*(z*z))) v5 w':=p5;have⟨v8,e8,p8⟩:=H.dep 8 36 k_;obtain rfl:v8=.int .i64 (8*B):=p8;exact bn.call 318 #[v5,(8*B:Int)] _ _ _ rfl (H.fn 318) (enters_of func318 k_ rfl) (by simp [e5,e8]) ((pm q3 o_ rfl _ w' p5.rd).mono λe w2 ⟨v,h1,h2,h3⟩=>⟨v,h1,h3,h2.le (Vl aG H.bel.size)⟩)
 .refine aS.q _ r_ r_ λρ w' H=>?_;have⟨v0,e0,p0⟩:=H.dep 0 28 k_;have p0:(Wh b O1) v0 w':=p0;have⟨v9,e9,p9⟩:=H.dep 9 37 k_;have p9:(Wh b (x*z*(z*z)*(8*B))) v9 w':=p9;exact bn.call 349 #[v0,v9] _ _ _ rfl (H.fn 349) (enters_of func349 k_ rfl) (by simp [e0,e9]) ((Ia s1 p3 E2.out _ _ w' p0.rd p9.rd).mono λe w2 ⟨v,h1,h2,h3⟩=>⟨v,h1,h3,h2.le (Vl aG H.bel.size)⟩)
 intro vs Wt ac aM;have b1:(Wh b I) (vs 10) Wt:=aM.1 10 o_;simp only[eM,Nat.reduceBEq,WT,WK,Nat.reduceAdd,VQ,V1];have⟨cQ,cG,cc,cF⟩:=b1.cell;obtain⟨slu,aa,rfl,_⟩:=id cc.1;simp only[cG];have⟨lo,ko,ro,co⟩:=kO.next ac
 have⟨x0,x1⟩:=ko.q2;have⟨x2,x3⟩:=ko.f2;have x4:=ko.lt;have kO:=bG.put ko rfl cc cF;replace kx:=(kx.next ac).far n5 ko (decide (I<0)) (.slice slu (dg I.natAbs).length aa);replace kz:=(kz.next ac).far n6 ko (decide (I<0)) (.slice slu (dg I.natAbs).length aa);replace ba:=(ba.next ac).far n7 ko (decide (I<0)) (.slice slu (dg I.natAbs).length aa);replace ae:=(ae.next ac).far n8 ko (decide (I<0)) (.slice slu (dg I.natAbs).length aa);replace kC:=((kC.next ac).far (p:=r9) nC (decide (I<0))).far (p:=⟨r9,1,none⟩) nC (.slice slu (dg I.natAbs).length aa);replace V:=((V.next ac).far (p:=r9) nR (decide (I<0))).far (p:=⟨r9,1,none⟩) nR (.slice slu (dg I.natAbs).length aa);replace J:af S w ((Wt.setCell r9 (decide (I<0))).setCell ⟨r9,1,none⟩ (.slice slu (dg I.natAbs).length aa)):=((ag ac a9 J).setCell cm _).setCell cm _;replace aG:=Vl aG ac.size;replace a9:=Vl a9 ac.size;replace aG:b<=(((Wt.setCell r9 (decide (I<0))).setCell ⟨r9,1,none⟩ (.slice slu (dg I.natAbs).length aa))).heap.size:=u_;replace a9:S<=(((Wt.setCell r9 (decide (I<0))).setCell ⟨r9,1,none⟩ (.slice slu (dg I.natAbs).length aa))).heap.size:=u_;go_upto_region 5 with fail
 generalize (setCell (setCell _ _ _) _ _)=W5 at *;refine jl 10 [] [(0,39),(1,40),(2,41),(3,42),(4,43),(5,44),(6,45),(7,46),(8,47),(9,48)] [Wh b I,Wh b (z*z),Wh b (z*z*(z*z)),aV (.pointer S),aV A,aV (.pointer S),aV A,aV (A*A:Int),Wh b (z*z*(z*z)*(A*A)),Wh b (bm A B x z)] k_ k_ k_ trivial ⟨Wh.closed _ _,Wh.closed _ _,Wh.closed _ _,aV.closed _,aV.closed _,aV.closed _,aV.closed _,aV.closed _,Wh.closed _ _,Wh.closed _ _,trivial⟩ ⟨?_,?_,?_,?_,?_,?_,?_,?_,?_,?_,trivial⟩ ?_
 .exact FF
 .exact zS
 .refine aS.q _ r_ r_ λρ w' H=>?_;have⟨v1,e1,p1⟩:=H.dep 1 40 k_;have p1:(Wh b (z*z)) v1 w':=p1;exact bn.call 315 #[v1] _ _ _ rfl (H.fn 315) (enters_of func315 k_ rfl) (by simp [e1]) ((qD (z*z) v1 ca w' p1.rd).mono λe w2 ⟨v,h1,h2,h3⟩=>⟨v,h1,h3,h2.le (Vl aG H.bel.size)⟩)
 .exact np
 .refine aS.q _ r_ r_ λρ w' H=>?_;have⟨v3,e3,p3⟩:=H.dep 3 42 k_;obtain rfl:v3=.pointer (some ⟨S,0,none⟩):=p3;exact jx _ rfl e3 ((kC.next H.bel).cell 0)
 .exact np
 .refine aS.q _ r_ r_ λρ w' H=>?_;have⟨v5,e5,p5⟩:=H.dep 5 44 k_;exact AE
 .refine aS.q _ r_ r_ λρ w' H=>?_;have⟨v4,e4,p4⟩:=H.dep 4 43 k_;obtain rfl:v4=.int .i64 A:=p4;have⟨K,e6,p6⟩:=H.dep 6 45 k_;obtain rfl:K=.int .i64 A:=p6;exact nZ _ _ rfl e4 e6 o_
 .refine aS.q _ r_ r_ λρ w' H=>?_;have⟨v2,e2,p2⟩:=H.dep 2 41 k_;have p2:(Wh b (z*z*(z*z))) v2 w':=p2;have⟨v7,e7,p7⟩:=H.dep 7 46 k_;obtain rfl:v7=.int .i64 (A*A):=p7;exact bn.call 318 #[v2,(A*A:Int)] _ _ _ rfl (H.fn 318) (enters_of func318 k_ rfl) (by simp [e2,e7]) ((pm q4 o_ rfl _ w' p2.rd).mono λe w2 ⟨v,h1,h2,h3⟩=>⟨v,h1,h3,h2.le (Vl aG H.bel.size)⟩)
 .refine aS.q _ r_ r_ λρ w' H=>?_;have⟨v0,e0,p0⟩:=H.dep 0 39 k_;have p0:(Wh b I) v0 w':=p0;have⟨v8,e8,p8⟩:=H.dep 8 47 k_;have p8:(Wh b (z*z*(z*z)*(A*A))) v8 w':=p8;exact bn.call 316 #[v0,v8] _ _ _ rfl (H.fn 316) (enters_of func316 k_ rfl) (by simp [e0,e8]) ((Ak s2 p4 E3.out _ _ w' p0.rd p8.rd).mono λe w2 ⟨v,h1,h2,h3⟩=>⟨v,h1,h3,h2.le (Vl aG H.bel.size)⟩)
 intro vs Wt ac aM;have b5:(Wh b (bm A B x z)) (vs 9) Wt:=aM.1 9 o_;simp only[eM,Nat.reduceBEq,WT,WK,Nat.reduceAdd,VQ,V1];have⟨b6,aL,Z,aF⟩:=b5.cell;obtain⟨G,F,rfl,_⟩:=id Z.1;simp only[aL];replace V:=V.next ac
 have⟨x0,x1⟩:=V.q2;have⟨x2,x3⟩:=V.f2;have k9:bG b (S+2) (bm A B x z) ((Wt.setCell ⟨S+2,0,none⟩ (decide (bm A B x z<0))).setCell ⟨S+2,1,none⟩ (.slice G (dg (bm A B x z).natAbs).length F)):=bG.put V rfl Z aF;have ad:af S w ((Wt.setCell ⟨S+2,0,none⟩ (decide (bm A B x z<0))).setCell ⟨S+2,1,none⟩ (.slice G (dg (bm A B x z).natAbs).length F)):=((ag ac a9 J).setCell s_ _).setCell s_ _;have k8:=(V.set 0 (decide (bm A B x z<0))).set 1 (.slice G (dg (bm A B x z).natAbs).length F);have r9:aW ((Wt.setCell ⟨S+2,0,none⟩ (decide (bm A B x z<0))).setCell ⟨S+2,1,none⟩ (.slice G (dg (bm A B x z).natAbs).length F)) b (.slice G (dg (bm A B x z).natAbs).length F) (dg (bm A B x z).natAbs):=Z.far d_ V (kt _ _ _ _);go_wp2;generalize (setCell (setCell _ _ _) _ _)=w9 at *;have⟨q0,q1⟩:=k8.q2;exact Vk (v:=.agg #[decide (bm A B x z<0),(.slice G (dg (bm A B x z).natAbs).length F)]) (by simp [results,results319,go_sem,q0,q1]) rfl vi
def Ci(A B x z:Int)(b)(lx lz)(hA:bh A)(hB:a_ B)(zx:Sz 80 x)(zz:Sz 80 z)(w)(hb:b<=w.heap.size)(aZ:aW w b lx (dg x.natAbs))(a8:aW w b lz (dg z.natAbs)):
 Kp 283 #[.agg #[A,B],.agg #[decide (x<0),lx,decide (z<0),lz]] w (wL b (aT A B x z) w):=by
 have⟨kC,kT,V,J⟩:=qo w #[A,B] 42 #[decide (x<0),lx,decide (z<0),lz] 209 #[false,.slice none 0 0] 182;have a6:(((w.alloc (.cells #[A,B] 42)).alloc (.cells #[decide (x<0),lx,decide (z<0),lz] 209)).alloc (.cells #[false,.slice none 0 0] 182)).heap.size=w.heap.size+3:=s_;have rx:=aZ.below J;have rz:=a8.below J;obtain⟨ax,cx,rfl,_⟩:=id aZ.1;obtain⟨az,cz,rfl,_⟩:=id a8.1;simp at kT V;have x1:Sz 1000 x:=zx.mono o_;have z1:Sz 1000 z:=zz.mono o_;have cv:Sz 1000 (x*x):=(zx.mul zx).mono o_;have ca:Sz 1000 (z*z):=(zz.mul zz).mono o_;have q1:Sz 1000 (x*x*x):=((zx.mul zx).mul zx).mono o_;have q2:Sz 1000 (x*(z*z)):=(zx.mul (zz.mul zz)).mono o_;have q3:Sz 1000 (z*(z*z)):=(zz.mul (zz.mul zz)).mono o_;have p2:Sz 1000 (x*(z*z)*A):=((zx.mul (zz.mul zz)).mul (Sz.of1 (x:=A) o_ o_)).mono o_;have p3:Sz 1000 (z*(z*z)*B):=((zz.mul (zz.mul zz)).mul (Sz.of4 (x:=B) o_ o_)).mono o_;obtain⟨O1,bi⟩:∃O1,x*x*x+x*(z*z)*A=O1:=⟨_,rfl⟩
 obtain⟨I,bx⟩:∃I,O1+z*(z*z)*B=I:=⟨_,rfl⟩
 have ab:z*I*4=aT A B x z:=by rw[<-bx,<-bi];rfl
 have s1:Sz 251 O1:=by
  rw[<-bi];exact ((((zx.mul zx).mul zx).mono (n:=250) o_).add (((zx.mul (zz.mul zz)).mul (Sz.of1 (x:=A) o_ o_)).mono (n:=250) o_))
 have s2:Sz 252 I:=by
  rw[<-bx];exact s1.add (((zz.mul (zz.mul zz)).mul (Sz.of4 (x:=B) o_ o_)).mono (n:=251) o_)
 have s3:Sz 1000 (z*I):=(zz.mul s2).mono o_;replace s1:Sz 1000 O1:=s1.mono o_;replace s2:Sz 1000 I:=s2.mono o_;have E1:=h_ bi;have E2:=h_ bx;have E3:=h_ ab;obtain⟨S,hS⟩:∃S,w.heap.size=S:=⟨_,rfl⟩
 go_enter func283,ntmps283;go_upto_region 1 with fail
 generalize ((w.alloc _).alloc _).alloc _=W at *;rw[hS] at kC kT V J a6 hb;have HS:=h_ hS;have aG:b<=W.heap.size:=o_;have a9:S<=W.heap.size:=o_;have⟨t0,t1,t2,t3,t4⟩:=kT.p4;apply tv (λr5 r6 Wz=>ai [] W Wz/\(λ_=>True) Wz/\W.heap.size<=r5/\W.heap.size<=r6/\r6≠r5/\ah r5 #[decide (x<0),.slice ax (dg x.natAbs).length cx] 182 Wz/\ah r6 #[decide (z<0),.slice az (dg z.natAbs).length cz] 182 Wz)
 .exact wF
 rintro r5 r6 W2 ⟨bi,_,_,_,_,k5,U⟩;have g:=bi.below;have kx:bG b r5 x W2:=⟨_,k5,rx.below g,rfl⟩
 have kz:bG b r6 z W2:=⟨_,U,rz.below g,rfl⟩
 replace kC:=kC.next g
 replace V:=V.next g
 replace J:af S w _:=ag g a9 J;replace aG:=Vl aG g.size;replace a9:=Vl a9 g.size;go_upto_region 2 with fail
 refine Br 3 [2] [(2,7),(0,13),(1,14)] [Wh b z,Wh b (z*z),PA W2 #[false,.slice none 0 0] 182] k_ k_ k_ ⟨⟨_,_,_,rfl⟩,trivial⟩ ⟨Wh.closed _ _,Wh.closed _ _,PA.closed _ _ _,trivial⟩ ⟨?_,?_,?_,trivial⟩ ?_
 .exact fI
 .refine aS.q _ r_ r_ λρ w' H=>?_;have⟨v0,e0,p0⟩:=H.dep 0 13 k_;have p0:(Wh b z) v0 w':=p0;exact bn.call 315 #[v0] _ _ _ rfl (H.fn 315) (enters_of func315 k_ rfl) (by simp [e0]) ((qD z v0 z1 w' p0.rd).mono λe w2 ⟨v,h1,h2,h3⟩=>⟨v,h1,h3,h2.le (Vl aG H.bel.size)⟩)
 .exact kK
 intro vs Wt ac aM;have b8:(Wh b (z*z)) (vs 1) Wt:=aM.1 1 o_;have bX:(PA W2 #[false,.slice none 0 0] 182) (vs 2) Wt:=aM.1 2 o_;have⟨r7,b7,a3,a2⟩:=bX;simp only[eM,Nat.reduceBEq,WT,WK,Nat.reduceAdd,VQ,V1,b7];have⟨dc,b3,bv,b2⟩:=b8.cell;obtain⟨bs,a4,rfl,_⟩:=id bv.1;simp only[b3];have⟨x0,x1⟩:=a2.q2;have⟨x2,x3⟩:=a2.f2;have x4:=a2.lt;have ae:=bG.put a2 rfl bv b2;have g:af W2 W2 ((Wt.setCell r7 (decide (z*z<0))).setCell ⟨r7,1,none⟩ (.slice bs (dg (z*z).natAbs).length a4)):=(ac.setCell a3 _).setCell a3 _;replace V:=V.next g
 replace kC:=kC.next g
 replace kx:=kx.next g
 replace kz:=kz.next g
 replace J:af S w _:=ag g a9 J;replace aG:=Vl aG g.size;replace a9:=Vl a9 g.size;clear b8 ac a2 b3 bv b2;go_upto_region 3 with fail
 generalize (setCell (setCell _ _ _) _ _)=W3 at *;clear x0 x1 x2 x3 x4 g a3;refine jl 12 [11] [(11,8),(0,15),(1,16),(2,17),(3,18),(4,19),(5,20),(6,21),(7,22),(8,23),(9,24),(10,25)] [Wh b x,Wh b (x*x),Wh b x,Wh b (x*x*x),Wh b x,Wh b (z*z),Wh b (x*(z*z)),aV (.pointer S),aV A,Wh b (x*(z*z)*A),Wh b O1,PA W3 #[false,.slice none 0 0] 182] k_ k_ k_ ⟨⟨_,_,_,rfl⟩,trivial⟩ ⟨Wh.closed _ _,Wh.closed _ _,Wh.closed _ _,Wh.closed _ _,Wh.closed _ _,Wh.closed _ _,Wh.closed _ _,aV.closed _,aV.closed _,Wh.closed _ _,Wh.closed _ _,PA.closed _ _ _,trivial⟩ ⟨?_,?_,?_,?_,?_,?_,?_,?_,?_,?_,?_,?_,trivial⟩ ?_
 .exact gW
 .refine aS.q _ r_ r_ λρ w' H=>?_;have⟨v0,e0,p0⟩:=H.dep 0 15 k_;exact Ji
 .exact gW
 .refine aS.q _ r_ r_ λρ w' H=>?_;have⟨v1,e1,p1⟩:=H.dep 1 16 k_;have p1:(Wh b (x*x)) v1 w':=p1;have⟨v2,e2,p2⟩:=H.dep 2 17 k_;have p2:(Wh b x) v2 w':=p2;exact bn.call 317 #[v1,v2] _ _ _ rfl (H.fn 317) (enters_of func317 k_ rfl) (by simp [e1,e2]) ((nr cv x1 rfl _ _ w' p1.rd p2.rd).mono λe w2 ⟨v,h1,h2,h3⟩=>⟨v,h1,h3,h2.le (Vl aG H.bel.size)⟩)
 .exact gW
 .exact Jj
 .refine aS.q _ r_ r_ λρ w' H=>?_;have⟨v4,e4,p4⟩:=H.dep 4 19 k_;have p4:(Wh b x) v4 w':=p4;have⟨v5,e5,p5⟩:=H.dep 5 20 k_;have p5:(Wh b (z*z)) v5 w':=p5;exact bn.call 317 #[v4,v5] _ _ _ rfl (H.fn 317) (enters_of func317 k_ rfl) (by simp [e4,e5]) ((nr x1 ca rfl _ _ w' p4.rd p5.rd).mono λe w2 ⟨v,h1,h2,h3⟩=>⟨v,h1,h3,h2.le (Vl aG H.bel.size)⟩)
 .exact np
 .refine aS.q _ r_ r_ λρ w' H=>?_;have⟨v7,e7,p7⟩:=H.dep 7 22 k_;obtain rfl:v7=.pointer (some ⟨S,0,none⟩):=p7;exact jx _ rfl e7 ((kC.next H.bel).cell 0)
 .refine aS.q _ r_ r_ λρ w' H=>?_;have⟨K,e6,p6⟩:=H.dep 6 21 k_;have p6:(Wh b (x*(z*z))) K w':=p6;have⟨v8,e8,p8⟩:=H.dep 8 23 k_;obtain rfl:v8=.int .i64 A:=p8;exact bn.call 318 #[K,A] _ _ _ rfl (H.fn 318) (enters_of func318 k_ rfl) (by simp [e6,e8]) ((pm q2 o_ rfl _ w' p6.rd).mono λe w2 ⟨v,h1,h2,h3⟩=>⟨v,h1,h3,h2.le (Vl aG H.bel.size)⟩)
 .refine aS.q _ r_ r_ λρ w' H=>?_;have⟨v3,e3,p3⟩:=H.dep 3 18 k_;have p3:(Wh b (x*x*x)) v3 w':=p3;have⟨v9,e9,p9⟩:=H.dep 9 24 k_;have p9:(Wh b (x*(z*z)*A)) v9 w':=p9;exact bn.call 316 #[v3,v9] _ _ _ rfl (H.fn 316) (enters_of func316 k_ rfl) (by simp [e3,e9]) ((Ak q1 p2 E1.out _ _ w' p3.rd p9.rd).mono λe w2 ⟨v,h1,h2,h3⟩=>⟨v,h1,h3,h2.le (Vl aG H.bel.size)⟩)
 .exact kK
 intro vs Wt ac aM;have b1:(Wh b O1) (vs 10) Wt:=aM.1 10 o_;have a1:(PA W3 #[false,.slice none 0 0] 182) (vs 11) Wt:=aM.1 11 o_;have⟨r8,cy,cb,a5⟩:=a1;simp only[eM,Nat.reduceBEq,WT,WK,Nat.reduceAdd,VQ,V1,cy];have l5:=kx.lt;have l6:=kz.lt;have l7:=ae.lt;have lR:=V.lt;have⟨d0,cM,b4,cN⟩:=b1.cell;obtain⟨bz,bZ,rfl,_⟩:=id b4.1;simp only[cM];have⟨x0,x1⟩:=a5.q2;have⟨x2,x3⟩:=a5.f2;have x4:=a5.lt;have kO:=bG.put a5 rfl b4 cN;have g:af W3 W3 ((Wt.setCell r8 (decide (O1<0))).setCell ⟨r8,1,none⟩ (.slice bz (dg O1.natAbs).length bZ)):=(ac.setCell cb _).setCell cb _;replace V:=V.next g
 replace kC:=kC.next g
 replace kx:=kx.next g
 replace kz:=kz.next g
 replace ae:=ae.next g
 replace J:af S w _:=ag g a9 J;replace aG:=Vl aG g.size;replace a9:=Vl a9 g.size;go_upto_region 4 with fail
 have n5:r5≠r8:=o_;have n6:r6≠r8:=o_;have n7:r7≠r8:=o_;have nR:S+2≠r8:=o_;have ba:S<=r8:=o_;generalize (setCell (setCell _ _ _) _ _)=W4 at *;refine jl 8 [] [(0,26),(1,27),(2,28),(3,29),(4,30),(5,31),(6,32),(7,33)] [Wh b O1,Wh b z,Wh b (z*z),Wh b (z*(z*z)),aV (.pointer (some ⟨S,1,none⟩)),aV B,Wh b (z*(z*z)*B),Wh b I] k_ k_ k_ trivial ⟨Wh.closed _ _,Wh.closed _ _,Wh.closed _ _,Wh.closed _ _,aV.closed _,aV.closed _,Wh.closed _ _,Wh.closed _ _,trivial⟩ ⟨?_,?_,?_,?_,?_,?_,?_,?_,trivial⟩ ?_
 .exact Kl
 .exact fI
 .exact Jj
 .refine aS.q _ r_ r_ λρ w' H=>?_;have⟨v1,e1,p1⟩:=H.dep 1 27 k_;have p1:(Wh b z) v1 w':=p1;have⟨v2,e2,p2⟩:=H.dep 2 28 k_;have p2:(Wh b (z*z)) v2 w':=p2;exact bn.call 317 #[v1,v2] _ _ _ rfl (H.fn 317) (enters_of func317 k_ rfl) (by simp [e1,e2]) ((nr z1 ca rfl _ _ w' p1.rd p2.rd).mono λe w2 ⟨v,h1,h2,h3⟩=>⟨v,h1,h3,h2.le (Vl aG H.bel.size)⟩)
 .exact uW
 .refine aS.q _ r_ r_ λρ w' H=>?_;have⟨v4,e4,p4⟩:=H.dep 4 30 k_;obtain rfl:v4=.pointer (some ⟨S,1,none⟩):=p4;exact jx _ rfl e4 ((kC.next H.bel).cell 1)
 .refine aS.q _ r_ r_ λρ w' H=>?_;have⟨v3,e3,p3⟩:=H.dep 3 29 k_;have p3:(Wh b (z*(z*z))) v3 w':=p3;have⟨v5,e5,p5⟩:=H.dep 5 31 k_;obtain rfl:v5=.int .i64 B:=p5;exact bn.call 318 #[v3,B] _ _ _ rfl (H.fn 318) (enters_of func318 k_ rfl) (by simp [e3,e5]) ((pm q3 o_ rfl _ w' p3.rd).mono λe w2 ⟨v,h1,h2,h3⟩=>⟨v,h1,h3,h2.le (Vl aG H.bel.size)⟩)
 .refine aS.q _ r_ r_ λρ w' H=>?_;have⟨v0,e0,p0⟩:=H.dep 0 26 k_;have p0:(Wh b O1) v0 w':=p0;have⟨K,e6,p6⟩:=H.dep 6 32 k_;have p6:(Wh b (z*(z*z)*B)) K w':=p6;exact bn.call 316 #[v0,K] _ _ _ rfl (H.fn 316) (enters_of func316 k_ rfl) (by simp [e0,e6]) ((Ak s1 p3 E2.out _ _ w' p0.rd p6.rd).mono λe w2 ⟨v,h1,h2,h3⟩=>⟨v,h1,h3,h2.le (Vl aG H.bel.size)⟩)
 intro vs Wt ac aM;have c4:(Wh b I) (vs 7) Wt:=aM.1 7 o_;simp only[eM,Nat.reduceBEq,WT,WK,Nat.reduceAdd,VQ,V1];have⟨cQ,cG,cc,cF⟩:=c4.cell;obtain⟨slu,aa,rfl,_⟩:=id cc.1;simp only[cG];have⟨lo,ko,ro,co⟩:=kO.next ac
 have⟨x0,x1⟩:=ko.q2;have⟨x2,x3⟩:=ko.f2;have x4:=ko.lt;have kO:=bG.put ko rfl cc cF;replace kx:=(kx.next ac).far n5 ko (decide (I<0)) (.slice slu (dg I.natAbs).length aa);replace kz:=(kz.next ac).far n6 ko (decide (I<0)) (.slice slu (dg I.natAbs).length aa);replace ae:=(ae.next ac).far n7 ko (decide (I<0)) (.slice slu (dg I.natAbs).length aa);replace V:=((V.next ac).far (p:=r8) nR (decide (I<0))).far (p:=⟨r8,1,none⟩) nR (.slice slu (dg I.natAbs).length aa);replace J:af S w ((Wt.setCell r8 (decide (I<0))).setCell ⟨r8,1,none⟩ (.slice slu (dg I.natAbs).length aa)):=((ag ac a9 J).setCell ba _).setCell ba _;replace aG:=Vl aG ac.size;replace a9:=Vl a9 ac.size;replace aG:b<=(((Wt.setCell r8 (decide (I<0))).setCell ⟨r8,1,none⟩ (.slice slu (dg I.natAbs).length aa))).heap.size:=u_;replace a9:S<=(((Wt.setCell r8 (decide (I<0))).setCell ⟨r8,1,none⟩ (.slice slu (dg I.natAbs).length aa))).heap.size:=u_;go_upto_region 5 with fail
 generalize (setCell (setCell _ _ _) _ _)=W5 at *;refine Br 4 [] [(0,34),(1,35),(2,36),(3,37)] [Wh b z,Wh b I,Wh b (z*I),Wh b (aT A B x z)] k_ k_ k_ trivial ⟨Wh.closed _ _,Wh.closed _ _,Wh.closed _ _,Wh.closed _ _,trivial⟩ ⟨?_,?_,?_,?_,trivial⟩ ?_
 .exact fI
 .exact Kl
 .refine aS.q _ r_ r_ λρ w' H=>?_;have⟨v0,e0,p0⟩:=H.dep 0 34 k_;have p0:(Wh b z) v0 w':=p0;have⟨v1,e1,p1⟩:=H.dep 1 35 k_;have p1:(Wh b I) v1 w':=p1;exact bn.call 317 #[v0,v1] _ _ _ rfl (H.fn 317) (enters_of func317 k_ rfl) (by simp [e0,e1]) ((nr z1 s2 rfl _ _ w' p0.rd p1.rd).mono λe w2 ⟨v,h1,h2,h3⟩=>⟨v,h1,h3,h2.le (Vl aG H.bel.size)⟩)
 .refine aS.q _ r_ r_ λρ w' H=>?_;have⟨v2,e2,p2⟩:=H.dep 2 36 k_;have p2:(Wh b (z*I)) v2 w':=p2;exact bn.call 318 #[v2,(Value.int IntKind.i64 4)] _ _ _ rfl (H.fn 318) (enters_of func318 k_ rfl) (by simp [e2,H.con]) ((pm s3 o_ E3.out _ w' p2.rd).mono λe w2 ⟨v,h1,h2,h3⟩=>⟨v,h1,h3,h2.le (Vl aG H.bel.size)⟩)
 intro vs Wt ac aM;have cu:(Wh b (aT A B x z)) (vs 3) Wt:=aM.1 3 o_;simp only[eM,Nat.reduceBEq,WT,WK,Nat.reduceAdd,VQ,V1];have⟨b6,aL,Z,aF⟩:=cu.cell;obtain⟨G,F,rfl,_⟩:=id Z.1;simp only[aL];replace V:=V.next ac
 have⟨x0,x1⟩:=V.q2;have⟨x2,x3⟩:=V.f2;have k9:bG b (S+2) (aT A B x z) ((Wt.setCell ⟨S+2,0,none⟩ (decide (aT A B x z<0))).setCell ⟨S+2,1,none⟩ (.slice G (dg (aT A B x z).natAbs).length F)):=bG.put V rfl Z aF;have ad:af S w ((Wt.setCell ⟨S+2,0,none⟩ (decide (aT A B x z<0))).setCell ⟨S+2,1,none⟩ (.slice G (dg (aT A B x z).natAbs).length F)):=((ag ac a9 J).setCell s_ _).setCell s_ _;have k8:=(V.set 0 (decide (aT A B x z<0))).set 1 (.slice G (dg (aT A B x z).natAbs).length F);have r9:aW ((Wt.setCell ⟨S+2,0,none⟩ (decide (aT A B x z<0))).setCell ⟨S+2,1,none⟩ (.slice G (dg (aT A B x z).natAbs).length F)) b (.slice G (dg (aT A B x z).natAbs).length F) (dg (aT A B x z).natAbs):=Z.far d_ V (kt _ _ _ _);go_wp2;generalize (setCell (setCell _ _ _) _ _)=w9 at *;have⟨q0,q1⟩:=k8.q2;exact Vk (v:=.agg #[decide (aT A B x z<0),(.slice G (dg (aT A B x z).natAbs).length F)]) (by simp [results,results283,go_sem,q0,q1]) rfl vi
def N5(n M):au n (M.natAbs:Int)=au n M:=by
 unfold au Int.gcd;simp
def R7(F n)(hn:1<=n):au n (F % n)=au n F:=by rw[PM,Ea F n hn]
def RW{g G n}(hg:g∣n):au g (G % n)=au g G:=by
 obtain⟨k,rfl⟩:=hg;have e:=XN G (g*k);have e2:G % (g*k)=G+g*(-(k*(G / (g*k)))):=by
  rw[XV,<-Wd];omega
 unfold au;rw[e2];congr 1;have h1:Int.gcd g (G+g*(-(k*(G / (g*k)))))∣Int.gcd g G:=by
  refine YL (WA _ _) ?_;have h2:=Wi g (G+g*(-(k*(G / (g*k)))));have:=Int.dvd_sub h2 (Xl (c:=-(k*(G / (g*k)))) (WA g (G+g*(-(k*(G / (g*k)))))));simpa using this
 have h2:Int.gcd g G∣Int.gcd g (G+g*(-(k*(G / (g*k))))):=by
  exact YL (WA _ _) (Int.dvd_add (Wi _ _) (Xl (WA _ _)))
 exact Nat.dvd_antisymm h1 h2
def D7{n M}(hn:1<=n):1<=au n M/\au n M<=n:=by
 have⟨a1,a2,_⟩:=nY n M (.inl o_);have a3:=a2 o_;omega
def Bz(M n:Int)(a)(hM:(dg M.natAbs).length<=40000)(hn:1<=n/\n<=1000000000000)(w)(ha:br M a w):
 Rv 354 #[a,n] w (au n M):=by
 have HW:=h_ ha;obtain⟨la,rfl,a3⟩:=ha;have⟨kA,J⟩:=ay w #[decide (M<0),la] 182;have HT:=h_ (λW (hb:af w w W)=>(Ce M _ o_ W (br.below HW.out hb)).mono λe w' h=>dP.nat h);have HR:Hid (au ((M.natAbs:Int) % n) n=au n M):=h_ (by rw[Ea _ n hn.1,N5]);obtain⟨ax,cx,rfl,_⟩:=id a3;obtain⟨x,hx⟩:∃x,M.natAbs=x:=⟨_,rfl⟩
 rw[hx] at HT HR hM kA J ⊢;obtain⟨g,hg⟩:∃g,au n M=g:=⟨_,rfl⟩
 rw[hg] at HR ⊢;generalize decide (M<0)=sa at *;have bz:=VS (x:Int) (show n≠0 by omega);have b4:=VN (x:Int) (show 0<n by omega);have HG:=h_ (ow ((x:Int) % n) n o_ o_);rw[HR.out] at HG;have HQ:=h_ (λW v h=>tG (x:Int) n v (by show (dg x).length<=_;exact hM) hn W h);generalize (x:Int) / n=Q,(x:Int) % n=r at *;go_enter func354,ntmps354;go_upto_region 1 with fail
 generalize w.alloc _=W at *;have⟨a0,a1⟩:=kA.q2;go_wp2_with fail
 refine (HT.out W J).mono ?_;rintro e w1 ⟨sl,H,rfl,Z,I⟩;have aL:=ag I J.size J;go_wp2_with fail
 refine (HQ.out w1 (.agg #[false,.slice sl (dg x).length H]) ⟨_,s_,Z.1⟩).mono ?_;rintro e w2 ⟨v,rfl,⟨lv,rfl,bs⟩,U⟩;obtain⟨s2,p2,rfl,_⟩:=id bs.1;replace aL:=ag U aL.size aL;have b0:af w w (w2.alloc (.cells #[decide (Q<0),.slice s2 (dg Q.natAbs).length p2] 182)):=aL.alloc aL.size _;go_upto_region 2 with fail
 generalize w2.alloc _=W3 at *;go_wp2_with fail
 refine (HG.out _).mono ?_;rintro e w3 ⟨rfl,V,rfl⟩;go_wp2;exact Vk (v:=.int .i64 g) (by simp [results,results354,go_sem]) rfl ⟨rfl,lr b0 _⟩
def M1(A B x z:Int)(b:Nat)(lx lz:Value)(hA:bh A)(hB:a_ B)(hd:aP A B≠0)(zx:Sz 80 x)(zz:Sz 80 z)(w:World)(hb:b<=w.heap.size)(aZ:aW w b lx (dg x.natAbs))(a8:aW w b lz (dg z.natAbs)):
 Rv 339 #[.agg #[A,B],.agg #[decide (x<0),lx,decide (z<0),lz]] w (ce A B x z):=by
 obtain⟨kC,kT,J⟩:=cO w #[A,B] 42 #[decide (x<0),lx,decide (z<0),lz] 209;have cb:=h_ aZ;have cc:=h_ a8;obtain⟨ax,cx,rfl,_⟩:=id aZ.1;obtain⟨az,cz,rfl,_⟩:=id a8.1;clear aZ a8;have bp:=lI hA hB;have bi:-7000000000<=aP A B/\aP A B<=7000000000:=by unfold aP;omega
 have V:=zq hA hB hd;obtain⟨zF,zG⟩:=yV hA hB zx zz;have HF:=h_ (λW (hW:af w w W)=>BA A B x z b _ _ hA hB zx zz W (Vl hb hW.size) (cb.out.below hW) (cc.out.below hW));have b5:=h_ (λW (hW:af w w W)=>wU A B x z b _ _ hA hB zx zz W (Vl hb hW.size) (cb.out.below hW) (cc.out.below hW));have cM:=D7 (n:=c_ A B) (M:=bm A B x z) V.1;have H:=h_ (λW v h=>Bz (bm A B x z) (c_ A B) v (Vl zF.len o_) o_ W h);have a1:=h_ (λW v h=>Bz (aT A B x z) (au (c_ A B) (bm A B x z)) v (Vl zG.len o_) o_ W h);have g:au (au (c_ A B) (bm A B x z)) (aT A B x z)=ce A B x z:=rfl;rw[g] at a1;clear g;have HC:=h_ (oo A B hA hB);have a6:max (4*aP A B) (-4*aP A B)=c_ A B:=by unfold c_;omega
 generalize au (c_ A B) (bm A B x z)=g1 at *;generalize ce A B x z=D at *;generalize bm A B x z=F at *;generalize aT A B x z=G at *;generalize c_ A B=N at *;generalize aP A B=d at *;generalize decide (x<0)=sx at *;generalize decide (z<0)=sz at *;generalize (dg x.natAbs).length=nx at *;generalize (dg z.natAbs).length=nz at *;obtain⟨S,hS⟩:∃S,w.heap.size=S:=⟨_,rfl⟩
 go_enter func339,ntmps339;go_upto_region 1 with fail
 generalize (w.alloc _).alloc _=W at *;rw[hS] at kC kT J hb HF b5;have HS:=h_ hS;clear hS;have⟨a4,a3,a5⟩:=kC.p2
 (refine bR k_ k_ ?_;(repeat (go_big_quiet_step ((go_at_call 98;exact Calls.quiet_cls ao _ (HC.out _)))));refine wpQuiet_nil ?_;intro w2 U;obtain⟨bb,ab⟩:=bu U;have ba:=U.size;(try simp only[VG] at ba))
 try rw[a6]
 have a9:S<=W.heap.size:=Vq a5;clear a6 a4 a3 a5 bb ab;replace kC:=kC.next U
 replace kT:=kT.next U
 have aL:af S w w2:=ag U a9 J;have ad:S<=w2.heap.size:=Vl a9 U.size;have⟨a4,a3⟩:=kC.q2;have⟨t0,t1,t2,t3⟩:=kT.q4;have a5:=kC.lt;have K:=kT.lt;clear U ba kC kT J;go_upto_region 2 with fail
 refine bw [] (λ_=>false) (λ_=>True) (λ_=>True) k_ (trivial) ?_;refine aE ⟨w2,ai.refl _ _,trivial⟩ [ae,ae,ac,ae,ae,ac,ae] 5 ao aB ?_;refine aD 2 ?_;refine bN (some 15) (λu=>λw'=>Wh b G u w') (λu=>Wh.closed _ _ _) (λw' hO hD=>(b5.out w' (ag hO.below ad aL)).mono λe w3 ⟨v,h1,h2,h3⟩=>⟨v,h1,.of_below h3,h2⟩) (λu hne=>?_);refine ap ?_;refine aD 5 ?_;refine bN (some 18) (λu2=>λw'=>Wh b G u w'/\Wh b F u2 w') (λu2=>bV.and bV) (λw' hO hD=>(HF.out w' (ag hO.below ad aL)).mono λe w3 ⟨v,h1,h2,h3⟩=>⟨v,h1,.of_below h3,Wh.closed _ _ _ _ _ hD h3,h2⟩) (λu2 hne=>?_);refine ap ?_;refine aD 7 ?_;refine mf (v:=.int .i64 g1) (some 20) (λw'=>Wh b G u w') r_ r_ r_ (λ_=>by go_simp) bV (λw' hO hD=>(H.out w' _ hD.2.rd).mono λe w3 ⟨h1,h2⟩=>⟨h1,.of_below h2,Wh.closed _ _ _ _ _ hD.1 h2⟩) (λhne=>?_);refine ap ?_;refine aD 8 ?_;refine mf (v:=.int .i64 D) (some 21) (λ_=>True) r_ r_ r_ (λ_=>by go_simp) ao (λw' hO hD=>(a1.out w' _ hD.rd).mono λe w3 ⟨h1,h2⟩=>⟨h1,.of_below h2,trivial⟩) (λhne=>?_);refine ap ?_;refine aE hne (bk 9 1) 0 ao aB ?_;refine dn λWz a7 aX=>?_;have aM:af S w Wz:=ag a7.below ad aL;go_wp2;refine Vk (v:=.int .i64 D) (by simp [results,results339,go_sem]) rfl ?_;exact⟨rfl,HS.out▸aM⟩
def BL(A B F G)(vF vG)(hA:bh A)(hB:a_ B)(hd:aP A B≠0)(zF:Sz 400 F)(zG:Sz 400 G)(w)(hF:br F vF w)(hG:br G vG w):
 Rv 321 #[.agg #[A,B],vF,vG] w (au (au (c_ A B) F) G):=by
 have ae:=h_ hF;have Z:=h_ hG;obtain⟨lF,rfl,aa⟩:=hF;obtain⟨lG,rfl,K⟩:=hG;have⟨kC,kF,kG,J⟩:=fv w #[A,B] 42 #[decide (F<0),lF] 182 #[decide (G<0),lG] 182;obtain⟨aF,cF,rfl,_⟩:=id aa;obtain⟨aG,cG,rfl,_⟩:=id K;have bp:=lI hA hB;have bi:-7000000000<=aP A B/\aP A B<=7000000000:=by unfold aP;omega
 have V:=zq hA hB hd;have a6:4*((aP A B).natAbs:Int)=c_ A B:=rfl;have HC:=h_ (nT A B hA hB);have HA:=h_ (lK (aP A B) o_);have ad:=h_ (λW (hb:af w w W)=>nV F (c_ A B) _ (Vl zF.len o_) o_ W (br.below ae.out hb));have ac:=h_ (λW (hb:af w w W)=>nV G (c_ A B) _ (Vl zG.len o_) o_ W (br.below Z.out hb));have aM:=VS F (show c_ A B≠0 by omega);have aX:=VN F (show 0<c_ A B by omega);have ax:=VS G (show c_ A B≠0 by omega);have az:=VN G (show 0<c_ A B by omega);have cM:=D7 (n:=c_ A B) (M:=F) V.1;have ab:=h_ (nJ (c_ A B) (F % c_ A B) o_ o_);rw[R7 F _ V.1] at ab;have g:=h_ (nJ (au (c_ A B) F) (G % c_ A B) o_ o_);rw[RW (CG _ _)] at g;obtain⟨D,hD⟩:∃D,au (au (c_ A B) F) G=D:=⟨_,rfl⟩
 rw[hD] at g ⊢;generalize au (c_ A B) F=g1,F % c_ A B=rF,G % c_ A B=rG at *;generalize F / c_ A B=H at *;generalize G / c_ A B=qG at *;generalize c_ A B=N at *;generalize aP A B=d,decide (F<0)=sF,decide (G<0)=sG,(dg F.natAbs).length=nF,(dg G.natAbs).length=nG at *;go_enter func321,ntmps321;go_upto_region 1 with fail
 generalize ((w.alloc _).alloc _).alloc _=W at *;have⟨a4,a3⟩:=kC.q2;go_wp2_with fail
 refine aj (HC.out W) λw1 I=>?_;have aL:=ag I J.size J;replace kF:=kF.next I
 replace kG:=kG.next I
 go_wp2_with fail
 refine (HA.out _).mono ?_;rintro e w2 ⟨rfl,rfl⟩;have⟨f0,f1⟩:=kF.q2;go_upto_region 2 with fail
 go_wp2_with fail
 refine (ad.out w1 aL).mono ?_;rintro e w2 ⟨v,rfl,⟨lv,rfl,bs⟩,U⟩;obtain⟨s2,p2,rfl,_⟩:=id bs.1;replace aL:=ag U aL.size aL;replace kG:=(kG.next U).alloc (.cells #[decide (H<0),.slice s2 (dg H.natAbs).length p2] 182);replace aL:af w w (w2.alloc (.cells #[decide (H<0),.slice s2 (dg H.natAbs).length p2] 182)):=aL.alloc aL.size _;go_upto_region 3 with fail
 generalize w2.alloc _=W3,w2.heap.size=r8 at *;have⟨f0,f1⟩:=kG.q2;go_wp2_with fail
 refine (ac.out W3 aL).mono ?_;rintro e w4 ⟨v,rfl,⟨lv,rfl,bs⟩,U⟩;obtain⟨s4,p4,rfl,_⟩:=id bs.1;replace aL:=ag U aL.size aL;replace aL:af w w (w4.alloc (.cells #[decide (qG<0),.slice s4 (dg qG.natAbs).length p4] 182)):=aL.alloc aL.size _;go_upto_region 4 with fail
 generalize w4.alloc _=W5,w4.heap.size=bo at *;go_wp2_with fail
 refine (ab.out _).mono ?_;rintro e w6 ⟨rfl,rfl⟩;go_wp2_with fail
 refine (g.out _).mono ?_;rintro e w6 ⟨rfl,rfl⟩;go_wp2;exact Vk (v:=.int .i64 D) (by simp [results,results321,go_sem]) rfl ⟨rfl,aL⟩
def JK(h:P:=by have:=uH.1 (VY.1 h);omega):=h
def JQ(h:P:=by simp [results,results307,go_sem,q0,q1,q2,q3]):=h
def Lu(h:P:=by
 have HI:=h_ (co.out da _ _ rX.1 rZ.1);have⟨e0,e1,e2,e3⟩:=kQ.q4;go_wp2_with fail
 refine HI.out.mono ?_;rintro e cy ⟨rfl,a5⟩;replace kQ:=kQ.next a5
 replace V:=V.next a5
 replace rX:=rX.below a5;replace rZ:=rZ.below a5;replace aL:=ag a5 (HS.out▸aL.size) aL;clear e0 e1 e2 e3 a5 HI co;obtain⟨ok,aa⟩:∃ok,iD X Z=ok:=⟨_,rfl⟩
 rw[aa];have a6:=h_ aa;have dp:=h_ cm;clear aa cm;cases ok
 .
   have⟨r0,r1,r2,r3⟩:=V.q4;have⟨g0,g1,g2,g3⟩:=V.f4;have g4:=V.lt;have k9:=(((V.set 0 false).set 1 (.slice none 0 0)).set 2 false).set 3 (.slice none 0 0);have ad:af S w (((cy.setCell ⟨S+2,0,none⟩ false).setCell ⟨S+2,1,none⟩ (.slice none 0 0)).setCell ⟨S+2,2,none⟩ false |>.setCell ⟨S+2,3,none⟩ (.slice none 0 0)):=(((aL.setCell s_ _).setCell s_ _).setCell s_ _).setCell s_ _;go_wp2;generalize setCell _ _ _=w9 at ad k9 ⊢;have⟨q0,q1,q2,q3⟩:=k9.q4;refine Vk (v:=.tuple #[.agg #[false,.slice none 0 0,false,.slice none 0 0],false]) JQ rfl ?_;exact⟨⟨.nilFunc,.nilFunc,.inr ⟨a6.out,rfl⟩⟩,HS.out▸ad⟩
 .have⟨e0,e1,e2,e3⟩:=kQ.q4;have⟨r0,r1,r2,r3⟩:=V.q4;have⟨g0,g1,g2,g3⟩:=V.f4;have g4:=V.lt;have k9:=(((V.set 0 (decide (X<0))).set 1 (.slice sX (dg X.natAbs).length pX)).set 2 false).set 3 (.slice sZ (dg Z.natAbs).length pZ);have ad:af S w (((cy.setCell ⟨S+2,0,none⟩ (decide (X<0))).setCell ⟨S+2,1,none⟩ (.slice sX (dg X.natAbs).length pX)).setCell ⟨S+2,2,none⟩ false |>.setCell ⟨S+2,3,none⟩ (.slice sZ (dg Z.natAbs).length pZ)):=(((aL.setCell s_ _).setCell s_ _).setCell s_ _).setCell s_ _;have x9:=rX.far d_ V (oW cy (S+2) (decide (X<0)) (.slice sX (dg X.natAbs).length pX) false (.slice sZ (dg Z.natAbs).length pZ));have z9:=rZ.far d_ V (oW cy (S+2) (decide (X<0)) (.slice sX (dg X.natAbs).length pX) false (.slice sZ (dg Z.natAbs).length pZ));go_wp2;generalize setCell _ _ _=w9 at ad k9 x9 z9 ⊢;have⟨q0,q1,q2,q3⟩:=k9.q4;refine Vk (v:=.tuple #[.agg #[decide (X<0),.slice sX (dg X.natAbs).length pX,false,.slice sZ (dg Z.natAbs).length pZ],true]) JQ rfl ?_;exact⟨⟨_,_,.inl ⟨a6.out,by rw[dp.out],x9,z9⟩⟩,HS.out▸ad⟩):=h
def Au(h:P:=by
 have:(dg (aT A B x z).natAbs).length≠0:=λh=>ca JK;exact VD.2 o_):=h
def Sz.div{n:Nat}{F D:Int}(h:Sz n F)(hD:1<=D)(hd:D∣F):Sz n (F / D):=by
 obtain⟨c,rfl⟩:=hd;rw[Wk _ o_];unfold Sz at *;rw[V_] at h;have h1:1*c.natAbs<=D.natAbs*c.natAbs:=WE _ o_;omega
def aW.form{w:World}{b:Nat}{v:Value}{L:List Int}(h:aW w b v L):∃a F,v=.slice a L.length F:=by
 obtain⟨a,F,h1,_⟩:=h.1;exact⟨a,F,h1⟩
def Mm(b:Nat)(X Z:Int)(w:World)(e:Ending)(w':World):Prop:=(∃lx lz,(iD X Z=true/\e=.returned (.tuple #[.agg #[decide (X<0),lx,decide (Z<0),lz],true])/\aW w' b lx (dg X.natAbs)/\aW w' b lz (dg Z.natAbs))\/(iD X Z=false/\e=.returned (.tuple #[.agg #[false,.slice none 0 0,false,.slice none 0 0],false])))/\af w w w'
def oW(w:World)(r:Nat)(x y u v:Value):ai [r] w ((((w.setCell ⟨r,0,none⟩ x).setCell ⟨r,1,none⟩ y).setCell ⟨r,2,none⟩ u).setCell ⟨r,3,none⟩ v):=((kt w r x y).setCell (p:=⟨r,2,none⟩) (.inr s_) u).setCell (p:=⟨r,3,none⟩) (.inr s_) v
def Fj{A B x z:Int}(hA:bh A)(hB:a_ B)(hd:aP A B≠0)(hG:aT A B x z≠0):(aT A B x z / ce A B x z<0↔aT A B x z<0)/\0<eC A B x z:=by
 have h1:=(yW x z hA hB hd).2;have h2:=N6 h1.1 (p_ A B x z);refine⟨h2,?_⟩;have h3:aT A B x z / ce A B x z≠0:=λh=>by
  obtain⟨c,hc⟩:=p_ A B x z;rw[hc,Wk _ o_] at h;subst h;rw[Ya] at hc;exact hG hc
 unfold eC;split<;>omega
def QI(A B x z:Int)(b:Nat)(lx lz:Value)(hA:bh A)(hB:a_ B)(hd:aP A B≠0)(zx:Sz 80 x)(zz:Sz 80 z)(ca:aT A B x z≠0)(w:World)(hb:b<=w.heap.size)(aZ:aW w b lx (dg x.natAbs))(a8:aW w b lz (dg z.natAbs)):
 Kp 307 #[.agg #[A,B],.agg #[decide (x<0),lx,decide (z<0),lz]] w (Mm b (eQ A B x z) (eC A B x z) w):=by
 obtain⟨kC,kT,V,J⟩:=fv w #[A,B] 42 #[decide (x<0),lx,decide (z<0),lz] 209 #[false,.slice none 0 0,false,.slice none 0 0] 209;have cb:=h_ aZ;have cc:=h_ a8;obtain⟨ax,cx,rfl⟩:=aZ.form;obtain⟨az,cz,rfl⟩:=a8.form;clear aZ a8;obtain⟨zF,zG⟩:=yV hA hB zx zz;have b6:=(yW x z hA hB hd).2;obtain⟨cA,cF⟩:=Fj hA hB hd ca;have HF:=h_ (λW (hW:af w w W)=>BA A B x z b _ _ hA hB zx zz W (Vl hb hW.size) (cb.out.below hW) (cc.out.below hW));have b5:=h_ (λW (hW:af w w W)=>wU A B x z b _ _ hA hB zx zz W (Vl hb hW.size) (cb.out.below hW) (cc.out.below hW));have HD:=h_ (λW (hW:af w w W)=>M1 A B x z b _ _ hA hB hd zx zz W (Vl hb hW.size) (cb.out.below hW) (cc.out.below hW));have cZ:=h_ (λW v h=>tG (bm A B x z) (ce A B x z) v (Vl zF.len o_) o_ W h);have bY:=h_ (λW v h=>tG (aT A B x z) (ce A B x z) v (Vl zG.len o_) o_ W h);have zP:=zF.div b6.1 (ve A B x z);have zQ:=zG.div b6.1 (p_ A B x z);have bx:=h_ (λW v h=>qK (bm A B x z / ce A B x z) v (Vl zP.len o_) W h);have bs:=h_ (λW v h=>qK (aT A B x z / ce A B x z) v (Vl zQ.len o_) W h);have zX:Sz 400 (eQ A B x z):=by unfold eQ;split;exact zP.neg;exact zP
 have zZ:Sz 400 (eC A B x z):=by unfold eC;split;exact zQ.neg;exact zQ
 have co:=h_ (λW lx lz aZ a8=>QB (eQ A B x z) (eC A B x z) lx lz zX.len zZ.len (Wc cF) W aZ a8);have hX:eQ A B x z=if aT A B x z<0 then -(bm A B x z / ce A B x z) else bm A B x z / ce A B x z:=rfl
 have hZ:eC A B x z=if aT A B x z<0 then -(aT A B x z / ce A B x z) else aT A B x z / ce A B x z:=rfl
 have bq:(((dg (aT A B x z).natAbs).length:Int)==0)=false:=by
  exact Au
 have HX:=h_ hX;have HZ:=h_ hZ;have c0:=h_ cA;clear hX hZ cA;generalize eQ A B x z=X at *;generalize eC A B x z=Z at *;generalize bm A B x z / ce A B x z=P at *;generalize aT A B x z / ce A B x z=Q at *;generalize bm A B x z % ce A B x z=d1 at *;generalize aT A B x z % ce A B x z=dy at *;generalize ce A B x z=D at *;generalize bm A B x z=F at *;generalize aT A B x z=G at *;generalize decide (x<0)=sx at *;generalize decide (z<0)=sz at *;obtain⟨nx,b3⟩:∃nx,(dg x.natAbs).length=nx:=⟨_,rfl⟩
 obtain⟨nz,dd⟩:∃nz,(dg z.natAbs).length=nz:=⟨_,rfl⟩
 rw[b3] at kC kT V J HF b5 HD ⊢;rw[dd] at kC kT V J HF b5 HD ⊢;clear b3 dd cb cc;obtain⟨S,hS⟩:∃S,w.heap.size=S:=⟨_,rfl⟩
 go_enter func307,ntmps307;go_upto_region 1 with fail
 generalize ((w.alloc _).alloc _).alloc _=W at *;rw[hS] at kC kT V J hb HF b5 HD;have HS:=h_ hS;clear hS;have⟨a4,a3⟩:=kC.q2;have⟨t0,t1,t2,t3⟩:=kT.q4;have a9:S<=W.heap.size:=Vq kC.lt;go_wp2_with fail
 refine (b5.out W J).mono ?_;rintro e w1 ⟨v,rfl,ba,I⟩;obtain⟨lG,rfl,rG,cG⟩:=ba.cell;obtain⟨sG,pG,rfl⟩:=rG.form;obtain⟨U,ab⟩:=ay w1 #[decide (G<0),.slice sG (dg G.natAbs).length pG] 182;have aL:=ag ab (Vl a9 I.size) (ag I a9 J);replace kC:=(kC.next I).next ab
 replace kT:=(kT.next I).next ab
 replace V:=(V.next I).next ab
 replace rG:=rG.below ab;clear a4 a3 t0 t1 t2 t3 I ab J b5 ba a9;go_upto_region 2 with fail
 generalize w1.alloc _=W2 at *;generalize w1.heap.size=r6 at *;have⟨g0,g1⟩:=U.q2;have⟨a4,a3⟩:=kC.q2;have⟨t0,t1,t2,t3⟩:=kT.q4;go_wp2_with fail
 refine aj (HD.out W2 aL) λw3 aF=>?_;have a9:S<=W2.heap.size:=HS.out▸aL.size;replace aL:=ag aF a9 aL;replace kC:=kC.next aF
 replace kT:=kT.next aF
 replace V:=V.next aF
 replace U:=U.next aF
 replace rG:=rG.below aF;clear a4 a3 t0 t1 t2 t3 g0 g1 aF HD a9;have⟨a4,a3⟩:=kC.q2;have⟨t0,t1,t2,t3⟩:=kT.q4;go_upto_region 5 with fail
 go_wp2_with fail
 refine (HF.out w3 aL).mono ?_;rintro e w4 ⟨v,rfl,ba,K⟩;have dx:=h_ ba.rd;replace aL:=ag K (HS.out▸aL.size) aL;replace V:=V.next K
 replace U:=U.next K
 replace rG:=rG.below K;clear a4 a3 t0 t1 t2 t3 K HF ba kC kT;go_wp2_with fail
 refine (cZ.out w4 _ dx.out).mono ?_;rintro e w5 ⟨v5,rfl,ba,ae⟩;replace ba:=ba.le (Vl hb (HS.out▸aL.size));obtain⟨lP,rfl,rP,cP⟩:=ba.cell;obtain⟨sP,pP,rfl⟩:=rP.form;obtain⟨k8,ab⟩:=ay w5 #[decide (P<0),.slice sP (dg P.natAbs).length pP] 182;replace aL:=ag ae (HS.out▸aL.size) aL;have c8:S<=w5.heap.size:=HS.out▸aL.size;have d5:S+2<w5.heap.size:=(V.next ae).lt;replace aL:=ag ab (HS.out▸aL.size) aL;replace V:=(V.next ae).next ab
 replace U:=(U.next ae).next ab
 replace rG:=(rG.below ae).below ab;replace rP:=rP.below ab;clear ae ab dx cZ ba;go_upto_region 6 with fail
 generalize w5.alloc _=W6 at *;generalize w5.heap.size=r8 at *;have⟨g0,g1⟩:=U.q2;go_wp2_with fail
 refine (bY.out W6 (.agg #[decide (G<0),.slice sG (dg G.natAbs).length pG]) ⟨_,rfl,rG.1⟩).mono ?_;rintro e w7 ⟨v7,rfl,ba,a7⟩;replace ba:=ba.le (Vl hb (HS.out▸aL.size));obtain⟨lQ,rfl,rQ,cQ⟩:=ba.cell;obtain⟨sQ,pQ,rfl⟩:=rQ.form;obtain⟨bp,ab⟩:=ay w7 #[decide (Q<0),.slice sQ (dg Q.natAbs).length pQ] 182;have l8:=(k8.next a7).lt;replace aL:=ag a7 (HS.out▸aL.size) aL;replace aL:=ag ab (HS.out▸aL.size) aL;replace V:=(V.next a7).next ab
 replace k8:=(k8.next a7).next ab
 replace rP:=(rP.below a7).below ab;replace rQ:=rQ.below ab;clear a7 ab bY ba g0 g1 U rG;go_upto_region 7 with fail
 generalize w7.alloc _=W8 at *;generalize w7.heap.size=bo at *;have⟨a0,a1⟩:=k8.q2;have⟨b0,b1⟩:=bp.q2;by_cases aX:G<0
 .have hX:=HX.out;have hZ:=HZ.out;rw[Vo aX] at hX hZ;have c3:Q<0:=c0.out.2 aX;have c4:decide (Q<0)=true:=Xn c3;rw[<-hX] at bx;rw[<-hZ] at bs;have db:=h_ cF;clear cF;have dz:=h_ c4;rw[c4] at bp b0;clear hX hZ HX HZ c4 c3;have a2:=k8.lt;have b2:=bp.lt;have aG:b<=W8.heap.size:=Vl hb (HS.out▸aL.size);have a9:S<=W8.heap.size:=HS.out▸aL.size;have dl:r8≠bo:=o_;have c1:bo≠r8:=o_;have kP:bG b r8 P W8:=⟨_,k8,rP,rfl⟩
  have c9:bG b bo Q W8:=⟨_,by rw[dz.out];exact bp,rQ,rfl⟩
  clear k8 bp rP rQ;go_upto_region 8 with fail
  clear a0 a1 b0 b1;refine jl 4 [] [(0,40),(1,41),(2,42),(3,43)] [Wh b P,Wh b X,Wh b Q,Wh b Z] k_ k_ k_ trivial ⟨Wh.closed _ _,Wh.closed _ _,Wh.closed _ _,Wh.closed _ _,trivial⟩ ⟨?_,?_,?_,?_,trivial⟩ ?_
  .refine aS.q _ r_ r_ λρ w' H=>?_;have hx:ρ (.tmp 8)=.pointer (some ⟨r8,0,none⟩):=H.bas 8 k_;exact lN _ rfl hx (kP.next H.bel)
  .refine aS.q _ r_ r_ λρ w' H=>?_;obtain⟨v0,e0,p0⟩:=H.dep 0 40 k_;have p0:(Wh b P) v0 w':=p0;exact bn.call 197 #[v0] _ _ _ rfl (H.fn 197) (enters_of func197 k_ rfl) (by simp [e0]) ((bx.out w' v0 p0.rd).mono λe w2 ⟨v,h1,h2,h3⟩=>⟨v,h1,h3,h2.le (Vl aG H.bel.size)⟩)
  .refine aS.q _ r_ r_ λρ w' H=>?_;have hx:ρ (.tmp 10)=.pointer (some ⟨bo,0,none⟩):=H.bas 10 k_;exact lN _ rfl hx (c9.next H.bel)
  .refine aS.q _ r_ r_ λρ w' H=>?_;obtain⟨v2,e2,p2⟩:=H.dep 2 42 k_;have p2:(Wh b Q) v2 w':=p2;exact bn.call 197 #[v2] _ _ _ rfl (H.fn 197) (enters_of func197 k_ rfl) (by simp [e2]) ((bs.out w' v2 p2.rd).mono λe w2 ⟨v,h1,h2,h3⟩=>⟨v,h1,h3,h2.le (Vl aG H.bel.size)⟩)
  intro vs Wt ac aM;have b8:(Wh b X) (vs 1) Wt:=aM.1 1 o_;have cu:(Wh b Z) (vs 3) Wt:=aM.1 3 o_;clear aM;simp only[eM,Nat.reduceBEq,WT,WK,Nat.reduceAdd,VQ,V1];obtain⟨d0,cM,b4,cN⟩:=b8.cell;obtain⟨bz,bZ,rfl⟩:=b4.form;simp only[cM];obtain⟨d6,c7,cW,c6⟩:=cu.cell;obtain⟨bi,g,rfl⟩:=cW.form;simp only[c7];obtain⟨o8,b7,d4,d3⟩:=kP.next ac
  obtain⟨d2,bv,dc,dq⟩:=c9.next ac
  have⟨x0,x1⟩:=b7.q2;have⟨x2,x3⟩:=b7.f2;have x4:=b7.lt;have⟨y0,y1⟩:=bv.q2;have⟨y2,y3⟩:=bv.f2;have y4:=bv.lt;have cX:S+2≠r8:=o_;have bX:S+2≠bo:=o_;have c2:bG b r8 X ((Wt.setCell ⟨r8,0,none⟩ (decide (X<0))).setCell ⟨r8,1,none⟩ (.slice bz (dg X.natAbs).length bZ)):=bG.put b7 rfl b4 cN;have kk:=(bv.far (p:=⟨r8,0,none⟩) c1 (decide (X<0))).far (p:=⟨r8,1,none⟩) c1 (.slice bz (dg X.natAbs).length bZ);have b9:aW ((Wt.setCell ⟨r8,0,none⟩ (decide (X<0))).setCell ⟨r8,1,none⟩ (.slice bz (dg X.natAbs).length bZ)) b (.slice bi (dg Z.natAbs).length g) (dg Z.natAbs):=cW.far d_ b7 (kt _ _ _ _);replace c2:=c2.far dl kk (decide (Z<0)) (.slice bi (dg Z.natAbs).length g);have c5:bG b bo Z ((((Wt.setCell ⟨r8,0,none⟩ (decide (X<0))).setCell ⟨r8,1,none⟩ (.slice bz (dg X.natAbs).length bZ)).setCell ⟨bo,0,none⟩ (decide (Z<0))).setCell ⟨bo,1,none⟩ (.slice bi (dg Z.natAbs).length g)):=bG.put kk rfl b9 c6;replace V:=((((V.next ac).far (p:=⟨r8,0,none⟩) cX (decide (X<0))).far (p:=⟨r8,1,none⟩) cX (.slice bz (dg X.natAbs).length bZ)).far (p:=⟨bo,0,none⟩) bX (decide (Z<0))).far (p:=⟨bo,1,none⟩) bX (.slice bi (dg Z.natAbs).length g);have cT:S<=bo:=o_;replace aL:af S w ((((Wt.setCell ⟨r8,0,none⟩ (decide (X<0))).setCell ⟨r8,1,none⟩ (.slice bz (dg X.natAbs).length bZ)).setCell ⟨bo,0,none⟩ (decide (Z<0))).setCell ⟨bo,1,none⟩ (.slice bi (dg Z.natAbs).length g)):=((((ag ac a9 aL).setCell (p:=⟨r8,0,none⟩) c8 _).setCell (p:=⟨r8,1,none⟩) c8 _).setCell (p:=⟨bo,0,none⟩) cT _).setCell (p:=⟨bo,1,none⟩) cT _;have k8:bG b r8 X ((((Wt.setCell ⟨r8,0,none⟩ (decide (X<0))).setCell ⟨r8,1,none⟩ (.slice bz (dg X.natAbs).length bZ)).setCell ⟨bo,0,none⟩ (decide (Z<0))).setCell ⟨bo,1,none⟩ (.slice bi (dg Z.natAbs).length g)):=c2;have bp:bG b bo Z ((((Wt.setCell ⟨r8,0,none⟩ (decide (X<0))).setCell ⟨r8,1,none⟩ (.slice bz (dg X.natAbs).length bZ)).setCell ⟨bo,0,none⟩ (decide (Z<0))).setCell ⟨bo,1,none⟩ (.slice bi (dg Z.natAbs).length g)):=c5;clear c2 c5 kk b9 b7 bv kP c9 ac bx bs cM b4 cN c7 cW c6 b8 cu;go_upto_region 9 with fail
  generalize (setCell (setCell (setCell (setCell _ _ _) _ _) _ _) _ _)=Wz at *;clear x0 x1 x2 x3 x4 y0 y1 y2 y3 y4 a2 b2 d4 d3 dc dq o8 d2 cG cP cQ aG a9 cT cX bX dl c1 c8 d5 l8 c0 dz bq;generalize vs 0=va;generalize vs 1=vb;generalize vs 2=vc;generalize vs 3=vd;clear vs;have cF:=db.out;obtain⟨lX,cB,rX,_⟩:=k8;obtain⟨lZ,bb,rZ,_⟩:=bp;obtain⟨sX,pX,rfl⟩:=rX.form;obtain⟨sZ,pZ,rfl⟩:=rZ.form;have cm:decide (Z<0)=false:=We (Y0.2 (Wc cF));rw[cm] at bb co;have⟨e0,e1⟩:=cB.q2;have⟨e2,e3⟩:=bb.q2;obtain⟨kQ,ab⟩:=ay Wz #[decide (X<0),.slice sX (dg X.natAbs).length pX,false,.slice sZ (dg Z.natAbs).length pZ] 209;replace V:=V.next ab
  replace rX:=rX.below ab;replace rZ:=rZ.below ab;replace aL:=ag ab (HS.out▸aL.size) aL;go_upto_region 10 with fail
  clear e0 e1 e2 e3 ab cB bb;generalize World.alloc _ _=da at *;generalize Wz.heap.size=cv at *;exact Lu
 .have hX:=HX.out;have hZ:=HZ.out;rw[Vm aX] at hX hZ;clear HX HZ;subst hX hZ;have c3:¬Z<0:=λh=>aX (c0.out.1 h);have c4:decide (Z<0)=false:=We c3;go_upto_region 9 with fail
  replace k8:bG b r8 X W8:=⟨_,k8,rP,rfl⟩
  replace bp:bG b bo Z W8:=⟨_,bp,rQ,rfl⟩
  clear a0 a1 b0 b1 rP rQ bx bs;obtain⟨lX,cB,rX,_⟩:=k8;obtain⟨lZ,bb,rZ,_⟩:=bp;obtain⟨sX,pX,rfl⟩:=rX.form;obtain⟨sZ,pZ,rfl⟩:=rZ.form;have cm:decide (Z<0)=false:=We (Y0.2 (Wc cF));rw[cm] at bb co;have⟨e0,e1⟩:=cB.q2;have⟨e2,e3⟩:=bb.q2;obtain⟨kQ,ab⟩:=ay W8 #[decide (X<0),.slice sX (dg X.natAbs).length pX,false,.slice sZ (dg Z.natAbs).length pZ] 209;replace V:=V.next ab
  replace rX:=rX.below ab;replace rZ:=rZ.below ab;replace aL:=ag ab (HS.out▸aL.size) aL;go_upto_region 10 with fail
  clear e0 e1 e2 e3 ab cB bb;generalize World.alloc _ _=da at *;generalize W8.heap.size=cv at *;exact Lu
def rtB(x z:Int):Nat:=max (ct x.natAbs) (ct z.natAbs)
def TM{x z}(hx:(dg x.natAbs).length<=80)(hz:(dg z.natAbs).length<=80):rtB x z<=1120:=by
 have:=uU hx;have:=uU hz;unfold rtB;omega
def QW(x z:Int)(lx lz:Value)(K:(dg x.natAbs).length<=1000)(G:(dg z.natAbs).length<=1000)(w:World)(aZ:cd w lx (dg x.natAbs))(a8:cd w lz (dg z.natAbs)):
 Rv 238 #[.agg #[decide (x<0),lx,decide (z<0),lz]] w (rtB x z):=by
 have⟨kT,J⟩:=ay w #[decide (x<0),lx,decide (z<0),lz] 209;have HX:=h_ (λW (hb:af w w W)=>yw x (.agg #[decide (x<0),lx]) K W (br.below ⟨_,rfl,aZ⟩ hb));have HZ:=h_ (λW (hb:af w w W)=>yw z (.agg #[decide (z<0),lz]) G W (br.below ⟨_,rfl,a8⟩ hb));obtain⟨ax,cx,rfl,_⟩:=aZ;obtain⟨az,cz,rfl,_⟩:=a8;have HM:=h_ (ng (ct x.natAbs:Int) (ct z.natAbs:Int));have hR:Hid ((if (ct z.natAbs:Int)<(ct x.natAbs:Int) then (ct x.natAbs:Int) else (ct z.natAbs:Int))=(rtB x z:Int)):=h_ (by unfold rtB;split<;>omega);rw[hR.out] at HM;clear hR;generalize rtB x z=B,ct x.natAbs=bx,ct z.natAbs=bz,decide (x<0)=sx,decide (z<0)=sz,(dg x.natAbs).length=nx,(dg z.natAbs).length=nz at *;go_enter func238,ntmps238;go_upto_region 1 with fail
 generalize w.alloc _=W at *;have⟨t0,t1,t2,t3,t4⟩:=kT.p4;refine bw [] (λ_=>false) (λ_=>True) (λ_=>True) k_ (trivial) (aE ⟨W,ai.refl _ _,trivial⟩ [ae,ae,ac,ae,ae] 4 ao aB ?_);refine aD 2 (mf (v:=.int .i64 (bx:Int)) (some 5) (λ_=>True) r_ r_ r_ (λ_=>by go_simp) ao (λw' hO hD=>(HX.out w' (ag hO.below J.size J)).mono λe w3 ⟨h1,h2⟩=>⟨h1,.of_below h2,trivial⟩) (λhne=>?_));refine ap (aD 5 ?_);refine mf (v:=.int .i64 (bz:Int)) (some 8) (λ_=>True) r_ r_ r_ (λ_=>by go_simp) ao (λw' hO hD=>(HZ.out w' (ag hO.below J.size J)).mono λe w3 ⟨h1,h2⟩=>⟨h1,.of_below h2,trivial⟩) (λhne=>?_);refine ap ?_;refine aD 6 ?_;refine mf (v:=.int .i64 (B:Int)) (some 9) (λ_=>True) r_ r_ r_ (λ_=>by go_simp) ao (λw' hO hD=>(HM.out w').mono λe w3 ⟨h1,h2⟩=>⟨h1,h2▸ai.refl _ _,trivial⟩) (λhne=>?_);refine ap ?_;refine aE hne (bk 7 1) 0 ao aB ?_;refine dn λWz a7 aX=>?_;have aM:af w w Wz:=ag a7.below J.size J;go_wp2;refine Vk (v:=.int .i64 (B:Int)) (by simp [results,results238,go_sem]) rfl ?_;exact⟨rfl,aM⟩
def vN(h:P:=by simp [results,results267,go_sem]):=h
def IB(h:P:=by rw[b2.out,Vm (by rw[aa];decide)]):=h
def JR(h:P:=by
 have:(dg (aT A B x z).natAbs).length≠0:=λh=>hg JK;exact VD.2 o_):=h
def Jr(h:P:=by
 refine aS.q _ r_ r_ λρ w' H=>?_;exact Eo 2 o_ _ rfl (H.bas 4 k_)):=h
def ef(A B:Int):Nat->Int->Int->Option (Option (Int×Int))
 |0,x,z=>some (some (x,z))
 |n+1,x,z=>if aT A B x z=0 then some none else if iD (eQ A B x z) (eC A B x z)=true then ef A B n (eQ A B x z) (eC A B x z) else none
def jM(A B X E:Int)(n:Nat):Option (Option (Int×Int)):=if E=0 then some none else ef A B n X (E*E)
def wR:Option (Option (Int×Int))->Value
 |none=>.tuple #[.int .i64 0,.bool false,.bool false]
 |some none=>.tuple #[.int .i64 0,.bool true,.bool true]
 |some (some r)=>.tuple #[.int .i64 (rtB r.1 r.2),.bool false,.bool true]
def yN{x z}(h:iD x z=true):Sz 80 x/\Sz 80 z:=by
 unfold iD at h;simp at h;have h2:=bO h.2;exact⟨wu h.1,wu o_⟩
theorem yX{A B}:∀{n} {x z} {r:Int×Int},Sz 80 x->Sz 80 z->ef A B n x z=some (some r)->Sz 80 r.1/\Sz 80 r.2
 |0,x,z,r,hx,hz,h=>by
  simp only[ef,WI] at h;subst h;exact⟨hx,hz⟩
 |n+1,x,z,r,hx,hz,h=>by
  unfold ef at h;split at h
  .cases h
  .split at h
   .rename_i aa;have:=yN aa;exact yX this.1 this.2 h
   .cases h
def qt(b r:Nat)(x z:Int)(w:World):Prop:=∃lx lz,ah r #[decide (x<0),lx,decide (z<0),lz] 209 w/\aW w b lx (dg x.natAbs)/\aW w b lz (dg z.natAbs)
def qt.put{b r}{cs}{w}{x z}{lx lz}(hk:ah r cs 209 w)(hc:cs.size=4)(hx:aW w b lx (dg x.natAbs))(hz:aW w b lz (dg z.natAbs)):
 qt b r x z ((((w.setCell r (decide (x<0))).setCell ⟨r,1,none⟩ lx).setCell ⟨r,2,none⟩ (decide (z<0))).setCell ⟨r,3,none⟩ lz):=by
 refine⟨lx,lz,?_,hx.far d_ hk (oW w r _ _ _ _),hz.far d_ hk (oW w r _ _ _ _)⟩
 match cs,hc with
 |⟨[a,b,c,d]⟩,_=>simpa using ((((hk.set 0 (decide (x<0))).set 1 lx).set 2 (decide (z<0))).set 3 lz)
def oP(b:Nat)(x z:Int)(v:Value)(w:World):Prop:=∃lx lz,v=.agg #[decide (x<0),lx,decide (z<0),lz]/\aW w b lx (dg x.natAbs)/\aW w b lz (dg z.natAbs)
def oP.closed(b)(x z)(v):aQ (oP b x z v):=λ_ _ ⟨lx,lz,h1,h2,h3⟩ hb=>⟨lx,lz,h1,h2.below hb,h3.below hb⟩
def UE{o}{ρ:Operand->Value}{w}{b}{x z}(p q)(Z:o.op=.build 209 #[(0,p),(1,q)])(G:Wh b x (ρ p) w)(hq:Wh b z (ρ q) w):bn prog o ρ w (oP b x z):=by
 have⟨l1,e1,r1⟩:=G;have⟨l2,e2,r2⟩:=hq;obtain⟨a1,c1,rfl⟩:=r1.form;obtain⟨a2,c2,rfl⟩:=r2.form;refine .value (.agg #[decide (x<0),.slice a1 (dg x.natAbs).length c1,decide (z<0),.slice a2 (dg z.natAbs).length c2]) ?_ ⟨_,_,rfl,r1,r2⟩;unfold execOp;rw[Z];simp [go_sem,e1,e2]
def Eo{o}{ρ:Operand->Value}{w}{r}(k)(hk:k<=2)(x)(Z:o.op=.fieldAddr 46 x k)(hx:ρ x=.pointer (some ⟨r,0,none⟩)):bn prog o ρ w (aV (.pointer (some ⟨r,k,none⟩))):=by
 refine .value _ ?_ rfl;unfold execOp;rw[Z];obtain rfl|rfl|rfl:k=0\/k=1\/k=2:=o_
 all_goals simp [go_sem,hx]
def Dj(a:Bool)(p)(n c)(w):(Instr.field 182 (.agg #[a,.slice p n c]) 1).run prog w=.ok (.slice p n c) w:=by
 simp [Instr.field,part,asAgg,Yg underlying182,go_sem]
def RF(A B X Y E:Int)(n:Nat)(hA:bh A)(hB:a_ B)(hd:aP A B≠0)(hX:a_ X)(hE:0<=E/\E<=20)(hn:n<=5)(w):
 Rv 267 #[.agg #[A,B],.agg #[X,Y,E],n] w (wR (jM A B X E n)):=by
 have⟨kC,kP,J⟩:=cO w #[A,B] 42 #[X,Y,E] 46;have HV:Hid (jM A B X E n=if E=0 then some none else ef A B n X (E*E)):=rfl;rw[HV.out];by_cases Z:E=0
 .subst Z;rw[Vo rfl];go_enter func267,ntmps267;go_upto_region 1 with fail
  generalize (w.alloc _).alloc _=W at *;have⟨_,_,bX⟩:=kP.q3;go_wp2;exact Vk (v:=.tuple #[(),true,true]) vN rfl ⟨rfl,J⟩
 .rw[Vm Z];have bs:(E==0)=false:=by simpa using Z
  have b8:=aN (x:=E) (y:=E) 20 20 o_ o_;obtain⟨S,hS⟩:∃S,w.heap.size=S:=⟨_,rfl⟩
  go_enter func267,ntmps267;go_upto_region 1 with fail
  generalize (w.alloc _).alloc _=W at *;rw[hS] at kC kP J;have HS:=h_ hS;have⟨bY,bZ,bX,b0⟩:=kP.p3;have a9:=HS.out▸J.size;go_upto_region 3 with fail
  refine jl 11 [10] [(10,9),(0,15),(1,16),(2,17),(3,18),(4,19),(5,20),(6,21),(7,22),(8,23),(9,24)] [aV (.pointer (some ⟨S+1,0,none⟩)),aV X,Wh S X,aV (.pointer (some ⟨S+1,2,none⟩)),aV E,aV (.pointer (some ⟨S+1,2,none⟩)),aV E,aV (E*E:Int),Wh S (E*E),oP S X (E*E),PA W #[false,.slice none 0 0,false,.slice none 0 0] 209] k_ k_ k_ ⟨⟨_,_,_,rfl⟩,trivial⟩ ⟨aV.closed _,aV.closed _,Wh.closed _ _,aV.closed _,aV.closed _,aV.closed _,aV.closed _,aV.closed _,Wh.closed _ _,oP.closed _ _ _,PA.closed _ _ _,trivial⟩ ⟨?_,?_,?_,?_,?_,?_,?_,?_,?_,?_,?_,trivial⟩ ?_
  .exact aS.q _ r_ r_ λρ w' H=>Eo 0 o_ _ rfl (H.bas 4 k_)
  .refine aS.q _ r_ r_ λρ w' H=>?_;have⟨v0,e0,p0⟩:=H.dep 0 15 k_;obtain rfl:v0=.pointer (some ⟨S+1,0,none⟩):=p0;exact jx _ rfl e0 ((kP.next H.bel).cell 0)
  .refine aS.q _ r_ r_ λρ w' H=>?_;have⟨v1,e1,p1⟩:=H.dep 1 16 k_;obtain rfl:v1=.int .i64 X:=p1;exact bn.call 195 #[X] _ _ _ rfl (H.fn 195) (enters_of func195 k_ rfl) (by simp [e1]) ((fF X o_ w').mono λe w2 ⟨v,h1,h2,h3⟩=>⟨v,h1,h3,h2.le (Vl a9 H.bel.size)⟩)
  .exact Jr
  .refine aS.q _ r_ r_ λρ w' H=>?_;have⟨v3,e3,p3⟩:=H.dep 3 18 k_;obtain rfl:v3=.pointer (some ⟨S+1,2,none⟩):=p3;exact jx _ rfl e3 ((kP.next H.bel).cell 2)
  .exact Jr
  .refine aS.q _ r_ r_ λρ w' H=>?_;have⟨v5,e5,p5⟩:=H.dep 5 20 k_;obtain rfl:v5=.pointer (some ⟨S+1,2,none⟩):=p5;exact jx _ rfl e5 ((kP.next H.bel).cell 2)
  .refine aS.q _ r_ r_ λρ w' H=>?_;have⟨v4,e4,p4⟩:=H.dep 4 19 k_;obtain rfl:v4=.int .i64 E:=p4;have⟨K,e6,p6⟩:=H.dep 6 21 k_;obtain rfl:K=.int .i64 E:=p6;exact nZ _ _ rfl e4 e6 o_
  .refine aS.q _ r_ r_ λρ w' H=>?_;have⟨v7,e7,p7⟩:=H.dep 7 22 k_;obtain rfl:v7=.int .i64 (E*E):=p7;exact bn.call 195 #[(E*E:Int)] _ _ _ rfl (H.fn 195) (enters_of func195 k_ rfl) (by simp [e7]) ((fF (E*E) o_ w').mono λe w2 ⟨v,h1,h2,h3⟩=>⟨v,h1,h3,h2.le (Vl a9 H.bel.size)⟩)
  .refine aS.q _ r_ r_ λρ w' H=>?_;have⟨v2,e2,p2⟩:=H.dep 2 17 k_;have p2:(Wh S X) v2 w':=p2;have⟨v8,e8,p8⟩:=H.dep 8 23 k_;have p8:(Wh S (E*E)) v8 w':=p8;exact UE _ _ rfl (by rw[e2];exact p2) (by rw[e8];exact p8)
  .exact kK
  intro vs Wt ac aM;have b5:(oP S X (E*E)) (vs 9) Wt:=aM.1 9 o_;have b1:(PA W #[false,.slice none 0 0,false,.slice none 0 0] 209) (vs 10) Wt:=aM.1 10 o_;have⟨r9,cB,bb,bq⟩:=b1;clear aM;simp only[eM,Nat.reduceBEq,WT,WK,Nat.reduceAdd,VQ,V1,cB];obtain⟨l1,l2,ev,q1,q2⟩:=b5;obtain⟨a1,c1,rfl⟩:=q1.form;obtain⟨a2,c2,rfl⟩:=q2.form;simp only[ev];have⟨x0,x1,x2,x3⟩:=bq.q4;have⟨y0,y1,y2,y3⟩:=bq.f4;have y4:=bq.lt;have g:S<=r9:=Vl a9 bb;have F:S≠r9:=by have:=kC.lt;omega
  have kD:=qt.put bq rfl q1 q2;have aL:af S w _:=(((((ag ac a9 J).setCell (p:=⟨r9,0,none⟩) g (decide (X<0))).setCell (p:=⟨r9,1,none⟩) g (.slice a1 (dg X.natAbs).length c1)).setCell (p:=⟨r9,2,none⟩) g (decide (E*E<0))).setCell (p:=⟨r9,3,none⟩) g (.slice a2 (dg (E*E).natAbs).length c2))
  have V:=((((kC.next ac).far (p:=⟨r9,0,none⟩) F (decide (X<0))).far (p:=⟨r9,1,none⟩) F (.slice a1 (dg X.natAbs).length c1)).far (p:=⟨r9,2,none⟩) F (decide (E*E<0))).far (p:=⟨r9,3,none⟩) F (.slice a2 (dg (E*E).natAbs).length c2);go_upto_region 4 with fail
  clear x0 x1 x2 x3 y0 y1 y2 y3 y4 ev q1 q2 bq ac kC kP bY bZ bX b0 J;generalize setCell _ _ _=W4 at *;have b9:Sz 80 X:=by unfold Sz;omega
  have b4:Sz 80 (E*E):=by unfold Sz;omega
  have HG:=h_ (λW x z lx lz (zx:Sz 80 x) (zz:Sz 80 z) (h0:S<=W.heap.size) h1 h2=>wU A B x z S lx lz hA hB zx zz W h0 h1 h2);have HD:=h_ (λW x z lx lz (zx:Sz 80 x) (zz:Sz 80 z) (hg:aT A B x z≠0) (h0:S<=W.heap.size) h1 h2=>QI A B x z S lx lz hA hB hd zx zz hg W h0 h1 h2);clear hd b8 Z bs a9;generalize b7:E*E=EE at *;have HQ:=h_ b7;clear b7;go_upto_region 5 with fail
  go_loopw [26] (λiv wr=>∃(i:Nat) (x z:Int),i<=n/\iv=.int .i64 i/\qt S r9 x z wr/\ah S #[A,B] 42 wr/\Sz 80 x/\Sz 80 z/\Hid (ef A B n X EE=ef A B (n - i) x z)/\af S w wr) (λiv _=>n - (intOf iv).toNat)
  case atStart=>exact⟨0,X,EE,o_,rfl,kD,V,b9,b4,rfl,aL⟩
  case round=>
   clear kD V b9 b4 aL;obtain⟨i,x,z,hi,rfl,kD,kC,zx,zz,HE,aL⟩:=hrel;obtain⟨lx,lz,k9,rx,rz⟩:=kD;obtain⟨ax,cx,rfl⟩:=rx.form;obtain⟨az,cz,rfl⟩:=rz.form
   rename World=>wr
   have ad:S<=wr.heap.size:=HS.out▸aL.size;by_cases aG:i<n
   .have b3:(i:Int)<(n:Int):=o_;have⟨a4,a3,a5⟩:=kC.p2;have⟨d0,d1,d2,d3⟩:=k9.q4;have H1:=h_ (HG.out wr x z _ _ zx zz ad rx rz);have cb:=Dj;obtain⟨m,hm⟩:∃m,n - i=m+1:=⟨n - i - 1,o_⟩
    have a8:Hid (ef A B n X EE=if aT A B x z=0 then some none else if iD (eQ A B x z) (eC A B x z)=true then ef A B m (eQ A B x z) (eC A B x z) else none):=h_ (by rw[HE.out,hm];rfl);clear HE;by_cases hg:aT A B x z=0
    .have HV:Hid (ef A B n X EE=some none):=h_ (by rw[a8.out,Vo hg]);have bi:(((dg (aT A B x z).natAbs).length:Int)==0)=true:=by rw[hg,Zl,iN];rfl
     clear a8 HD HG hg;generalize aT A B x z=G at *;generalize decide (x<0)=sx at *;generalize decide (z<0)=sz at *;go_wp2_with fail
     refine H1.out.mono ?_;rintro e w1 ⟨v,rfl,ba,I⟩;obtain⟨lG,rfl,rG,cG⟩:=ba.cell;obtain⟨sG,pG,rfl⟩:=rG.form;go_wp2;refine Vk (v:=.tuple #[(),true,true]) vN rfl ?_;exact⟨by rw[HQ.out,HV.out];rfl,HS.out▸ag I ad aL⟩
    .have H2:=h_ (λW=>HD.out W x z (.slice ax (dg x.natAbs).length cx) (.slice az (dg z.natAbs).length cz) zx zz hg);have bi:(((dg (aT A B x z).natAbs).length:Int)==0)=false:=by
      exact JR
     have b2:Hid (ef A B n X EE=if iD (eQ A B x z) (eC A B x z)=true then ef A B m (eQ A B x z) (eC A B x z) else none):=h_ (by rw[a8.out,Vm hg]);have a6:=yN (x:=eQ A B x z) (z:=eC A B x z);clear a8 HD HG hg zx zz;generalize eQ A B x z=X1 at *;generalize eC A B x z=Z1 at *;generalize aT A B x z=G at *;generalize decide (x<0)=sx at *;generalize decide (z<0)=sz at *;generalize (dg x.natAbs).length=nx at *;generalize (dg z.natAbs).length=nz at *;go_wp2_with fail
     refine H1.out.mono ?_;rintro e w1 ⟨v,rfl,ba,I⟩;obtain⟨lG,rfl,rG,cG⟩:=ba.cell;obtain⟨sG,pG,rfl⟩:=rG.form;replace aL:=ag I ad aL;replace ad:=Vl ad I.size;replace kC:=kC.next I
     replace k9:=k9.next I
     replace rx:=rx.below I;replace rz:=rz.below I;clear a4 a3 a5 d0 d1 d2 d3 I H1 ba rG cG;have⟨a4,a3,a5⟩:=kC.p2;have⟨d0,d1,d2,d3⟩:=k9.q4;go_upto_region 8 with fail
     go_wp2_with fail
     refine (H2.out w1 ad rx rz).mono ?_;rintro e w2 ⟨⟨lX,lZ,bv⟩,U⟩;clear rx rz H2 d0 d1 d2 d3 a4 a3 a5;replace aL:=ag U ad aL;replace ad:=Vl ad U.size;replace kC:=kC.next U
     replace k9:=k9.next U
     rcases bv with ⟨aa,rfl,rX,rZ⟩|⟨aa,rfl⟩
     .obtain⟨aX,cX,rfl⟩:=rX.form;obtain⟨aZ,cZ,rfl⟩:=rZ.form;have ca:Hid (ef A B n X EE=ef A B (n - (i+1)) X1 Z1):=h_ (by rw[b2.out,Vo aa];congr 1;omega);obtain⟨zx,zz⟩:=a6 aa;clear b2 a6 aa;obtain⟨bp,ab⟩:=ay w2 #[decide (X1<0),.slice aX (dg X1.natAbs).length cX,decide (Z1<0),.slice aZ (dg Z1.natAbs).length cZ] 209;replace aL:=ag ab ad aL;replace kC:=kC.next ab
      replace k9:=k9.next ab
      replace rX:=rX.below ab;replace rZ:=rZ.below ab;go_upto_region 11 with fail
      generalize w2.alloc _=W3,w2.heap.size=bo at *;have⟨e0,e1,e2,e3⟩:=bp.q4;have⟨d0,d1,d2,d3⟩:=k9.q4;have⟨y0,y1,y2,y3⟩:=k9.f4;have y4:=k9.lt;have kn:=qt.put k9 rfl rX rZ;replace aL:af S w _:=((((aL.setCell (p:=r9) g (decide (X1<0))).setCell (p:=⟨r9,1,none⟩) g (.slice aX (dg X1.natAbs).length cX)).setCell (p:=⟨r9,2,none⟩) g (decide (Z1<0))).setCell (p:=⟨r9,3,none⟩) g (.slice aZ (dg Z1.natAbs).length cZ))
      replace kC:=(((kC.far (p:=r9) F (decide (X1<0))).far (p:=⟨r9,1,none⟩) F (.slice aX (dg X1.natAbs).length cX)).far (p:=⟨r9,2,none⟩) F (decide (Z1<0))).far (p:=⟨r9,3,none⟩) F (.slice aZ (dg Z1.natAbs).length cZ);go_upto_region 12 with fail
      generalize setCell _ _ _=W4 at *;go_wp2;go_roundw
      case rel=>exact⟨i+1,X1,Z1,o_,by go_num,kn,kC,zx,zz,ca,aL⟩
      case measure=>exact aJ
     .have HV:Hid (ef A B n X EE=none):=h_ IB;have ab:af w2 w2 (w2.alloc (.cells #[false,.slice none 0 0,false,.slice none 0 0] 209)):=(Vn _ _).alloc (Vj _) _;replace aL:=ag ab ad aL;go_upto_region 9 with fail
      generalize w2.alloc _=W3 at *;go_wp2;refine Vk (v:=.tuple #[(),false,false]) vN rfl ?_;exact⟨by rw[HQ.out,HV.out];rfl,HS.out▸aL⟩
   .have b3:¬(i:Int)<(n:Int):=o_;have HV:Hid (ef A B n X EE=some (some (x,z))):=h_ (by rw[HE.out,show n - i=0 by omega];rfl);have HX:=h_ (λW (hb:af wr wr W)=>BS x (.agg #[decide (x<0),.slice ax (dg x.natAbs).length cx]) (Vl zx.len o_) W (br.below ⟨_,rfl,rx.1⟩ hb));have HZ:=h_ (λW (hb:af wr wr W)=>BS z (.agg #[decide (z<0),.slice az (dg z.natAbs).length cz]) (Vl zz.len o_) W (br.below ⟨_,rfl,rz.1⟩ hb));have hR:Hid (max (ct x.natAbs:Int) (ct z.natAbs:Int)=(rtB x z:Int)):=h_ (by unfold rtB;omega);have⟨d0,d1,d2,d3,d4⟩:=k9.p4;generalize ct x.natAbs=bx,ct z.natAbs=bz,decide (x<0)=sx,decide (z<0)=sz,(dg x.natAbs).length=nx,(dg z.natAbs).length=nz at *;go_wp2_with fail
    (refine bR k_ k_ ?_;(repeat (go_big_quiet_step ((go_at_call 308;first|with_reducible exact Calls.quiet_cls ao _ (HX.out _ (aU.over _).below)|with_reducible exact Calls.quiet_cls ao _ (HZ.out _ (aU.over _).below)))));refine wpQuiet_nil ?_;intro w5 ae)
    go_wp2;refine Vk (v:=.tuple #[.int .i64 (max (bx:Int) (bz:Int)),false,true]) vN rfl ?_;exact⟨by rw[HQ.out,HV.out,hR.out];rfl,HS.out▸ag ae ad aL⟩
def JZ(h:P:=by simp [results,results284,go_sem,q0,q1,q2,q3]):=h
def L_(h:P:=by
 obtain⟨lT,c5,rT,_⟩:=kF;obtain⟨lU,cG,rU,_⟩:=kG;obtain⟨sT,pT,rfl⟩:=rT.form;obtain⟨sU,pU,rfl⟩:=rU.form;have⟨c0,c1⟩:=kC.q2;have⟨f0,f1⟩:=c5.q2;have⟨g0,g1⟩:=cG.q2;go_wp2_with fail
 refine aj (c8.out W3 (.agg #[decide (T<0),.slice sT (dg T.natAbs).length pT]) (.agg #[decide (U<0),.slice sU (dg U.natAbs).length pU]) ⟨_,rfl,rT.1⟩ ⟨_,rfl,rU.1⟩) λw4 K=>?_;replace aL:=ag K (HS.out▸aL.size) aL;replace V:=V.next K
 replace c5:=c5.next K
 replace cG:=cG.next K
 replace rT:=rT.below K;replace rU:=rU.below K;clear c0 c1 f0 f1 g0 g1 K c8 kC;have⟨f0,f1⟩:=c5.q2;go_upto_region 8 with fail
 go_wp2_with fail
 refine (cZ.out w4 (.agg #[decide (T<0),.slice sT (dg T.natAbs).length pT]) ⟨_,rfl,rT.1⟩).mono ?_;rintro e w5 ⟨v5,rfl,ba,ae⟩;replace ba:=ba.le (Vl hb (HS.out▸aL.size));obtain⟨lP,rfl,rP,cP⟩:=ba.cell;obtain⟨sP,pP,rfl⟩:=rP.form;obtain⟨k8,ab⟩:=ay w5 #[decide (X<0),.slice sP (dg X.natAbs).length pP] 182;replace aL:=ag ae (HS.out▸aL.size) aL;replace aL:=ag ab (HS.out▸aL.size) aL;replace V:=(V.next ae).next ab
 replace cG:=(cG.next ae).next ab
 replace rU:=(rU.below ae).below ab;replace rP:=rP.below ab;clear ae ab cZ ba f0 f1 c5 rT cP;go_upto_region 9 with fail
 generalize w5.alloc _=W6 at *;generalize w5.heap.size=r8 at *;have⟨g0,g1⟩:=cG.q2;go_wp2_with fail
 refine (bY.out W6 (.agg #[decide (U<0),.slice sU (dg U.natAbs).length pU]) ⟨_,rfl,rU.1⟩).mono ?_;rintro e w7 ⟨v7,rfl,ba,a7⟩;replace ba:=ba.le (Vl hb (HS.out▸aL.size));obtain⟨lQ,rfl,rQ,cQ⟩:=ba.cell;obtain⟨sQ,pQ,rfl⟩:=rQ.form;obtain⟨bp,ab⟩:=ay w7 #[decide (Z<0),.slice sQ (dg Z.natAbs).length pQ] 182;replace aL:=ag a7 (HS.out▸aL.size) aL;replace aL:=ag ab (HS.out▸aL.size) aL;replace V:=(V.next a7).next ab
 replace k8:=(k8.next a7).next ab
 replace rP:=(rP.below a7).below ab;replace rQ:=rQ.below ab;clear a7 ab bY ba g0 g1 cG rU cQ;go_upto_region 10 with fail
 generalize w7.alloc _=W8 at *;generalize w7.heap.size=bo at *;replace k8:bG b r8 X W8:=⟨_,k8,rP,rfl⟩
 replace bp:bG b bo Z W8:=⟨_,bp,rQ,rfl⟩
 clear rP rQ;have cF:=db.out;obtain⟨lX,cB,rX,_⟩:=k8;obtain⟨lZ,bb,rZ,_⟩:=bp;obtain⟨sX,pX,rfl⟩:=rX.form;obtain⟨sZ,pZ,rfl⟩:=rZ.form;have cm:decide (Z<0)=false:=We (Y0.2 (Wc cF));rw[cm] at bb co;have⟨e0,e1⟩:=cB.q2;have⟨e2,e3⟩:=bb.q2;obtain⟨kQ,ab⟩:=ay W8 #[decide (X<0),.slice sX (dg X.natAbs).length pX,false,.slice sZ (dg Z.natAbs).length pZ] 209;replace V:=V.next ab
 replace rX:=rX.below ab;replace rZ:=rZ.below ab;replace aL:=ag ab (HS.out▸aL.size) aL;go_upto_region 11 with fail
 clear e0 e1 e2 e3 ab cB bb;generalize World.alloc _ _=da at *;generalize W8.heap.size=cv at *;have HI:=h_ (co.out da _ _ rX.1 rZ.1);have⟨e0,e1,e2,e3⟩:=kQ.q4;go_wp2_with fail
 refine HI.out.mono ?_;rintro e cy ⟨rfl,a5⟩;replace kQ:=kQ.next a5
 replace V:=V.next a5
 replace rX:=rX.below a5;replace rZ:=rZ.below a5;replace aL:=ag a5 (HS.out▸aL.size) aL;clear e0 e1 e2 e3 a5 HI co;obtain⟨ok,aa⟩:∃ok,iD X Z=ok:=⟨_,rfl⟩
 rw[aa];have a6:=h_ aa;have dp:=h_ cm;clear aa cm;cases ok
 .
   have⟨r0,r1,r2,r3⟩:=V.q4;have⟨g0,g1,g2,g3⟩:=V.f4;have g4:=V.lt;have k9:=(((V.set 0 false).set 1 (.slice none 0 0)).set 2 false).set 3 (.slice none 0 0);have ad:af S w (((cy.setCell ⟨S+2,0,none⟩ false).setCell ⟨S+2,1,none⟩ (.slice none 0 0)).setCell ⟨S+2,2,none⟩ false |>.setCell ⟨S+2,3,none⟩ (.slice none 0 0)):=(((aL.setCell s_ _).setCell s_ _).setCell s_ _).setCell s_ _;go_wp2;generalize setCell _ _ _=w9 at ad k9 ⊢;have⟨q0,q1,q2,q3⟩:=k9.q4;refine Vk (v:=.tuple #[.agg #[false,.slice none 0 0,false,.slice none 0 0],false]) JZ rfl ?_;exact⟨⟨.nilFunc,.nilFunc,.inr ⟨a6.out,rfl⟩⟩,HS.out▸ad⟩
 .have⟨e0,e1,e2,e3⟩:=kQ.q4;have⟨r0,r1,r2,r3⟩:=V.q4;have⟨g0,g1,g2,g3⟩:=V.f4;have g4:=V.lt;have k9:=(((V.set 0 (decide (X<0))).set 1 (.slice sX (dg X.natAbs).length pX)).set 2 false).set 3 (.slice sZ (dg Z.natAbs).length pZ);have ad:af S w (((cy.setCell ⟨S+2,0,none⟩ (decide (X<0))).setCell ⟨S+2,1,none⟩ (.slice sX (dg X.natAbs).length pX)).setCell ⟨S+2,2,none⟩ false |>.setCell ⟨S+2,3,none⟩ (.slice sZ (dg Z.natAbs).length pZ)):=(((aL.setCell s_ _).setCell s_ _).setCell s_ _).setCell s_ _;have x9:=rX.far d_ V (oW cy (S+2) (decide (X<0)) (.slice sX (dg X.natAbs).length pX) false (.slice sZ (dg Z.natAbs).length pZ));have z9:=rZ.far d_ V (oW cy (S+2) (decide (X<0)) (.slice sX (dg X.natAbs).length pX) false (.slice sZ (dg Z.natAbs).length pZ));go_wp2;generalize setCell _ _ _=w9 at ad k9 x9 z9 ⊢;have⟨q0,q1,q2,q3⟩:=k9.q4;refine Vk (v:=.tuple #[.agg #[decide (X<0),.slice sX (dg X.natAbs).length pX,false,.slice sZ (dg Z.natAbs).length pZ],true]) JZ rfl ?_;exact⟨⟨_,_,.inl ⟨a6.out,by rw[dp.out],x9,z9⟩⟩,HS.out▸ad⟩):=h
def Le(h:P:=by
 refine aS.q _ r_ r_ λρ w' H=>?_;obtain⟨v3,e3,p3⟩:=H.dep 3 17 k_;obtain rfl:v3=.agg #[.int .i64 A,.int .i64 B]:=p3;obtain⟨v4,e4,p4⟩:=H.dep 4 18 k_;obtain rfl:v4=.agg #[.bool sx,.slice ax (dg x.natAbs).length cx,.bool sz,.slice az (dg z.natAbs).length cz]:=p4;exact bn.call 283 #[.agg #[A,B],.agg #[sx,.slice ax (dg x.natAbs).length cx,sz,.slice az (dg z.natAbs).length cz]] _ _ _ rfl (H.fn 283) (enters_of func283 k_ rfl) (by simp [e3,e4]) ((b5.out w' (ag H.bel a9 J)).mono λe w2 ⟨v,h1,h2,h3⟩=>⟨v,h1,h3,h2⟩)):=h
def LP(h:P:=by
 refine aS.q _ r_ r_ λρ w' H=>?_;obtain⟨v0,e0,p0⟩:=H.dep 0 14 k_;obtain rfl:v0=.agg #[.int .i64 A,.int .i64 B]:=p0;obtain⟨v1,e1,p1⟩:=H.dep 1 15 k_;obtain rfl:v1=.agg #[.bool sx,.slice ax (dg x.natAbs).length cx,.bool sz,.slice az (dg z.natAbs).length cz]:=p1;exact bn.call 319 #[.agg #[A,B],.agg #[sx,.slice ax (dg x.natAbs).length cx,sz,.slice az (dg z.natAbs).length cz]] _ _ _ rfl (H.fn 319) (enters_of func319 k_ rfl) (by simp [e0,e1]) ((HF.out w' (ag H.bel a9 J)).mono λe w2 ⟨v,h1,h2,h3⟩=>⟨v,h1,h3,h2⟩)):=h
def vo(h:P:=by
 refine aS.q _ r_ r_ λρ w' H=>?_;exact Ut _ rfl (H.bas 3 k_) ((kT.next H.bel).cell 0) ((kT.next H.bel).cell 1) ((kT.next H.bel).cell 2) ((kT.next H.bel).cell 3)):=h
def vE(h:P:=by
 refine aS.q _ r_ r_ λρ w' H=>?_;exact Ul _ rfl (H.bas 2 k_) ((kC.next H.bel).cell 0) ((kC.next H.bel).cell 1)):=h
def Ul{o:Oper}{ρ:Operand->Value}{w:World}{r:Nat}{A B:Int}(x:Operand)(Z:o.op=.load 42 x)(hx:ρ x=.pointer (some ⟨r,0,none⟩))(q0:w.cell? ⟨r,0,none⟩=some (.int .i64 A))(q1:w.cell? ⟨r,1,none⟩=some (.int .i64 B)):bn prog o ρ w (aV (.agg #[A,B])):=by
 refine .value _ ?_ rfl;unfold execOp;rw[Z];simp [go_sem,hx,q0,q1]
def Ut{o:Oper}{ρ:Operand->Value}{w:World}{r:Nat}{a b c d:Value}(x:Operand)(Z:o.op=.load 209 x)(hx:ρ x=.pointer (some ⟨r,0,none⟩))(q0:w.cell? ⟨r,0,none⟩=some a)(q1:w.cell? ⟨r,1,none⟩=some b)(q2:w.cell? ⟨r,2,none⟩=some c)(q3:w.cell? ⟨r,3,none⟩=some d):bn prog o ρ w (aV (.agg #[a,b,c,d])):=by
 refine .value _ ?_ rfl;unfold execOp;rw[Z];simp [go_sem,hx,q0,q1,q2,q3]
def OK(A B x z:Int)(b:Nat)(lx lz:Value)(hA:bh A)(hB:a_ B)(hd:aP A B≠0)(zx:Sz 80 x)(zz:Sz 80 z)(ca:aT A B x z≠0)(w:World)(hb:b<=w.heap.size)(aZ:aW w b lx (dg x.natAbs))(a8:aW w b lz (dg z.natAbs)):
 Kp 284 #[.agg #[A,B],.agg #[decide (x<0),lx,decide (z<0),lz]] w (Mm b (eQ A B x z) (eC A B x z) w):=by
 obtain⟨kC,kT,V,J⟩:=fv w #[A,B] 42 #[decide (x<0),lx,decide (z<0),lz] 209 #[false,.slice none 0 0,false,.slice none 0 0] 209;have cb:=h_ aZ;have cc:=h_ a8;obtain⟨ax,cx,rfl⟩:=aZ.form;obtain⟨az,cz,rfl⟩:=a8.form;clear aZ a8;obtain⟨zF,zG⟩:=yV hA hB zx zz;have HF:=h_ (λW (hW:af w w W)=>Sp A B x z b _ _ hA hB zx zz W (Vl hb hW.size) (cb.out.below hW) (cc.out.below hW));have b5:=h_ (λW (hW:af w w W)=>Ci A B x z b _ _ hA hB zx zz W (Vl hb hW.size) (cb.out.below hW) (cc.out.below hW));have b6:=(yW x z hA hB hd).2;obtain⟨cA,b4⟩:=Fj hA hB hd ca;by_cases aX:aT A B x z<0
 .have hX:eQ A B x z=-bm A B x z / ce A B x z:=by unfold eQ;rw[Vo aX,EQ b6.1 (ve A B x z)]
  have hZ:eC A B x z=-aT A B x z / ce A B x z:=by unfold eC;rw[Vo aX,EQ b6.1 (p_ A B x z)]
  rw[hZ] at b4;rw[hX,hZ];have zX:=zF.neg.div b6.1 (Zq.2 (ve A B x z));have zZ:=zG.neg.div b6.1 (Zq.2 (p_ A B x z));have co:=h_ (λW lx lz aZ a8=>DH (-bm A B x z / ce A B x z) (-aT A B x z / ce A B x z) lx lz zX.len zZ.len (Wc b4) W aZ a8);have db:=h_ b4;have c8:=h_ (λW v u hv hu=>BL A B (-bm A B x z) (-aT A B x z) v u hA hB hd zF.neg zG.neg W hv hu);rw[show au (au (c_ A B) (-bm A B x z)) (-aT A B x z)=ce A B x z from by rw[DL,DL];rfl] at c8;have cZ:=h_ (λW v h=>nV (-bm A B x z) (ce A B x z) v (Vl zF.neg.len o_) o_ W h);have bY:=h_ (λW v h=>nV (-aT A B x z) (ce A B x z) v (Vl zG.neg.len o_) o_ W h);have b8:=h_ (λW v h=>xQ (bm A B x z) v (Vl zF.len o_) W h);have bz:=h_ (λW v h=>xQ (aT A B x z) v (Vl zG.len o_) W h);have bq:(((dg (aT A B x z).natAbs).length:Int)==0)=false:=by
   exact Au
  have c6:decide (aT A B x z<0)=true:=Xn aX;have dl:=h_ c6;clear hX hZ b4 cA aX c6 ca zX zZ;generalize -bm A B x z / ce A B x z=X at *;generalize -aT A B x z / ce A B x z=Z at *;generalize -bm A B x z % ce A B x z=d1 at *;generalize -aT A B x z % ce A B x z=dy at *;generalize ce A B x z=D at *;generalize -bm A B x z=T at *;generalize -aT A B x z=U at *;generalize bm A B x z=F at *;generalize aT A B x z=G at *;generalize decide (x<0)=sx at *;generalize decide (z<0)=sz at *;obtain⟨S,hS⟩:∃S,w.heap.size=S:=⟨_,rfl⟩
  go_enter func284,ntmps284;go_upto_region 1 with fail
  generalize ((w.alloc _).alloc _).alloc _=W at *;rw[hS] at kC kT V J hb HF b5;have HS:=h_ hS;clear hS;have a9:S<=W.heap.size:=Vq kC.lt;have cu:=V.lt;have aG:b<=W.heap.size:=Vl hb a9;refine jl 8 [6,7] [(6,6),(7,7),(0,14),(1,15),(2,16),(3,17),(4,18),(5,19)] [aV (.agg #[A,B]),aV (.agg #[sx,.slice ax (dg x.natAbs).length cx,sz,.slice az (dg z.natAbs).length cz]),Wh b F,aV (.agg #[A,B]),aV (.agg #[sx,.slice ax (dg x.natAbs).length cx,sz,.slice az (dg z.natAbs).length cz]),Wh b G,PA W.heap.size #[false,.slice none 0 0] 182,PA W.heap.size #[false,.slice none 0 0] 182] k_ k_ k_ ⟨⟨_,_,_,rfl⟩,⟨_,_,_,rfl⟩,trivial⟩ ⟨aV.closed _,aV.closed _,Wh.closed _ _,aV.closed _,aV.closed _,Wh.closed _ _,PA.closed _ _ _,PA.closed _ _ _,trivial⟩ ⟨?_,?_,?_,?_,?_,?_,?_,?_,trivial⟩ ?_
  .exact vE
  .exact vo
  .exact LP
  .exact vE
  .exact vo
  .exact Le
  .exact kK
  .exact kK
  intro vs Wt ac aM;have bX:(Wh b F) (vs 2) Wt:=aM.1 2 o_;have cW:(Wh b G) (vs 5) Wt:=aM.1 5 o_;have dx:(PA W.heap.size #[false,.slice none 0 0] 182) (vs 6) Wt:=aM.1 6 o_;have c4:(PA W.heap.size #[false,.slice none 0 0] 182) (vs 7) Wt:=aM.1 7 o_;obtain⟨r6,c7,b0,bx⟩:=dx;obtain⟨r7,b7,a3,a2⟩:=c4;have bi:r7≠r6:=λh=>aM.2 7 6 o_ o_ o_ s_ s_ (by rw[b7,c7,h]);clear aM;simp only[eM,Nat.reduceBEq,WT,WK,Nat.reduceAdd,VQ,V1,c7,b7];obtain⟨dz,c3,cN,c9⟩:=bX.cell;obtain⟨b1,bZ,rfl,_⟩:=id cN.1;simp only[c3];obtain⟨dc,b3,bv,b2⟩:=cW.cell;obtain⟨bs,a4,rfl,_⟩:=id bv.1;simp only[b3];have⟨x0,x1⟩:=bx.q2;have⟨x2,x3⟩:=bx.f2;have x4:=bx.lt;have⟨y0,y1⟩:=a2.q2;have⟨y2,y3⟩:=a2.f2;have y4:=a2.lt;have kF:bG b r6 F ((Wt.setCell ⟨r6,0,none⟩ (decide (F<0))).setCell ⟨r6,1,none⟩ (.slice b1 (dg F.natAbs).length bZ)):=bG.put bx rfl cN c9;have kk:=(a2.far (p:=⟨r6,0,none⟩) bi (decide (F<0))).far (p:=⟨r6,1,none⟩) bi (.slice b1 (dg F.natAbs).length bZ);have a1:af W W ((Wt.setCell ⟨r6,0,none⟩ (decide (F<0))).setCell ⟨r6,1,none⟩ (.slice b1 (dg F.natAbs).length bZ)):=(ac.setCell b0 _).setCell b0 _;have b9:aW ((Wt.setCell ⟨r6,0,none⟩ (decide (F<0))).setCell ⟨r6,1,none⟩ (.slice b1 (dg F.natAbs).length bZ)) b (.slice bs (dg G.natAbs).length a4) (dg G.natAbs):=bv.far d_ bx (kt _ _ _ _);replace kF:=kF.far (Ne.symm bi) kk (decide (G<0)) (.slice bs (dg G.natAbs).length a4);have kG:bG b r7 G ((((Wt.setCell ⟨r6,0,none⟩ (decide (F<0))).setCell ⟨r6,1,none⟩ (.slice b1 (dg F.natAbs).length bZ)).setCell ⟨r7,0,none⟩ (decide (G<0))).setCell ⟨r7,1,none⟩ (.slice bs (dg G.natAbs).length a4)):=bG.put kk rfl b9 b2;have g:af W W ((((Wt.setCell ⟨r6,0,none⟩ (decide (F<0))).setCell ⟨r6,1,none⟩ (.slice b1 (dg F.natAbs).length bZ)).setCell ⟨r7,0,none⟩ (decide (G<0))).setCell ⟨r7,1,none⟩ (.slice bs (dg G.natAbs).length a4)):=(a1.setCell (p:=⟨r7,0,none⟩) a3 _).setCell (p:=⟨r7,1,none⟩) a3 _;replace V:=V.next g
  replace kC:=kC.next g
  replace J:af S w _:=ag g a9 J;replace aG:=Vl aG g.size;replace a9:=Vl a9 g.size;clear bX cW ac bx a2 c3 cN c9 b3 bv b2 kk a1 b9;clear kT;go_upto_region 2 with fail
  generalize (setCell (setCell (setCell (setCell _ _ _) _ _) _ _) _ _)=W2 at *;clear x0 x1 x2 x3 x4 y0 y1 y2 y3 y4 g;have d3:S+2<r6:=Vp cu b0;have d0:S+2<r7:=Vp cu a3;clear b0 a3 cu;have gU:=kG;obtain⟨d2,cM,c2,_⟩:=gU;obtain⟨dq,dd,rfl⟩:=c2.form;have y0:W2.cell? ⟨r7,0,none⟩=some (.bool true):=dl.out▸cM.cell 0;have y1:W2.cell? ⟨r7,1,none⟩=some (.slice dq (dg G.natAbs).length dd):=cM.cell 1;have aL:=J;clear J cM c2;go_upto_region 5 with fail
  clear y0 y1;obtain⟨lF,I,rF,_⟩:=kF;obtain⟨sF,pF,rfl⟩:=rF.form;have⟨f0,f1⟩:=I.q2;go_wp2_with fail
  refine (b8.out W2 (.agg #[decide (F<0),.slice sF (dg F.natAbs).length pF]) ⟨_,rfl,rF.1⟩).mono ?_;rintro e w3 ⟨v3,rfl,ba,aF⟩;replace ba:=ba.le (Vl hb (HS.out▸aL.size));obtain⟨lT,rfl,rT,cT⟩:=ba.cell;obtain⟨sT,pT,rfl⟩:=rT.form;have cX:S<=r6:=o_;replace aL:=ag aF (HS.out▸aL.size) aL;replace I:=I.next aF
  replace kG:=kG.next aF
  replace V:=V.next aF
  replace kC:=kC.next aF
  clear f0 f1 aF ba rF;have⟨x0,x1⟩:=I.q2;have⟨x2,x3⟩:=I.f2;have x4:=I.lt;have k1:bG b r6 T ((w3.setCell ⟨r6,0,none⟩ (decide (T<0))).setCell ⟨r6,1,none⟩ (.slice sT (dg T.natAbs).length pT)):=bG.put I rfl rT cT;have k2:=kG.far o_ I (decide (T<0)) (.slice sT (dg T.natAbs).length pT);replace V:=(V.far (p:=⟨r6,0,none⟩) (by show S+2≠r6;omega) (decide (T<0))).far (p:=⟨r6,1,none⟩) (by show S+2≠r6;omega) (.slice sT (dg T.natAbs).length pT);replace kC:=(kC.far (p:=⟨r6,0,none⟩) (by show S≠r6;omega) (decide (T<0))).far (p:=⟨r6,1,none⟩) (by show S≠r6;omega) (.slice sT (dg T.natAbs).length pT);replace aL:af S w _:=(aL.setCell (p:=⟨r6,0,none⟩) cX (decide (T<0))).setCell (p:=⟨r6,1,none⟩) cX (.slice sT (dg T.natAbs).length pT);clear rT cT I cX;replace kG:=k2;replace kF:=k1;clear k1 k2;go_upto_region 6 with fail
  generalize (setCell (setCell _ _ _) _ _)=W4 at *;obtain⟨lF,I,rF,_⟩:=kG;obtain⟨sF,pF,rfl⟩:=rF.form;have⟨f0,f1⟩:=I.q2;go_wp2_with fail
  refine (bz.out W4 (.agg #[decide (G<0),.slice sF (dg G.natAbs).length pF]) ⟨_,rfl,rF.1⟩).mono ?_;rintro e w5 ⟨v3,rfl,ba,aF⟩;replace ba:=ba.le (Vl hb (HS.out▸aL.size));obtain⟨lT,rfl,rT,cT⟩:=ba.cell;obtain⟨sT,pT,rfl⟩:=rT.form;have cX:S<=r7:=o_;replace aL:=ag aF (HS.out▸aL.size) aL;replace I:=I.next aF
  replace kF:=kF.next aF
  replace V:=V.next aF
  replace kC:=kC.next aF
  clear f0 f1 aF ba rF;have⟨x0,x1⟩:=I.q2;have⟨x2,x3⟩:=I.f2;have x4:=I.lt;have k1:bG b r7 U ((w5.setCell ⟨r7,0,none⟩ (decide (U<0))).setCell ⟨r7,1,none⟩ (.slice sT (dg U.natAbs).length pT)):=bG.put I rfl rT cT;have k2:=kF.far o_ I (decide (U<0)) (.slice sT (dg U.natAbs).length pT);replace V:=(V.far (p:=⟨r7,0,none⟩) (by show S+2≠r7;omega) (decide (U<0))).far (p:=⟨r7,1,none⟩) (by show S+2≠r7;omega) (.slice sT (dg U.natAbs).length pT);replace kC:=(kC.far (p:=⟨r7,0,none⟩) (by show S≠r7;omega) (decide (U<0))).far (p:=⟨r7,1,none⟩) (by show S≠r7;omega) (.slice sT (dg U.natAbs).length pT);replace aL:af S w _:=(aL.setCell (p:=⟨r7,0,none⟩) cX (decide (U<0))).setCell (p:=⟨r7,1,none⟩) cX (.slice sT (dg U.natAbs).length pT);clear rT cT I cX;replace kF:=k2;replace kG:=k1;clear k1 k2;go_upto_region 7 with fail
  generalize (setCell (setCell _ _ _) _ _)=W3 at *;exact L_
 .have hX:eQ A B x z=bm A B x z / ce A B x z:=by unfold eQ;rw[Vm aX]
  have hZ:eC A B x z=aT A B x z / ce A B x z:=by unfold eC;rw[Vm aX]
  rw[hZ] at b4;rw[hX,hZ];have zX:=zF.div b6.1 (ve A B x z);have zZ:=zG.div b6.1 (p_ A B x z);have co:=h_ (λW lx lz aZ a8=>DH (bm A B x z / ce A B x z) (aT A B x z / ce A B x z) lx lz zX.len zZ.len (Wc b4) W aZ a8);have db:=h_ b4;have c8:=h_ (λW v u hv hu=>BL A B (bm A B x z) (aT A B x z) v u hA hB hd zF zG W hv hu);rw[show au (au (c_ A B) (bm A B x z)) (aT A B x z)=ce A B x z from rfl] at c8;have cZ:=h_ (λW v h=>nV (bm A B x z) (ce A B x z) v (Vl zF.len o_) o_ W h);have bY:=h_ (λW v h=>nV (aT A B x z) (ce A B x z) v (Vl zG.len o_) o_ W h);have bq:(((dg (aT A B x z).natAbs).length:Int)==0)=false:=by
   exact Au
  have c6:decide (aT A B x z<0)=false:=We aX;have dl:=h_ c6;clear hX hZ b4 cA aX c6 ca;generalize bm A B x z / ce A B x z=X at *;generalize aT A B x z / ce A B x z=Z at *;generalize bm A B x z % ce A B x z=d1 at *;generalize aT A B x z % ce A B x z=dy at *;generalize ce A B x z=D at *;generalize bm A B x z=T at *;generalize aT A B x z=U at *;generalize decide (x<0)=sx at *;generalize decide (z<0)=sz at *;obtain⟨S,hS⟩:∃S,w.heap.size=S:=⟨_,rfl⟩
  go_enter func284,ntmps284;go_upto_region 1 with fail
  generalize ((w.alloc _).alloc _).alloc _=W at *;rw[hS] at kC kT V J hb HF b5;have HS:=h_ hS;clear hS;have a9:S<=W.heap.size:=Vq kC.lt;have cu:=V.lt;have aG:b<=W.heap.size:=Vl hb a9;refine jl 8 [6,7] [(6,6),(7,7),(0,14),(1,15),(2,16),(3,17),(4,18),(5,19)] [aV (.agg #[A,B]),aV (.agg #[sx,.slice ax (dg x.natAbs).length cx,sz,.slice az (dg z.natAbs).length cz]),Wh b T,aV (.agg #[A,B]),aV (.agg #[sx,.slice ax (dg x.natAbs).length cx,sz,.slice az (dg z.natAbs).length cz]),Wh b U,PA W.heap.size #[false,.slice none 0 0] 182,PA W.heap.size #[false,.slice none 0 0] 182] k_ k_ k_ ⟨⟨_,_,_,rfl⟩,⟨_,_,_,rfl⟩,trivial⟩ ⟨aV.closed _,aV.closed _,Wh.closed _ _,aV.closed _,aV.closed _,Wh.closed _ _,PA.closed _ _ _,PA.closed _ _ _,trivial⟩ ⟨?_,?_,?_,?_,?_,?_,?_,?_,trivial⟩ ?_
  .exact vE
  .exact vo
  .exact LP
  .exact vE
  .exact vo
  .exact Le
  .exact kK
  .exact kK
  intro vs Wt ac aM;have bX:(Wh b T) (vs 2) Wt:=aM.1 2 o_;have cW:(Wh b U) (vs 5) Wt:=aM.1 5 o_;have dx:(PA W.heap.size #[false,.slice none 0 0] 182) (vs 6) Wt:=aM.1 6 o_;have c4:(PA W.heap.size #[false,.slice none 0 0] 182) (vs 7) Wt:=aM.1 7 o_;obtain⟨r6,c7,b0,bx⟩:=dx;obtain⟨r7,b7,a3,a2⟩:=c4;have bi:r7≠r6:=λh=>aM.2 7 6 o_ o_ o_ s_ s_ (by rw[b7,c7,h]);clear aM;simp only[eM,Nat.reduceBEq,WT,WK,Nat.reduceAdd,VQ,V1,c7,b7];obtain⟨dz,c3,cN,c9⟩:=bX.cell;obtain⟨b1,bZ,rfl,_⟩:=id cN.1;simp only[c3];obtain⟨dc,b3,bv,b2⟩:=cW.cell;obtain⟨bs,a4,rfl,_⟩:=id bv.1;simp only[b3];have⟨x0,x1⟩:=bx.q2;have⟨x2,x3⟩:=bx.f2;have x4:=bx.lt;have⟨y0,y1⟩:=a2.q2;have⟨y2,y3⟩:=a2.f2;have y4:=a2.lt;have kF:bG b r6 T ((Wt.setCell ⟨r6,0,none⟩ (decide (T<0))).setCell ⟨r6,1,none⟩ (.slice b1 (dg T.natAbs).length bZ)):=bG.put bx rfl cN c9;have kk:=(a2.far (p:=⟨r6,0,none⟩) bi (decide (T<0))).far (p:=⟨r6,1,none⟩) bi (.slice b1 (dg T.natAbs).length bZ);have a1:af W W ((Wt.setCell ⟨r6,0,none⟩ (decide (T<0))).setCell ⟨r6,1,none⟩ (.slice b1 (dg T.natAbs).length bZ)):=(ac.setCell b0 _).setCell b0 _;have b9:aW ((Wt.setCell ⟨r6,0,none⟩ (decide (T<0))).setCell ⟨r6,1,none⟩ (.slice b1 (dg T.natAbs).length bZ)) b (.slice bs (dg U.natAbs).length a4) (dg U.natAbs):=bv.far d_ bx (kt _ _ _ _);replace kF:=kF.far (Ne.symm bi) kk (decide (U<0)) (.slice bs (dg U.natAbs).length a4);have kG:bG b r7 U ((((Wt.setCell ⟨r6,0,none⟩ (decide (T<0))).setCell ⟨r6,1,none⟩ (.slice b1 (dg T.natAbs).length bZ)).setCell ⟨r7,0,none⟩ (decide (U<0))).setCell ⟨r7,1,none⟩ (.slice bs (dg U.natAbs).length a4)):=bG.put kk rfl b9 b2;have g:af W W ((((Wt.setCell ⟨r6,0,none⟩ (decide (T<0))).setCell ⟨r6,1,none⟩ (.slice b1 (dg T.natAbs).length bZ)).setCell ⟨r7,0,none⟩ (decide (U<0))).setCell ⟨r7,1,none⟩ (.slice bs (dg U.natAbs).length a4)):=(a1.setCell (p:=⟨r7,0,none⟩) a3 _).setCell (p:=⟨r7,1,none⟩) a3 _;replace V:=V.next g
  replace kC:=kC.next g
  replace J:af S w _:=ag g a9 J;replace aG:=Vl aG g.size;replace a9:=Vl a9 g.size;clear bX cW ac bx a2 c3 cN c9 b3 bv b2 kk a1 b9;clear kT;go_upto_region 2 with fail
  generalize (setCell (setCell (setCell (setCell _ _ _) _ _) _ _) _ _)=W2 at *;clear x0 x1 x2 x3 x4 y0 y1 y2 y3 y4 g;have d3:S+2<r6:=Vp cu b0;have d0:S+2<r7:=Vp cu a3;clear b0 a3 cu;have gU:=kG;obtain⟨d2,cM,c2,_⟩:=gU;obtain⟨dq,dd,rfl⟩:=c2.form;have y0:W2.cell? ⟨r7,0,none⟩=some (.bool false):=dl.out▸cM.cell 0;have y1:W2.cell? ⟨r7,1,none⟩=some (.slice dq (dg U.natAbs).length dd):=cM.cell 1;have aL:=J;go_upto_region 7 with fail
  clear y0 y1 cM c2 J;generalize W2=W3 at *;exact L_
def wt(h:P:=by simp [results,results236,go_sem]):=h
def Tryz.infoRt:(prog.info? 209).map (λi=>(i.zero,i.size,i.bytes))=some (some (.agg #[false,.slice none 0 0,false,.slice none 0 0]),4,64):=by kernel_rfl
def qg(w:World)(G:Nat)(v:Value)(k:Nat)(x z:Int):Prop:=∃L lx lz,w.ownsRow G 209 4 v (k+1) (L++[.bool (decide (x<0)),lx,.bool (decide (z<0)),lz])/\L.length=k*4/\aW w G lx (dg x.natAbs)/\aW w G lz (dg z.natAbs)
def qg.form{w}{G k}{v}{x z}(h:qg w G v k x z):∃g F ax cx az cz,v=.slice (some ⟨g,0,none⟩) (k+1) F/\g<w.heap.size/\G<=g/\w.cell? ⟨g,k*4,none⟩=some (.bool (decide (x<0)))/\w.cell? ⟨g,k*4+1,none⟩=some (.slice ax (dg x.natAbs).length cx)/\w.cell? ⟨g,k*4+2,none⟩=some (.bool (decide (z<0)))/\w.cell? ⟨g,k*4+3,none⟩=some (.slice az (dg z.natAbs).length cz)/\aW w G (.slice ax (dg x.natAbs).length cx) (dg x.natAbs)/\aW w G (.slice az (dg z.natAbs).length cz) (dg z.natAbs):=by
 have⟨L,lx,lz,h1,h2,h3,h4⟩:=h;obtain⟨ax,cx,rfl⟩:=h3.form;obtain⟨az,cz,rfl⟩:=h4.form;obtain⟨a,F,rfl,_,hc⟩:=nQ h1;obtain⟨g,rfl,hl,dd,_,hk⟩:=hc k o_;have e:∀j,j<4->(L++[Value.bool (decide (x<0)),.slice ax (dg x.natAbs).length cx,.bool (decide (z<0)),.slice az (dg z.natAbs).length cz])[k*4+j]?=[Value.bool (decide (x<0)),.slice ax (dg x.natAbs).length cx,.bool (decide (z<0)),.slice az (dg z.natAbs).length cz][j]?:=λj _=>by
  rw[Wp o_,h2];congr 1;omega
 exact⟨g,F,ax,cx,az,cz,rfl,hl,dd,hk 0 _ o_ (e 0 o_),hk 1 _ o_ (e 1 o_),hk 2 _ o_ (e 2 o_),hk 3 _ o_ (e 3 o_),h3,h4⟩
def T6(x z:Int)(hx:-1000000<=x/\x<=1000000)(hz:-1000000<=z/\z<=1000000)(w):
 Kp 282 #[x,z] w λe w'=>∃v,e=.returned v/\oP w x z v w'/\af w w w':=by
 have⟨V,J⟩:=ay w #[false,.slice none 0 0,false,.slice none 0 0] 209;obtain⟨S,hS⟩:∃S,w.heap.size=S:=⟨_,rfl⟩
 go_enter func282,ntmps282;go_upto_region 1 with fail
 generalize w.alloc _=W at *;rw[hS] at V J;have HS:=h_ hS;have a9:=HS.out▸J.size;go_wp2_with fail
 refine ((h_ (rL x o_)).out _).mono ?_;rintro e w1 ⟨v1,rfl,cQ,I⟩;obtain⟨l1,rfl,q1,_⟩:=(cQ.le a9).cell;obtain⟨a1,c1,rfl⟩:=q1.form;have H:=ag I a9 J;have bb:=Vl a9 I.size;replace V:=V.next I
 go_wp2_with fail
 refine ((h_ (rL z o_)).out _).mono ?_;rintro e w2 ⟨v2,rfl,bi,U⟩;obtain⟨l2,rfl,q2,_⟩:=(bi.le bb).cell;obtain⟨a2,c2,rfl⟩:=q2.form;replace V:=V.next U
 replace q1:=q1.below U;have⟨x0,x1,x2,x3⟩:=V.q4;have⟨y0,y1,y2,y3⟩:=V.f4;have k9:=qt.put V rfl q1 q2;have ad:af S w _:=(((((ag U bb H).setCell (p:=S) (Vj _) (decide (x<0))).setCell (p:=⟨S,1,none⟩) (Vj _) (.slice a1 (dg x.natAbs).length c1)).setCell (p:=⟨S,2,none⟩) (Vj _) (decide (z<0))).setCell (p:=⟨S,3,none⟩) (Vj _) (.slice a2 (dg z.natAbs).length c2))
 go_wp2;generalize setCell _ _ _=w9 at ad k9 ⊢;have⟨m1,m2,k9,q3,q4⟩:=k9;obtain⟨a3,c3,rfl⟩:=q3.form;obtain⟨a4,c4,rfl⟩:=q4.form;have⟨z0,z1,z2,z3⟩:=k9.q4;refine Vk (v:=.agg #[decide (x<0),.slice a3 (dg x.natAbs).length c3,decide (z<0),.slice a4 (dg z.natAbs).length c4]) (by simp [results,results282,go_sem,HS.out,z0,z1,z2,z3]) rfl ?_;rw[HS.out];exact⟨_,rfl,⟨_,_,rfl,q3,q4⟩,ad⟩
def ah.ne{r r'}{cs F}{T g}{w}(h:ah r cs T w)(J:ah r' F g w)(hT:T≠g):r≠r':=by
 rintro rfl;unfold ah at h J;rw[h] at J;injection J with J;injection J with _ h2;exact hT h2
def QF{w:World}{G e k:Nat}{v c0 c1 c2 c3:Value}{L}(h:w.ownsRow G e 4 v (k+1) (L++[c0,c1,c2,c3]))(hL:L.length=k*4):∃g F,v=.slice (some ⟨g,0,none⟩) (k+1) F/\g<w.heap.size/\G<=g/\w.cell? ⟨g,k*4,none⟩=some c0/\w.cell? ⟨g,k*4+1,none⟩=some c1/\w.cell? ⟨g,k*4+2,none⟩=some c2/\w.cell? ⟨g,k*4+3,none⟩=some c3:=by
 obtain⟨a,F,rfl,_,hc⟩:=nQ h;obtain⟨g,rfl,hl,dd,_,hk⟩:=hc k o_;have e:∀j,j<4->(L++[c0,c1,c2,c3])[k*4+j]?=[c0,c1,c2,c3][j]?:=λj _=>by
  rw[Wp o_,hL];congr 1;omega
 exact⟨g,F,rfl,hl,dd,hk 0 _ o_ (e 0 o_),hk 1 _ o_ (e 1 o_),hk 2 _ o_ (e 2 o_),hk 3 _ o_ (e 3 o_)⟩
def Vi(r:Option (Option (Int×Int)))(n:Nat)(w:World)(e:Ending)(w':World):Prop:=∃v K,e=.returned (.tuple #[v,.bool K])/\af w w w'/\(match r with|none=>K=false/\∃a m c,v=.slice a m c/\m<=n|some none=>K=true|some (some p)=>K=false/\qg w' w v n p.1 p.2)
def Pg(A B X Y E:Int)(n:Nat)(hA:bh A)(hB:a_ B)(hd:aP A B≠0)(hX:a_ X)(hE:0<=E/\E<=20)(hn:n<=5)(w):
 Kp 236 #[.agg #[A,B],.agg #[X,Y,E],n] w (Vi (jM A B X E n) n w):=by
 have⟨kC,kP,J⟩:=cO w #[A,B] 42 #[X,Y,E] 46;have HV:Hid (jM A B X E n=if E=0 then some none else ef A B n X (E*E)):=rfl;rw[HV.out];by_cases Z:E=0
 .subst Z;rw[Vo rfl];go_enter func236,ntmps236;go_upto_region 1 with fail
  generalize (w.alloc _).alloc _=W at *;have⟨_,_,bX⟩:=kP.q3;go_wp2;exact Vk (v:=.tuple #[.slice none 0 0,true]) wt rfl ⟨_,_,rfl,J,rfl⟩
 .rw[Vm Z];have bs:(E==0)=false:=by simpa using Z
  have b8:=aN (x:=E) (y:=E) 20 20 o_ o_;have b5:-9223372036854775808<=E*E/\E*E<=9223372036854775807:=o_;have HO:=h_ (T6 X (E*E) o_ o_);obtain⟨S,hS⟩:∃S,w.heap.size=S:=⟨_,rfl⟩
  go_enter func236,ntmps236;go_upto_region 1 with fail
  generalize (w.alloc _).alloc _=W at *;rw[hS] at kC kP J;have HS:=h_ hS;have⟨bY,bZ,bX,b0⟩:=kP.p3;have a9:=HS.out▸J.size;go_upto_region 3 with fail
  go_wp2_with fail
  refine (HO.out _).mono ?_;rintro e w1 ⟨v1,rfl,⟨l1,l2,rfl,q1,q2⟩,I⟩;obtain⟨a1,c1,rfl⟩:=q1.form;obtain⟨a2,c2,rfl⟩:=q2.form;have H:=ag I a9 J;have bb:=Vl a9 I.size;have ab:af w1 w1 (w1.alloc (.cells #[decide (X<0),.slice a1 (dg X.natAbs).length c1,decide (E*E<0),.slice a2 (dg (E*E).natAbs).length c2] 209)):=(Vn _ _).alloc (Vj _) _;have ob:=uQ (C7 w1 209 4 [.bool (decide (X<0)),.slice a1 (dg X.natAbs).length c1,.bool (decide (E*E<0)),.slice a2 (dg (E*E).natAbs).length c2] rfl) bb;have aL:=ag ab bb H;replace kC:=(kC.next I).next ab
  have kO:qg (w1.alloc (.cells #[decide (X<0),.slice a1 (dg X.natAbs).length c1,decide (E*E<0),.slice a2 (dg (E*E).natAbs).length c2] 209)) S (.slice w1 1 1) 0 X (E*E):=⟨[],_,_,ob,rfl,(q1.le a9).below ab,(q2.le a9).below ab⟩
  go_upto_region 4 with fail
  generalize w1.alloc _=W4,w1.heap.size=g0 at *;have b9:Sz 80 X:=by unfold Sz;omega
  have b4:Sz 80 (E*E):=by unfold Sz;omega
  have HG:=h_ (λW x z lx lz (zx:Sz 80 x) (zz:Sz 80 z) (h0:S<=W.heap.size) h1 h2=>Ci A B x z S lx lz hA hB zx zz W h0 h1 h2);have HD:=h_ (λW x z lx lz (zx:Sz 80 x) (zz:Sz 80 z) (hg:aT A B x z≠0) (h0:S<=W.heap.size) h1 h2=>OK A B x z S lx lz hA hB hd zx zz hg W h0 h1 h2);generalize b7:E*E=EE at *;have HQ:=h_ b7;go_loopw [2,8] (λiv v wr=>∃(i k:Nat) (x z:Int),i+k=n/\iv=.int .i64 i/\qg wr S v k x z/\ah S #[A,B] 42 wr/\Sz 80 x/\Sz 80 z/\Hid (ef A B n X EE=ef A B i x z)/\af S w wr) (λiv _ _=>(intOf iv).toNat)
  case atStart=>exact⟨n,0,X,EE,o_,rfl,kO,kC,b9,b4,rfl,aL⟩
  case round=>
   obtain⟨i,k,x,z,hi,rfl,⟨L,lx,lz,V,hL,rx,rz⟩,kC,zx,zz,HE,aL⟩:=hrel;obtain⟨ax,cx,rfl⟩:=rx.form;obtain⟨az,cz,rfl⟩:=rz.form
   rename World=>wr
   have ad:=HS.out▸aL.size;obtain⟨g,F,rfl,bq,b6,g0,g1,g2,g3⟩:=QF V hL;by_cases aG:0<i
   .have co:((k+1:Nat):Int) - 1=(k:Int):=o_;have cb:=Dj;obtain⟨m,hm⟩:∃m,i=m+1:=⟨i - 1,o_⟩
    have a8:Hid (ef A B n X EE=if aT A B x z=0 then some none else if iD (eQ A B x z) (eC A B x z)=true then ef A B m (eQ A B x z) (eC A B x z) else none):=h_ (by rw[HE.out,hm];rfl);have⟨k9,ab⟩:=ay wr #[decide (x<0),.slice ax (dg x.natAbs).length cx,decide (z<0),.slice az (dg z.natAbs).length cz] 209;replace aL:=ag ab ad aL;replace kC:=kC.next ab
    replace rx:=rx.below ab;replace rz:=rz.below ab;replace V:=qQ V ab;have K:=Vl ad ab.size;go_upto_region 7 with fail
    generalize wr.alloc _=W5 at *;generalize wr.heap.size=r9 at *;have H1:=h_ (HG.out W5 x z _ _ zx zz K rx rz);have⟨d0,d1,d2,d3⟩:=k9.q4;have⟨a4,a3,a5⟩:=kC.p2;by_cases hg:aT A B x z=0
    .have HV:Hid (ef A B n X EE=some none):=h_ (by rw[a8.out,Vo hg]);have bi:(((dg (aT A B x z).natAbs).length:Int)==0)=true:=by rw[hg,Zl,iN];rfl
     clear a8 HD HG hg V;generalize aT A B x z=G at *;generalize decide (x<0)=sx at *;generalize decide (z<0)=sz at *;go_wp2_with fail
     refine H1.out.mono ?_;rintro e w2 ⟨v,rfl,ba,U⟩;obtain⟨lG,rfl,rG,cG⟩:=ba.cell;obtain⟨sG,pG,rfl⟩:=rG.form;go_wp2;refine Vk (v:=.tuple #[.slice (some ⟨g,0,none⟩) (k+1) F,true]) wt rfl ?_;refine⟨_,_,rfl,HS.out▸ag U K aL,?_⟩;rw[HV.out]
    .have H2:=h_ (λW=>HD.out W x z (.slice ax (dg x.natAbs).length cx) (.slice az (dg z.natAbs).length cz) zx zz hg);have bi:(((dg (aT A B x z).natAbs).length:Int)==0)=false:=by
      exact JR
     have b2:Hid (ef A B n X EE=if iD (eQ A B x z) (eC A B x z)=true then ef A B m (eQ A B x z) (eC A B x z) else none):=h_ (by rw[a8.out,Vm hg]);have a6:=yN (x:=eQ A B x z) (z:=eC A B x z);clear a8 HD HG hg zx zz;generalize eQ A B x z=X1 at *;generalize eC A B x z=Z1 at *;generalize aT A B x z=G at *;generalize decide (x<0)=sx at *;generalize decide (z<0)=sz at *;generalize (dg x.natAbs).length=nx at *;generalize (dg z.natAbs).length=nz at *;go_wp2_with fail
     refine H1.out.mono ?_;rintro e w2 ⟨v,rfl,ba,U⟩;obtain⟨lG,rfl,rG,cG⟩:=ba.cell;obtain⟨sG,pG,rfl⟩:=rG.form;replace aL:=ag U K aL;replace K:=Vl K U.size;replace kC:=kC.next U
     replace k9:=k9.next U
     replace rx:=rx.below U;replace rz:=rz.below U;replace V:=qQ V U;clear a4 a3 a5 d0 d1 d2 d3 U H1 ba rG cG;have⟨a4,a3,a5⟩:=kC.p2;have⟨d0,d1,d2,d3⟩:=k9.q4;go_upto_region 9 with fail
     go_wp2_with fail
     refine (H2.out w2 K rx rz).mono ?_;rintro e w3 ⟨⟨lX,lZ,bv⟩,aF⟩;clear rx rz H2 d0 d1 d2 d3 a4 a3 a5 k9;replace aL:=ag aF K aL;replace K:=Vl K aF.size;replace kC:=kC.next aF
     replace V:=qQ V aF;rcases bv with ⟨aa,rfl,rX,rZ⟩|⟨aa,rfl⟩
     .obtain⟨aX,cX,rfl⟩:=rX.form;obtain⟨aZ,cZ,rfl⟩:=rZ.form;have ca:Hid (ef A B n X EE=ef A B m X1 Z1):=h_ (by rw[b2.out,Vo aa]);have⟨zx,zz⟩:=a6 aa;have⟨bp,ab⟩:=ay w3 #[decide (X1<0),.slice aX (dg X1.natAbs).length cX,decide (Z1<0),.slice aZ (dg Z1.natAbs).length cZ] 209;replace aL:=ag ab K aL;replace K:=Vl K ab.size;replace kC:=kC.next ab
      replace rX:=rX.below ab;replace rZ:=rZ.below ab;replace V:=qQ V ab;go_upto_region 12 with fail
      generalize w3.alloc _=W6,w3.heap.size=bo at *;have⟨e0,e1,e2,e3⟩:=bp.q4;have⟨cur,kg⟩:=rg V g rfl;have ae:=ah.ne kC kg d_;go_wp2_with (at_builtin;refine B1 209 203 4 64 _ rfl _ _ rfl Tryz.infoRt underlying203 rfl d_ d_ S _ (k+1) (L++[.bool sx,.slice ax nx cx,.bool sz,.slice az nz cz]) rfl V [.bool (decide (X1<0)),.slice aX (dg X1.natAbs).length cX,.bool (decide (Z1<0)),.slice aZ (dg Z1.natAbs).length cZ] rfl (by intro u hu;simp at hu;rcases hu with rfl|rfl|rfl|rfl<;>rfl) rfl o_ K ?_;intro v' w7 bz bx a7 _)
      have b1:ai [g] W6 w7:=bx;replace kC:=kC.over b1 (by simpa using ae);replace rX:=rX.far d_ kg b1;replace rZ:=rZ.far d_ kg b1;replace aL:=b1.belowGe aL (HS.out▸K) (λk' ac=>by simp at ac;rw[ac];exact b6);go_wp2;go_roundw
      case rel=>exact⟨m,k+1,X1,Z1,o_,by go_num,⟨_,_,_,bz,by simp [hL];omega,rX,rZ⟩,kC,zx,zz,ca,aL⟩
      case measure=>exact aJ
     .have HV:Hid (ef A B n X EE=none):=h_ IB;have ab:af w3 w3 (w3.alloc (.cells #[false,.slice none 0 0,false,.slice none 0 0] 209)):=(Vn _ _).alloc (Vj _) _;replace aL:=ag ab K aL;go_upto_region 10 with fail
      generalize w3.alloc _=W6 at *;go_wp2;refine Vk (v:=.tuple #[.slice (some ⟨g,0,none⟩) (k+1) F,false]) wt rfl ⟨_,_,rfl,HS.out▸aL,?_⟩;rw[HV.out];exact⟨rfl,_,_,_,rfl,o_⟩
   .have b3:¬(0:Int)<(i:Int):=o_;have aM:i=0:=o_;obtain rfl:k=n:=o_
    have HV:Hid (ef A B k X EE=some (some (x,z))):=h_ (by rw[HE.out,aM];rfl);have kO:qg wr S (.slice g (k+1) F) k x z:=⟨L,_,_,V,hL,rx,rz⟩
    go_wp2;refine Vk (v:=.tuple #[.slice (some ⟨g,0,none⟩) (k+1) F,false]) wt rfl ⟨_,_,rfl,HS.out▸aL,?_⟩;rw[HV.out];exact⟨rfl,HS.out▸kO⟩
end Go.Proofs.YtaamhakdhaolmaaGreatDoor
