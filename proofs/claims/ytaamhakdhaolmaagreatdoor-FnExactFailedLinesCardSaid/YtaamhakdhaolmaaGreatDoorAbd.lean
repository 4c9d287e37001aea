/- Part 29. -/
import Derived.Test.YtaamhakdhaolmaaGreatDoorShelf
import Derived.Test.YtaamhakdhaolmaaGreatDoorAaw
import Derived.Test.YtaamhakdhaolmaaGreatDoorAaz
namespace Go.Proofs.YtaamhakdhaolmaaGreatDoor
open Go.RowKit
set_option maxHeartbeats 8000000
set_option maxRecDepth 100000
variable {P:Prop}
set_option linter.all false
def If(h:P:=by simp [results,Tryz.results308,go_sem]):=h
def SS{L}(h:Dg L)(hl:L.length<=2)(k):(0<=vl (L.drop k)/\vl (L.drop k)<=99999999)/\(1<=k->vl (L.drop k)<=9999):=by
 have h0:Dg (L.drop k):=λx hx=>h x (VW hx);have h2:=Dg.lt h0;rw[Vs] at h2;refine⟨⟨h0.nn,?_⟩,λhk=>?_⟩
 .have h3:(10000:Int) ^ (L.length - k)<=10000 ^ 2:=by
   have:L.length - k=0\/L.length - k=1\/L.length - k=2:=by omega
   rcases this with h|h|h<;>rw[h]<;>decide
  omega
 .have h3:(10000:Int) ^ (L.length - k)<=10000 ^ 1:=by
   have:L.length - k=0\/L.length - k=1:=by omega
   rcases this with h|h<;>rw[h]<;>decide
  omega
def QQ{L:List Int}{j}(h:j<L.length):vl (L.drop j)=(L[j]?.getD 0)+10000*vl (L.drop (j+1)):=by
 rw[Vq h,Us h];rfl
def Jv{x k}(h:k<(dg x).length):10000 ^ k<=x:=by
 by_cases h1:x<10000 ^ k
 .have:=ff h1;omega
 .omega
def Tt{x}(h:(dg x).length<=1):(dg x)[0]?.getD 0=(x:Int)/\x<10000:=by
 have h1:=(jQ x).2.2;have hd:=(jQ x).1;cases hL:dg x with
 |nil=>rw[hL] at h1;simp [vl] at h1;exact⟨by simp;omega,by omega⟩
 |cons a l=>
  rw[hL] at h h1 hd;have hl:l=[]:=UX.1 (by rw[Uw] at h;omega);subst hl;have:=hd.head;simp [vl] at h1;simp;omega
def uw{x k}(h:(dg x).length<=k):ci x<=14*k:=by
 refine yA _ _ ?_;have h1:Sz k (x:Int):=vO h;have h2:x<10000 ^ k:=h1;have h3:(10000:Nat) ^ k<=(2 ^ 14) ^ k:=Nat.pow_le_pow_left d_ k;rw[<-Nat.pow_mul] at h3;omega
def Eo{x k d}(h:(dg x).length<=k):(dg (x / d)).length<=k:=by
 have h1:Sz k (x:Int):=vO h;have h2:x<10000 ^ k:=h1;exact ff (Nat.lt_of_le_of_lt (Yl x d) h2)
def qa.nat{x d:Nat}{r}{w}{e}{w'}(h:qa ((x) / (d)) r w e w'):∃sl H,e=.returned (.tuple #[.agg #[false,.slice sl (dg (x / d)).length H],r])/\aW w' w (.slice sl (dg (x / d)).length H) (dg (x / d))/\Below w w w':=by
 obtain⟨v,h1,⟨lv,rfl,h2⟩,h3⟩:=h;rw[<-Int.natCast_ediv] at h1 h2;have e1:decide (((x / d:Nat):Int)<0)=false:=Vb (XX.2 (Int.natCast_nonneg _));rw[e1] at h1;obtain⟨sl,H,rfl,_⟩:=id h2.1;exact⟨sl,H,h1,h2,h3⟩
def dG.nat{x:Nat}{w}{e}{w'}(h:dG (x) w e w'):∃sl H,e=.returned (.agg #[false,.slice sl (dg x).length H])/\aW w' w (.slice sl (dg x).length H) (dg x)/\Below w w w':=by
 obtain⟨v,h1,⟨lv,rfl,h2⟩,h3⟩:=h;have e1:decide ((x:Int)<0)=false:=s_;rw[e1] at h1;obtain⟨sl,H,rfl,_⟩:=id h2.1;exact⟨sl,H,h1,h2,h3⟩
def BJ(N)(a)(hN:(dg N.natAbs).length<=100000)(w)(ha:bm N a w):
 Kp 343 #[a] w (dG (N.natAbs:Int) w):=by
 obtain⟨la,rfl,a3⟩:=ha;have⟨kA,kS,J⟩:=cr w #[decide (N<0),la] 182 #[false,.slice none 0 0] 182;generalize decide (N<0)=sa at *;have a6:=J.size;have HT:=h_ (λW (hb:Below w w W)=>((lV false la (dg N.natAbs) o_ W ((h_ a3).out.below hb)).mono λe w' h=>dG.nat (h.whole (N:=(N.natAbs:Int)) (.inl s_) (by rw[qY];rfl))));generalize hx:N.natAbs=x at *;go_enter Tryz.func343,Tryz.ntmps343;go_upto_region 1 with fail
 generalize (w.alloc _).alloc _=W,cs:w.heap.size+1=rs at *;have⟨_,a1⟩:=kA.q2;go_wp2_with fail
 refine (HT.out W J).mono ?_;rintro e w1 ⟨sl,H,rfl,Z,I⟩;have aZ:=kS.next I
 have⟨c0,c1⟩:=aZ.q2;have z0:=aZ.frozen 0;have z1:=aZ.frozen 1;have aL:=af I a6 J;have k9:=(aZ.set 0 false).set 1 (.slice sl (dg x).length H);have ad:Below w w ((w1.setCell rs false).setCell ⟨rs,1,none⟩ (.slice sl (dg x).length H)):=(aL.setCell u_ _).setCell u_ _;have az:=Z.set2 (S:=rs) kS.lt false (.slice sl (dg x).length H);replace az:aW _ w _ _:=az.le a6;go_wp2;generalize (World.setCell (World.setCell _ _ _) _ _)=w9 at ad k9 az ⊢;have⟨q0,q1⟩:=k9.q2;exact Uh (v:=.agg #[false,.slice sl (dg x).length H]) (by simp [results,Tryz.results343,go_sem,q0,q1]) rfl ⟨_,rfl,⟨_,by simp,az⟩,ad⟩
def Bn(N)(a)(hN:(dg N.natAbs).length<=1000)(w)(ha:bm N a w):
 Rv 308 #[a] w (ci N.natAbs):=by
 have HW:=h_ ha;obtain⟨la,rfl,a3⟩:=ha;have⟨kB,J⟩:=aw w #[decide (N<0),la] 182;have HT:=h_ (λW hr=>(BJ N (.agg #[decide (N<0),la]) o_ W hr).mono λe w' h=>dG.nat h);have a8:=uw hN;generalize hx:N.natAbs=x0,decide (N<0)=sa at *;obtain⟨B,hB⟩:∃B,ci x0=B:=⟨_,rfl⟩
 rw[hB] at a8 ⊢;have HB:=h_ hB;go_enter Tryz.func308,Tryz.ntmps308;go_upto_region 1 with fail
 have aa:=h_ (bm.below HW.out J);generalize w.alloc _=W at *;have bZ:=kB.lt;have⟨b0,b1⟩:=kB.q2;go_wp2_with fail
 refine (HT.out W aa.out).mono ?_;rintro e w1 ⟨sl,H,rfl,Z,I⟩;have bo:=kB.next I
 have⟨c0,c1⟩:=bo.q2;have z0:=bo.frozen 0;have z1:=bo.frozen 1;have aL:=af I J.size J;have k9:=(bo.set 0 false).set 1 (.slice sl (dg x0).length H);simp at k9;have ad:Below w w ((w1.setCell w false).setCell ⟨w,1,none⟩ (.slice sl (dg x0).length H)):=(aL.setCell s_ _).setCell s_ _;have az:=(Z.set2 (S:=w.heap.size) bZ false (.slice sl (dg x0).length H)).1;go_upto_region 2 with fail
 generalize (World.setCell (World.setCell _ _ _) _ _)=w9 at ad k9 az ⊢;go_upto_region 3 with fail
 go_loopw [3] (λbv wr=>∃(x bb:Nat) (sl:bT) (H:Nat),bv=.int .i64 bb/\Hid (B=bb+ci x)/\(dg x).length<=1000/\bb<=B/\ag w #[false,.slice sl (dg x).length H] 182 wr/\bS wr (.slice sl (dg x).length H) (dg x)/\Below w w wr) (λbv _=>(B+100 - intOf bv).toNat)
 case atStart=>exact⟨x0,0,sl,H,rfl,h_ (by rw[HB.out];omega),hN,by omega,k9,az,ad⟩
 case round=>
  obtain⟨x,bb,sl,H,rfl,hS,hl,ae,kB,hr,hb⟩:=hrel;have⟨b0,b1⟩:=kB.q2;by_cases h2:2<(dg x).length
  .have ac:(2:Int)<((dg x).length:Int):=o_;have U:67108864<=x:=Ui d_ (Jv h2);have cb:Hid (B=(bb+26)+ci (x / 67108864)):=h_ (by rw[hS.out,Nx U];omega);have a7:(dg (x / 67108864)).length<=1000:=Eo hl;have G:bb+26<=B:=by have:=cb.out;omega
   have HQ:=h_ ((tc (x:Int) 67108864 (.agg #[false,.slice sl (dg x).length H]) (by show (dg x).length<=_;omega) o_ wr ⟨_,by simp,hr⟩).mono λe w' h=>qa.nat (d:=67108864) h);go_wp2_with fail
   refine HQ.out.mono ?_;rintro e w1 ⟨F,g,rfl,Z,I⟩;have bo:=kB.next I
   have⟨c0,c1⟩:=bo.q2;have z0:=bo.frozen 0;have z1:=bo.frozen 1;have aL:=af I hb.size hb;have k9:=(bo.set 0 false).set 1 (.slice F (dg (x / 67108864)).length g);simp at k9;have ad:Below w w ((w1.setCell w false).setCell ⟨w,1,none⟩ (.slice F (dg (x / 67108864)).length g)):=(aL.setCell s_ _).setCell s_ _;have az:=(Z.set2 (S:=w.heap.size) kB.lt false (.slice F (dg (x / 67108864)).length g)).1;go_wp2;generalize (World.setCell (World.setCell _ _ _) _ _)=w9 at ad k9 az ⊢;go_roundw
   case rel=>exact⟨x / 67108864,bb+26,F,g,by go_num,cb,a7,G,k9,az,ad⟩
   case measure=>exact aO
  .have ac:¬(2:Int)<((dg x).length:Int):=o_;have ab:=(jQ x).1;have aM:=h_ (jQ x).2.2;generalize dg x=A at *;go_upto_region 8 with fail
   go_loopw [4,5] (λnv iv w2=>∃(k:Nat) (n i:Int),k<=A.length/\nv=.int .i64 n/\iv=.int .i64 i/\i+1=k/\(0<=n/\n<=99999999)/\Hid (vl (A.drop k)=n)/\w2=wr) (λ_ iv _=>(intOf iv+1).toNat)
   case atStart=>exact⟨A.length,0,(A.length:Int) - 1,Ug _,rfl,by go_num,by omega,by omega,h_ (by simp [vl]),rfl⟩
   case round=>
    obtain⟨k,n,i,hk,rfl,rfl,cu,hn,hV,rfl⟩:=hrel;cases k with
    |succ j=>
     obtain rfl:i=(j:Int):=by omega
     have cy:j<A.length:=o_;have aF:=ab.adi j;have b8:=((h_ (SS ab o_)).out (j+1)).2 o_;rw[hV.out] at b8;have aG:=QQ cy;have⟨_,_,e1,_,co⟩:=hr;injection e1 with e1 _ e2;subst e1 e2;obtain⟨ga,oa,rfl,d1,_⟩:=co j cy;generalize A[j]?.getD 0=y at d1 aF aG;have b2:Hid (vl (A.drop j)=n*10000+y):=h_ (by rw[aG,hV.out];omega);go_wp2;go_roundw
     case rel=>exact⟨j,n*10000+y,(j:Int) - 1,by omega,by go_num,by go_num,by omega,by omega,b2,by first|trivial|rfl⟩
     case measure=>simp [intOf]
    |zero=>
     obtain rfl:i=-1:=by omega
     have b6:n=(x:Int):=by rw[<-hV.out,U0,aM.out]
     subst b6;by_cases a6:x=0
     .subst a6;have K:Hid (B=bb):=h_ (by have:=hS.out;rw[oW] at this;omega);go_wp2;exact Uh (v:=.int .i64 (bb:Int)) If rfl ⟨by rw[K.out],hb⟩
     .have a9:((x:Int)==0)=false:=u_;have HL:=h_ (λW=>Tryz.bits_Len (x:Int) W o_ o_);have ax:Lib.bitLen (x:Int).toNat=ci x:=BO u_;rw[ax] at HL;have cb:=hS.out;obtain⟨C,hC⟩:∃C,ci x=C:=⟨_,rfl⟩
      rw[hC] at HL cb;have V:=h_ cb;go_wp2_with fail
      refine (HL.out _).mono ?_;rintro e w2 ⟨rfl,rfl⟩;have aX:bb+C<=14000:=o_;go_wp2;refine Uh (v:=.int .i64 ((bb:Int)+(C:Int))) If rfl ?_;exact⟨by rw[V.out];simp,hb⟩
def xU(N)(a)(hN:(dg N.natAbs).length<=1000)(w)(ha:bm N a w):
 Rv 288 #[a] w (ci N.natAbs):=by
 obtain⟨la,rfl,a3⟩:=ha;have⟨kA,J⟩:=aw w #[decide (N<0),la] 182;have a5:=h_ a3;have HT:=h_ (λW (hb:Below w w W)=>((mc false la (dg N.natAbs) o_ W (a5.out.below hb)).mono λe w' h=>dG.nat (h.whole (N:=(N.natAbs:Int)) (.inl s_) (by rw[qY];rfl))));have a8:=uw hN;generalize hx:N.natAbs=x0,decide (N<0)=sa at *;obtain⟨B,hB⟩:∃B,ci x0=B:=⟨_,rfl⟩
 rw[hB] at a8 ⊢;have HB:=h_ hB;go_enter Tryz.func288,Tryz.ntmps288;go_upto_region 2 with fail
 generalize w.alloc _=W at *;have⟨_,a1⟩:=kA.q2;go_wp2_with fail
 refine (HT.out W J).mono ?_;rintro e w1 ⟨sl,H,rfl,Z,I⟩;have⟨kX,ab⟩:=aw w1 #[false,.slice sl (dg x0).length H] 182;have aL:=af I J.size J;have aZ:=aL.size;replace aL:=af ab aL.size aL;have bz:=Z.1.below ab;go_upto_region 3 with fail
 generalize w1.alloc _=W9,w1.heap.size=rx at *;go_loopw [3] (λbv wr=>∃(x bb:Nat) (sl:bT) (H:Nat),bv=.int .i64 bb/\Hid (B=bb+ci x)/\(dg x).length<=1000/\bb<=B/\ag rx #[false,.slice sl (dg x).length H] 182 wr/\bS wr (.slice sl (dg x).length H) (dg x)/\Below w w wr) (λbv _=>(B+100 - intOf bv).toNat)
 case atStart=>exact⟨x0,0,sl,H,rfl,h_ (by rw[HB.out];omega),hN,by omega,kX,bz,aL⟩
 case round=>
  obtain⟨x,bb,sl,H,rfl,hS,hl,ae,kB,hr,hb⟩:=hrel;have⟨b0,b1⟩:=kB.q2;by_cases h2:1<(dg x).length
  .have ac:(1:Int)<((dg x).length:Int):=o_;have U:4096<=x:=Ui d_ (Jv h2);have cb:Hid (B=(bb+12)+ci (x / 4096)):=h_ (by rw[hS.out,Nu U];omega);have a7:(dg (x / 4096)).length<=1000:=Eo hl;have G:bb+12<=B:=by have:=cb.out;omega
   have HQ:=h_ ((nJ (x:Int) 4096 (.agg #[false,.slice sl (dg x).length H]) (by show (dg x).length<=_;omega) o_ wr ⟨_,by simp,hr⟩).mono λe w' h=>qa.nat (d:=4096) h);go_wp2_with fail
   refine HQ.out.mono ?_;rintro e w1 ⟨F,g,rfl,Z,I⟩;have bo:=kB.next I
   have⟨c0,c1⟩:=bo.q2;have z0:=bo.frozen 0;have z1:=bo.frozen 1;have aL:=af I hb.size hb;have k9:=(bo.set 0 false).set 1 (.slice F (dg (x / 4096)).length g);simp at k9;have ad:Below w w ((w1.setCell rx false).setCell ⟨rx,1,none⟩ (.slice F (dg (x / 4096)).length g)):=(aL.setCell aZ _).setCell aZ _;have az:=(Z.set2 (S:=rx) kB.lt false (.slice F (dg (x / 4096)).length g)).1;go_wp2;generalize (World.setCell (World.setCell _ _ _) _ _)=w9 at ad k9 az ⊢;go_roundw
   case rel=>exact⟨x / 4096,bb+12,F,g,by go_num,cb,a7,G,k9,az,ad⟩
   case measure=>exact aO
  .have ac:¬(1:Int)<((dg x).length:Int):=o_;have hd:=Tt (x:=x) o_;have HL:Hid (Kp 326 #[.slice sl (dg x).length H,()] wr λe w'=>e=.returned (.int .i64 (x:Int))/\w'=wr):=by
    have:=nE (.slice sl (dg x).length H) (dg x) 0 wr hr;rw[hd.1] at this;exact h_ this
   have V:=hd.2;go_wp2_with fail
   refine HL.out.mono ?_;rintro e w2 ⟨rfl,rfl⟩;go_upto_region 7 with fail
   go_loopw [3,5] (λbv nv w3=>∃(n b2:Nat),bv=.int .i64 b2/\nv=.int .i64 n/\n<10000/\b2<=B/\Hid (B=b2+ci n)/\w3=w2) (λ_ nv _=>(intOf nv).toNat)
   case atStart=>exact⟨x,bb,rfl,rfl,V,ae,hS,rfl⟩
   case round=>
    obtain⟨n,b2,rfl,rfl,hn,_,aa,rfl⟩:=hrel;by_cases cz:n=0
    .subst cz;have K:Hid (B=b2):=h_ (by have:=aa.out;rw[oW] at this;omega);go_wp2;exact Uh (v:=.int .i64 (b2:Int)) (by simp [results,Tryz.results288,go_sem]) rfl ⟨by rw[K.out],hb⟩
    .have a4:Hid (B=(b2+1)+ci (n / 2)):=h_ (by rw[aa.out,tT cz];omega);have aF:b2+1<=B:=by have:=a4.out;omega
     have aG:(0:Int)<(n:Int):=o_;go_wp2;go_roundw
     case rel=>exact⟨n / 2,b2+1,by go_num,by go_num,by omega,aF,a4,by first|trivial|rfl⟩
     case measure=>exact aO
def bM{x y}(a b){c:Int}(hx:0<=x/\x<=a)(hy:0<=y/\y<=b)(hc:a*b=c):0<=x*y/\x*y<=c:=by
 subst hc;exact⟨UJ hx.1 hy.1,Ur hx.2 hy.2 hy.1 o_⟩
def yy(a b d:Int):(max (1+2*a+8*b+a*a) (4*(1+a+b)))=max (1+2*a+8*b+a*a) (4*(1+a+b))/\(max (12+16*a+3+5*a+27*b) (4*d+4*a*a*b+4*a*(3*a*a*a+22*b*b)+12*b*(a*a*a+8*b*b)+(a*a*b+a*(5*a*a*a+32*b*b)+2*b*(13*a*a*a+96*b*b)+3*a*a*(a*a*a+8*b*b))))=max (15+21*a+27*b) (4*d+5*(a*a)*b+4*a*(3*(a*a*a)+22*(b*b))+12*b*(a*a*a+8*(b*b))+a*(5*(a*a*a)+32*(b*b))+2*b*(13*(a*a*a)+96*(b*b))+3*(a*a)*(a*a*a+8*(b*b))):=by
 refine⟨rfl,?_⟩;congr 1
 .omega
 .grind
def EN(a b d:Int):(max (1+2*a+8*b+a*a) (4*(1+a+b)))=max (1+2*a+8*b+a*a) (4*(1+a+b))/\(max (15+21*a+27*b) (4*d+5*a*a*b+4*a*(3*a*a*a+22*b*b)+12*b*(a*a*a+8*b*b)+(a*(5*a*a*a+32*b*b)+2*b*(13*a*a*a+96*b*b)+3*a*a*(a*a*a+8*b*b))))=max (15+21*a+27*b) (4*d+5*(a*a)*b+4*a*(3*(a*a*a)+22*(b*b))+12*b*(a*a*a+8*(b*b))+a*(5*(a*a*a)+32*(b*b))+2*b*(13*(a*a*a)+96*(b*b))+3*(a*a)*(a*a*a+8*(b*b))):=by
 refine⟨rfl,?_⟩;congr 1;grind
def TK{a b d:Int}(ha:0<=a/\a<=1000)(hb:0<=b/\b<=10000)(hd:0<=d/\d<=7000000000):(0<=max (1+2*a+8*b+a*a) (4*(1+a+b))/\max (1+2*a+8*b+a*a) (4*(1+a+b))<=2000000)/\(0<=max (12+16*a+3+5*a+27*b) (4*d+4*a*a*b+4*a*(3*a*a*a+22*b*b)+12*b*(a*a*a+8*b*b)+(a*a*b+a*(5*a*a*a+32*b*b)+2*b*(13*a*a*a+96*b*b)+3*a*a*(a*a*a+8*b*b)))/\max (12+16*a+3+5*a+27*b) (4*d+4*a*a*b+4*a*(3*a*a*a+22*b*b)+12*b*(a*a*a+8*b*b)+(a*a*b+a*(5*a*a*a+32*b*b)+2*b*(13*a*a*a+96*b*b)+3*a*a*(a*a*a+8*b*b)))<=7000000000000000):=by
 have q0:0<=a*a/\a*a<=1000000:=bM 1000 1000 o_ o_ d_;have q1:0<=4*a*a/\4*a*a<=4000000:=bM 4000 1000 o_ o_ d_;have q2:0<=4*a*a*b/\4*a*a*b<=40000000000:=bM 4000000 10000 o_ o_ d_;have q3:0<=3*a*a/\3*a*a<=3000000:=bM 3000 1000 o_ o_ d_;have q4:0<=3*a*a*a/\3*a*a*a<=3000000000:=bM 3000000 1000 o_ o_ d_;have q5:0<=22*b*b/\22*b*b<=2200000000:=bM 220000 10000 o_ o_ d_;have q6:0<=4*a*(3*a*a*a+22*b*b)/\4*a*(3*a*a*a+22*b*b)<=20800000000000:=bM 4000 5200000000 o_ o_ d_;have q7:0<=a*a*a/\a*a*a<=1000000000:=bM 1000000 1000 o_ o_ d_;have q8:0<=8*b*b/\8*b*b<=800000000:=bM 80000 10000 o_ o_ d_;have q9:0<=12*b*(a*a*a+8*b*b)/\12*b*(a*a*a+8*b*b)<=216000000000000:=bM 120000 1800000000 o_ o_ d_;have H:0<=a*a*b/\a*a*b<=10000000000:=bM 1000000 10000 o_ o_ d_;have G:0<=5*a*a/\5*a*a<=5000000:=bM 5000 1000 o_ o_ d_;have F:0<=5*a*a*a/\5*a*a*a<=5000000000:=bM 5000000 1000 o_ o_ d_;have Z:0<=32*b*b/\32*b*b<=3200000000:=bM 320000 10000 o_ o_ d_;have aa:0<=a*(5*a*a*a+32*b*b)/\a*(5*a*a*a+32*b*b)<=8200000000000:=bM 1000 8200000000 o_ o_ d_;have K:0<=13*a*a/\13*a*a<=13000000:=bM 13000 1000 o_ o_ d_;have V:0<=13*a*a*a/\13*a*a*a<=13000000000:=bM 13000000 1000 o_ o_ d_;have U:0<=96*b*b/\96*b*b<=9600000000:=bM 960000 10000 o_ o_ d_;have ac:0<=2*b*(13*a*a*a+96*b*b)/\2*b*(13*a*a*a+96*b*b)<=452000000000000:=bM 20000 22600000000 o_ o_ d_;have ab:0<=3*a*a*(a*a*a+8*b*b)/\3*a*a*(a*a*a+8*b*b)<=5400000000000000:=bM 3000000 1800000000 o_ o_ d_;omega
def xO{A B}(hA:bj A)(hB:a_ B):-7000000000<=aP A B/\aP A B<=7000000000:=by
 have h1:=li hA hB;unfold aP;omega
def LS(A B:Int)(hA:bj A)(hB:a_ B)(w):
 Rv 309 #[.agg #[A,B]] w (.tuple #[iY A B,(max (iU A B) (iX A B):Int)]):=by
 have⟨kC,J⟩:=aw w #[A,B] 42;have HC:=h_ (nT A B hA hB);have⟨d1,d2⟩:=xO hA hB;obtain⟨a,ha⟩:∃a:Int,(A.natAbs:Int)=a:=⟨_,rfl⟩
 obtain⟨b,hb⟩:∃b:Int,(B.natAbs:Int)=b:=⟨_,rfl⟩
 obtain⟨d,hd⟩:∃d:Int,((aP A B).natAbs:Int)=d:=⟨_,rfl⟩
 have ba:0<=a/\a<=1000:=o_;have bb:0<=b/\b<=10000:=o_;have bd:0<=d/\d<=7000000000:=o_;have ea:max A (-A)=a:=o_;have eb:max B (-B)=b:=o_;have ed:max (aP A B) (-(aP A B))=d:=o_;have g:Hid (iY A B=max (1+2*a+8*b+a*a) (4*(1+a+b))/\max (iU A B) (iX A B)=max (12+16*a+3+5*a+27*b) (4*d+4*a*a*b+4*a*(3*a*a*a+22*b*b)+12*b*(a*a*a+8*b*b)+(a*a*b+a*(5*a*a*a+32*b*b)+2*b*(13*a*a*a+96*b*b)+3*a*a*(a*a*a+8*b*b)))):=h_ (by
  unfold iY iU iX;rw[ha,hb,hd];exact⟨(yy a b d).1.symm,(yy a b d).2.symm⟩)
 generalize aP A B=D at *;go_enter Tryz.func309,Tryz.ntmps309;go_upto_region 1 with fail
 generalize w.alloc _=W at *;have⟨a4,a3⟩:=kC.q2;have a5:=kC.lt
 (refine bP k_ k_ ?_;(repeat (go_big_quiet_step ((go_at_call 98;with_reducible exact Calls.quiet_cls an _ (HC.out _)))));refine wpQuiet_nil ?_;intro w1 I)
 have q0:0<=a*a/\a*a<=1000000:=bM 1000 1000 o_ o_ d_;have q1:0<=4*a*a/\4*a*a<=4000000:=bM 4000 1000 o_ o_ d_;have q2:0<=4*a*a*b/\4*a*a*b<=40000000000:=bM 4000000 10000 o_ o_ d_;have q3:0<=3*a*a/\3*a*a<=3000000:=bM 3000 1000 o_ o_ d_;have q4:0<=3*a*a*a/\3*a*a*a<=3000000000:=bM 3000000 1000 o_ o_ d_;have q5:0<=22*b*b/\22*b*b<=2200000000:=bM 220000 10000 o_ o_ d_;have q6:0<=4*a*(3*a*a*a+22*b*b)/\4*a*(3*a*a*a+22*b*b)<=20800000000000:=bM 4000 5200000000 o_ o_ d_;have q7:0<=a*a*a/\a*a*a<=1000000000:=bM 1000000 1000 o_ o_ d_;have q8:0<=8*b*b/\8*b*b<=800000000:=bM 80000 10000 o_ o_ d_;have q9:0<=12*b*(a*a*a+8*b*b)/\12*b*(a*a*a+8*b*b)<=216000000000000:=bM 120000 1800000000 o_ o_ d_;have H:0<=a*a*b/\a*a*b<=10000000000:=bM 1000000 10000 o_ o_ d_;have G:0<=5*a*a/\5*a*a<=5000000:=bM 5000 1000 o_ o_ d_;have F:0<=5*a*a*a/\5*a*a*a<=5000000000:=bM 5000000 1000 o_ o_ d_;have Z:0<=32*b*b/\32*b*b<=3200000000:=bM 320000 10000 o_ o_ d_;have aa:0<=a*(5*a*a*a+32*b*b)/\a*(5*a*a*a+32*b*b)<=8200000000000:=bM 1000 8200000000 o_ o_ d_;have K:0<=13*a*a/\13*a*a<=13000000:=bM 13000 1000 o_ o_ d_;have V:0<=13*a*a*a/\13*a*a*a<=13000000000:=bM 13000000 1000 o_ o_ d_;have U:0<=96*b*b/\96*b*b<=9600000000:=bM 960000 10000 o_ o_ d_;have ac:0<=2*b*(13*a*a*a+96*b*b)/\2*b*(13*a*a*a+96*b*b)<=452000000000000:=bM 20000 22600000000 o_ o_ d_;have ab:0<=3*a*a*(a*a*a+8*b*b)/\3*a*a*(a*a*a+8*b*b)<=5400000000000000:=bM 3000000 1800000000 o_ o_ d_;go_wp2;exact Uh (v:=.tuple #[(max (1+2*a+8*b+a*a) (4*(1+a+b)):Int),(max (12+16*a+3+5*a+27*b) (4*d+4*a*a*b+4*a*(3*a*a*a+22*b*b)+12*b*(a*a*a+8*b*b)+(a*a*b+a*(5*a*a*a+32*b*b)+2*b*(13*a*a*a+96*b*b)+3*a*a*(a*a*a+8*b*b))):Int)]) (by simp [results,Tryz.results309,go_sem]) rfl ⟨by rw[g.out.1,g.out.2],af I J.size J⟩
def MB(A B:Int)(hA:bj A)(hB:a_ B)(w):
 Rv 289 #[.agg #[A,B]] w (.tuple #[iY A B,(max (iU A B) (iX A B):Int)]):=by
 have⟨kC,J⟩:=aw w #[A,B] 42;have HC:=h_ (nH A B hA hB);have HM:Hid (∀x y W,Rw 172 #[.int .i64 x,.int .i64 y] W (max x y:Int)):=h_ (λx y W=>(mU x y W).mono λ_ _ h=>⟨by rw[h.1];congr 2;omega,h.2.symm⟩);have⟨d1,d2⟩:=xO hA hB;obtain⟨a,ha⟩:∃a:Int,(A.natAbs:Int)=a:=⟨_,rfl⟩
 obtain⟨b,hb⟩:∃b:Int,(B.natAbs:Int)=b:=⟨_,rfl⟩
 obtain⟨d,hd⟩:∃d:Int,((aP A B).natAbs:Int)=d:=⟨_,rfl⟩
 have ba:0<=a/\a<=1000:=o_;have bb:0<=b/\b<=10000:=o_;have bd:0<=d/\d<=7000000000:=o_;have h1:=λW=>uj A o_ W;have h2:=λW=>uj B o_ W;have h3:=λW=>uj (aP A B) o_ W;rw[ha] at h1;rw[hb] at h2;rw[hd] at h3;have HA:=h_ (λW=>(h1 W).mono λ_ _ h=>(⟨h.1,h.2.symm⟩:_/\W=_));have HB:=h_ (λW=>(h2 W).mono λ_ _ h=>(⟨h.1,h.2.symm⟩:_/\W=_));have HD:=h_ (λW=>(h3 W).mono λ_ _ h=>(⟨h.1,h.2.symm⟩:_/\W=_));have g:Hid (iY A B=max (1+2*a+8*b+a*a) (4*(1+a+b))/\max (iU A B) (iX A B)=max (15+21*a+27*b) (4*d+5*a*a*b+4*a*(3*a*a*a+22*b*b)+12*b*(a*a*a+8*b*b)+(a*(5*a*a*a+32*b*b)+2*b*(13*a*a*a+96*b*b)+3*a*a*(a*a*a+8*b*b)))):=h_ (by
  unfold iY iU iX;rw[ha,hb,hd];exact⟨(EN a b d).1.symm,(EN a b d).2.symm⟩)
 generalize aP A B=D at *;go_enter Tryz.func289,Tryz.ntmps289;go_upto_region 1 with fail
 generalize w.alloc _=W at *;have⟨a4,a3⟩:=kC.q2;have a5:=kC.lt
 (refine bP k_ k_ ?_;(repeat (go_big_quiet_step ((first|(go_at_call 105;with_reducible exact Calls.quiet_cls an _ (HC.out _))|(go_at_call 113;first|with_reducible exact Calls.quiet_clsS _ (HA.out _)|with_reducible exact Calls.quiet_clsS _ (HB.out _)|with_reducible exact Calls.quiet_clsS _ (HD.out _))))));refine wpQuiet_nil ?_;intro w1 I)
 have q0:0<=a*a/\a*a<=1000000:=bM 1000 1000 o_ o_ d_;have q1:0<=5*a*a/\5*a*a<=5000000:=bM 5000 1000 o_ o_ d_;have q2:0<=5*a*a*b/\5*a*a*b<=50000000000:=bM 5000000 10000 o_ o_ d_;have q3:0<=3*a*a/\3*a*a<=3000000:=bM 3000 1000 o_ o_ d_;have q4:0<=3*a*a*a/\3*a*a*a<=3000000000:=bM 3000000 1000 o_ o_ d_;have q5:0<=22*b*b/\22*b*b<=2200000000:=bM 220000 10000 o_ o_ d_;have q6:0<=4*a*(3*a*a*a+22*b*b)/\4*a*(3*a*a*a+22*b*b)<=20800000000000:=bM 4000 5200000000 o_ o_ d_;have q7:0<=a*a*a/\a*a*a<=1000000000:=bM 1000000 1000 o_ o_ d_;have q8:0<=8*b*b/\8*b*b<=800000000:=bM 80000 10000 o_ o_ d_;have q9:0<=12*b*(a*a*a+8*b*b)/\12*b*(a*a*a+8*b*b)<=216000000000000:=bM 120000 1800000000 o_ o_ d_;have H:0<=5*a*a*a/\5*a*a*a<=5000000000:=bM 5000000 1000 o_ o_ d_;have G:0<=32*b*b/\32*b*b<=3200000000:=bM 320000 10000 o_ o_ d_;have F:0<=a*(5*a*a*a+32*b*b)/\a*(5*a*a*a+32*b*b)<=8200000000000:=bM 1000 8200000000 o_ o_ d_;have Z:0<=13*a*a/\13*a*a<=13000000:=bM 13000 1000 o_ o_ d_;have aa:0<=13*a*a*a/\13*a*a*a<=13000000000:=bM 13000000 1000 o_ o_ d_;have K:0<=96*b*b/\96*b*b<=9600000000:=bM 960000 10000 o_ o_ d_;have V:0<=2*b*(13*a*a*a+96*b*b)/\2*b*(13*a*a*a+96*b*b)<=452000000000000:=bM 20000 22600000000 o_ o_ d_;have U:0<=3*a*a*(a*a*a+8*b*b)/\3*a*a*(a*a*a+8*b*b)<=5400000000000000:=bM 3000000 1800000000 o_ o_ d_;go_wp2_with ((go_at_call 172;refine ay (HM.out _ _ _) ?_))
 exact Uh (v:=.tuple #[(max (1+2*a+8*b+a*a) (4*(1+a+b)):Int),(max (15+21*a+27*b) (4*d+5*a*a*b+4*a*(3*a*a*a+22*b*b)+12*b*(a*a*a+8*b*b)+(a*(5*a*a*a+32*b*b)+2*b*(13*a*a*a+96*b*b)+3*a*a*(a*a*a+8*b*b))):Int)]) (by simp [results,Tryz.results289,go_sem]) rfl ⟨by rw[g.out.1,g.out.2],af I J.size J⟩
def yB{A B}(hA:bj A)(hB:a_ B):(0<=iY A B/\iY A B<=2000000)/\(0<=max (iU A B) (iX A B)/\max (iU A B) (iX A B)<=7000000000000000):=by
 have⟨d1,d2⟩:=xO hA hB;have h:=TK (a:=A.natAbs) (b:=B.natAbs) (d:=(aP A B).natAbs) o_ o_ o_;have e:=yy A.natAbs B.natAbs (aP A B).natAbs;rw[e.1,e.2] at h;exact h
def yV{A B}(hA:bj A)(hB:a_ B):0<=dL A B/\dL A B<=64:=by
 have h:=yB hA hB;unfold dL;have:=yA 64 (max (iY A B) (max (iU A B) (iX A B))).toNat o_;omega
def LJ(A B:Int)(hA:bj A)(hB:a_ B)(w):
 Rv 268 #[.agg #[A,B]] w (dL A B):=by
 have⟨kC,J⟩:=aw w #[A,B] 42;have HC:=h_ (LS A B hA hB);have b5:=yB hA hB;have g:Hid (dL A B=(ci (max (iY A B) (max (iU A B) (iX A B))).toNat:Int)):=rfl;rw[g.out];generalize iY A B=m,max (iU A B) (iX A B)=k at *;have HL:=h_ (λW=>Tryz.bits_Len (max m k) W o_ o_);rw[BO o_] at HL;go_enter Tryz.func268,Tryz.ntmps268;go_upto_region 1 with fail
 generalize w.alloc _=W at *;have⟨a4,a3⟩:=kC.q2;go_wp2_with fail
 refine ai (HC.out _) λw1 I=>?_;go_wp2_with fail
 refine (HL.out _).mono ?_;rintro e w2 ⟨rfl,rfl⟩;exact nY
def MF(A B:Int)(hA:bj A)(hB:a_ B)(w):
 Rv 239 #[.agg #[A,B]] w (dL A B):=by
 have⟨kC,J⟩:=aw w #[A,B] 42;have HC:=h_ (MB A B hA hB);have b5:=yB hA hB;have g:Hid (dL A B=(ci (max (iY A B) (max (iU A B) (iX A B))).toNat:Int)):=rfl;rw[g.out];generalize iY A B=m,max (iU A B) (iX A B)=k at *;have HM:Hid (∀W,Rw 172 #[m,k] W (max m k:Int)):=h_ (λW=>(mU m k W).mono λ_ _ h=>⟨by rw[h.1];congr 2;omega,h.2.symm⟩);have hz:Sz 5 (max m k):=by unfold Sz;omega
 have he:(max m k).toNat=(max m k).natAbs:=o_;rw[he];have HO:=h_ (rf (max m k) o_);have HB:=h_ (λW v h=>xU (max m k) v (Ui hz.len o_) W h);generalize max m k=M at *;go_enter Tryz.func239,Tryz.ntmps239;go_upto_region 1 with fail
 generalize w.alloc _=W at *;have⟨a4,a3⟩:=kC.q2;go_wp2_with fail
 refine ai (HC.out _) λw1 I=>?_;have H:=af I J.size J;go_wp2_with ((go_at_call 172;refine ay (HM.out _) ?_))
 refine (HO.out _).mono ?_;rintro e w2 ⟨v2,rfl,a8,U⟩;have az:=af U H.size H;go_wp2_with fail
 refine ai (HB.out _ _ a8.rd) λw3 aF=>?_;have aG:=af aF az.size az;go_wp2;go_ret;exact⟨rfl,aG⟩
def zy(h:P:=by simp [results,Tryz.results342,go_sem]):=h
def zl(h:P:=by simp [results,Tryz.results323,go_sem]):=h
def FT(h:P:=by
 go_wp2;refine Uh (v:=.bool true) (by simp [results,Tryz.results355,go_sem]) rfl ?_;exact⟨rfl,J⟩):=h
def Cj(K)(a)(hl:(dg K.natAbs).length<=400)(w)(ha:bm K a w):
 Rv 355 #[a] w true:=by
 obtain⟨la,rfl,hr⟩:=ha;have hD:=jQ K.natAbs;have⟨kA,J⟩:=aw w #[decide (K<0),la] 182;obtain⟨Z,F,rfl,_,hc⟩:=hr.below J;have b5:dg K.natAbs=[]->K=0:=λh=>by have:=ui.1 h;omega
 have H:∀j,(dg K.natAbs).length=j+1->0<(dg K.natAbs)[j]?.getD 0:=λj hj=>by
  have h0:dg K.natAbs≠[]:=λh=>by rw[h] at hj;cases hj
  rw[Us o_];have hx:=hD.2.1 h0;rw[Xh] at hx;have:=hD.1 _ (UA (show j<(dg K.natAbs).length by omega));simp;have e:(dg K.natAbs).length - 1=j:=o_;simp only[e] at hx;omega
 have cb:=λh=>b5 (UX.1 h);generalize dg K.natAbs=L at *;generalize L.length=n at *;cases n with
 |zero=>
  have e0:=cb rfl;subst e0;have bx:decide ((0:Int)<0)=false:=rfl;rw[bx] at J kA hc;go_enter Tryz.func355,Tryz.ntmps355;go_upto_region 1 with fail
  generalize w.alloc _=W at *;have⟨a0,a1⟩:=kA.q2;go_upto_region 5 with fail
  go_loopw [35] (λiv w2=>iv=.int .i64 0/\w2=W) (λ_ _=>0)
  case atStart=>exact⟨rfl,rfl⟩
  case round=>
   obtain⟨rfl,rfl⟩:=hrel;exact FT
 |succ j=>
  have⟨g,o,a3,qx,_⟩:=hc j o_;have hx:=H j rfl;generalize L[j]?.getD 0=x at qx hx;subst a3;have I:¬(400:Int)<((j+1:Nat):Int):=o_;have a6:(x==0)=false:=u_;generalize decide (K<0)=sg at *;go_enter Tryz.func355,Tryz.ntmps355;go_upto_region 1 with fail
  generalize w.alloc _=W at *;have⟨a0,a1⟩:=kA.q2;go_upto_region 5 with fail
  go_loopw [35] (λiv w2=>∃i:Nat,iv=.int .i64 i/\i<=(j+1)/\w2=W) (λiv _=>(j+1)+1 - (intOf iv).toNat)
  case atStart=>exact⟨0,rfl,by omega,rfl⟩
  case round=>
   obtain⟨i,rfl,hi,rfl⟩:=hrel;by_cases aG:i<(j+1)
   .have⟨g,o,a3,d1,bz⟩:=hc i aG;cases a3;have aF:=hD.1.adi i;generalize L[i]?.getD 0=y at d1 aF;have HI:=h_ (cR y 0 9999);rw[show av y 0 9999=true by unfold av;simp;omega] at HI;go_wp2_with fail
    refine (HI.out _).mono ?_;rintro e w1 ⟨rfl,rfl⟩;go_wp2;go_roundw
    case rel=>exact⟨i+1,by go_num,by omega,by first|trivial|rfl⟩
    case measure=>exact aO
   .have G:¬(i:Int)<(((j+1:Nat)):Int):=o_;exact FT
def PO(x z)(lx lz)(K:(dg x.natAbs).length<=400)(G:(dg z.natAbs).length<=400)(hz:0<=z)(w)(aZ:bS w lx (dg x.natAbs))(ba:bS w lz (dg z.natAbs)):
 Rv 342 #[.agg #[decide (x<0),lx,decide (z<0),lz]] w (.bool (ik x z)):=by
 have a6:decide (z<0)=false:=Vb o_;have⟨kB,J⟩:=aw w #[decide (x<0),lx,decide (z<0),lz] 209;have H:=h_ (λW (hb:Below w w W)=>Cj x (.agg #[decide (x<0),lx]) K W (bm.below ⟨_,rfl,aZ⟩ hb));have F:=h_ (λW (hb:Below w w W)=>Cj z (.agg #[decide (z<0),lz]) G W (bm.below ⟨_,rfl,ba⟩ hb));obtain⟨ax,cx,rfl,_,_⟩:=aZ;obtain⟨az,cz,rfl,_,_⟩:=ba;rw[a6] at kB J F ⊢;generalize decide (x<0)=sx at *;have HI:=h_ (cR ((dg z.natAbs).length:Int) 1 80);unfold ik
 skip
 generalize (dg x.natAbs).length=nx,(dg z.natAbs).length=nz at *;generalize av (nz:Int) 1 80=b2 at *;go_enter Tryz.func342,Tryz.ntmps342;go_upto_region 1 with fail
 generalize w.alloc _=W at *;have⟨a0,a1⟩:=kB.q2;go_wp2_with fail
 refine ai (H.out W J) λw1 I=>?_;have bo:=kB.next I
 have aL:=af I J.size J;have⟨_,_,a2⟩:=bo.q3;have⟨_,_,_,a3⟩:=bo.q4;go_wp2_with fail
 refine ai (F.out w1 aL) λw2 U=>?_;have g:=bo.next U
 replace aL:=af U aL.size aL;have⟨_,a1⟩:=g.q2;have⟨_,_,a2⟩:=g.q3;have⟨_,_,_,a3⟩:=g.q4;by_cases h8:nx<=80
 .have V:(nx:Int)<=80:=o_;go_wp2_with fail
  refine (HI.out _).mono ?_;rintro e w3 ⟨rfl,rfl⟩;cases b2
  .go_wp2;exact Uh (v:=.bool false) zy rfl ⟨by simp,aL⟩
  .go_wp2;exact Uh (v:=.bool true) zy rfl ⟨by simp [h8],aL⟩
 .have V:¬(nx:Int)<=80:=o_;go_wp2;exact Uh (v:=.bool false) zy rfl ⟨by simp [h8],aL⟩
def C5(x z)(lx lz)(K:(dg x.natAbs).length<=400)(G:(dg z.natAbs).length<=400)(hz:0<=z)(w)(aZ:bS w lx (dg x.natAbs))(ba:bS w lz (dg z.natAbs)):
 Rv 323 #[.agg #[decide (x<0),lx,decide (z<0),lz]] w (.bool (ik x z)):=by
 have a6:decide (z<0)=false:=Vb o_;have⟨kB,J⟩:=aw w #[decide (x<0),lx,decide (z<0),lz] 209;have H:=h_ (λW (hb:Below w w W)=>Dm x (.agg #[decide (x<0),lx]) o_ W (bm.below ⟨_,rfl,aZ⟩ hb));have F:=h_ (λW (hb:Below w w W)=>Dm z (.agg #[decide (z<0),lz]) o_ W (bm.below ⟨_,rfl,ba⟩ hb));obtain⟨ax,cx,rfl,_,_⟩:=aZ;obtain⟨az,cz,rfl,_,_⟩:=ba;rw[a6] at kB J F ⊢;generalize decide (x<0)=sx at *;have HI:=h_ (cw ((dg z.natAbs).length:Int) 1 80);unfold ik;rw[show mD x=true by simp [mD];omega] at H;rw[show mD z=true by simp [mD];omega] at F;generalize (dg x.natAbs).length=nx,(dg z.natAbs).length=nz at *;generalize av (nz:Int) 1 80=b2 at *;go_enter Tryz.func323,Tryz.ntmps323;go_upto_region 1 with fail
 generalize w.alloc _=W at *;have⟨a0,a1⟩:=kB.q2;go_wp2_with fail
 refine ai (H.out W J) λw1 I=>?_;have bo:=kB.next I
 have aL:=af I J.size J;have⟨_,_,a2⟩:=bo.q3;have⟨_,_,_,a3⟩:=bo.q4;go_wp2_with fail
 refine ai (F.out w1 aL) λw2 U=>?_;have g:=bo.next U
 replace aL:=af U aL.size aL;have⟨_,a1⟩:=g.q2;have⟨_,_,a2⟩:=g.q3;have⟨_,_,_,a3⟩:=g.q4;by_cases h8:nx<=80
 .have V:(nx:Int)<=80:=o_;go_wp2_with fail
  refine (HI.out _).mono ?_;rintro e w3 ⟨rfl,rfl⟩;cases b2
  .go_wp2;exact Uh (v:=.bool false) zl rfl ⟨by simp,aL⟩
  .go_wp2;exact Uh (v:=.bool true) zl rfl ⟨by simp [h8],aL⟩
 .have V:¬(nx:Int)<=80:=o_;go_wp2;exact Uh (v:=.bool false) zl rfl ⟨by simp [h8],aL⟩
def vZ(h:P:=by
 intro bp;refine br [] (λ_=>false) (λ_=>True) (KD (λ_=>True) []) k_ ⟨trivial,bR.nil _⟩ ?_;refine aD ⟨W,ah.refl _ _,trivial,bR.nil _⟩ [ae,ae,ae,ae] 4 (KD.closed an _) aA ?_;refine aR [4,5] ?_;refine ak.cons ?_ ?_
 .refine dm (zs:=#[false,.slice none 0 0]) (T:=182) an (λr5 b7 cs hne=>?_);refine ao ?_;refine aR [5] ?_;refine ak.cons ?_ ?_
  .refine dm (zs:=#[false,.slice none 0 0]) (T:=182) an (λr6 b0 cZ hne=>?_);refine ao ?_;simp at cZ;refine aR [6] ?_;refine ak.cons ?_ ?_
   .refine fk (v:=.agg #[decide (x<0),.slice ax (dg x.natAbs).length cx]) [(r6,#[false,.slice none 0 0],182)] [] (.inl b7) an (λ_ _ h _=>h) u_ (λhne=>?_)
    try simp only[Value.cells]
    refine aR [7] ?_;refine ak.cons ?_ ?_
    .refine fk (v:=.agg #[decide (z<0),.slice az (dg z.natAbs).length cz]) [] [(r5,#[decide (x<0),.slice ax (dg x.natAbs).length cx],182)] (.inl b0) an (λ_ _ h _=>h) u_ (λhne=>?_)
     try simp only[Value.cells]
     refine jc k_ (λWz a7 aX=>?_) _;exact bp r5 r6 Wz ⟨a7,aX.1,o_,o_,o_,aX.2.tail.head,aX.2.head⟩
    exact ak.nil
   exact ak.nil
  exact ak.nil
 refine ak.cons ?_ ?_
 .refine dm (zs:=#[false,.slice none 0 0]) (T:=182) an (λr6 b0 cZ hne=>?_);refine ao ?_;refine aR [4] ?_;refine ak.cons ?_ ?_
  .refine dm (zs:=#[false,.slice none 0 0]) (T:=182) an (λr5 b7 cs hne=>?_);refine ao ?_;simp at cs;refine aR [6] ?_;refine ak.cons ?_ ?_
   .refine fk (v:=.agg #[decide (x<0),.slice ax (dg x.natAbs).length cx]) [] [(r6,#[false,.slice none 0 0],182)] (.inl b7) an (λ_ _ h _=>h) u_ (λhne=>?_)
    try simp only[Value.cells]
    refine aR [7] ?_;refine ak.cons ?_ ?_
    .refine fk (v:=.agg #[decide (z<0),.slice az (dg z.natAbs).length cz]) [(r5,#[decide (x<0),.slice ax (dg x.natAbs).length cx],182)] [] (.inl b0) an (λ_ _ h _=>h) u_ (λhne=>?_)
     try simp only[Value.cells]
     refine jc k_ (λWz a7 aX=>?_) _;exact bp r5 r6 Wz ⟨a7,aX.1,o_,o_,o_,aX.2.head,aX.2.tail.head⟩
    exact ak.nil
   exact ak.nil
  exact ak.nil
 exact ak.nil):=h
def gH(h:P:=by
 refine aS.q _ r_ r_ λρ w' H=>?_;have hx:ρ (.tmp 5)=.pointer (some ⟨r5,0,none⟩):=H.bas 5 k_;exact lu _ rfl hx (kx.next H.bel)):=h
def fw(h:P:=by
 refine aS.q _ r_ r_ λρ w' H=>?_;have hx:ρ (.tmp 6)=.pointer (some ⟨r6,0,none⟩):=H.bas 6 k_;exact lu _ rfl hx (kz.next H.bel)):=h
def Ab(h:P:=by
 obtain rfl:v5=.pointer (some ⟨S,0,none⟩):=Z;exact jj _ rfl e5 ((kC.next H.bel).cell 0)):=h
def kl(h:P:=by
 refine aS.a _ r_ λρ w' H=>?_;exact bl.alloc rfl (λw=>by simp [go_sem]) H.bel.size):=h
def JB(h:P:=by
 exact EI _ _ _ _ _ _ rfl (by rw[e0];exact p0) (by rw[e1];exact p1) (by rw[e2];exact p2)):=h
def nc(h:P:=by
 refine aS.q _ r_ r_ λρ w' H=>?_;exact O9 _ rfl (H.bas 2 k_)):=h
def uz(h:P:=by
 refine aS.q _ r_ r_ λρ w' H=>?_;exact PJ _ rfl (H.bas 2 k_)):=h
def uG(h:P:=by
 exact⟨_,rfl,⟨_,rfl,r9⟩,HS.out▸ad⟩):=h
def mV{K}{N}(hl:K.length<=6)(hz:∀y∈K,Sz 1000 y)(he:pr K=N)(v)(w)(h:jr w v K):Kp 338 #[v] w (dG N w):=by
 subst he;exact L4 K v o_ (λi hi=>Ui (hz _ (UA hi)).len o_) (Tr (s:=1000) o_ hz) w h
def CH{K}{N}(hl:K.length<=10)(hz:∀y∈K,Sz 30000 y)(he:sm K=N)(v)(w)(h:jr w v K):Kp 337 #[v] w (dG N w):=by
 subst he;exact NE K v o_ (λi hi=>Ui (hz _ (UA hi)).len o_) (Tx hl λy hy=>(hz y hy).mono o_) w h
def oA{K}(hl:K.length<=6)(hz:∀y∈K,Sz 1000 y):Sz 30000 (pr K):=(Ai K hz).mono o_
def wf(b:Nat)(N:Int)(w:World)(e:Ending)(w':World):Prop:=∃v,e=.returned v/\Wh b N v w'/\Below w w w'
def A4(A B x z:Int)(b)(lx lz)(hA:bj A)(hB:a_ B)(zx:Sz 80 x)(zz:Sz 80 z)(w)(hb:b<=w.heap.size)(aZ:aW w b lx (dg x.natAbs))(ba:aW w b lz (dg z.natAbs)):
 Kp 341 #[.agg #[A,B],.agg #[decide (x<0),lx,decide (z<0),lz]] w (wf b (bk A B x z) w):=by
 have⟨kC,kT,V,J⟩:=pW w #[A,B] 42 #[decide (x<0),lx,decide (z<0),lz] 209 #[false,.slice none 0 0] 182;have b3:(((w.alloc (.cells #[A,B] 42)).alloc (.cells #[decide (x<0),lx,decide (z<0),lz] 209)).alloc (.cells #[false,.slice none 0 0] 182)).heap.size=w.heap.size+3:=s_;have rx:=aZ.below J;have rz:=ba.below J;obtain⟨ax,cx,rfl,_⟩:=id aZ.1;obtain⟨az,cz,rfl,_⟩:=id ba.1;simp at kT V;have x1:Sz 1000 x:=zx.mono o_;have z1:Sz 1000 z:=zz.mono o_;have a2:Sz 1000 (-2*A):=(Sz.of1 o_ o_).mono o_;have b2:Sz 1000 (-8*B):=(Sz.of4 o_ o_).mono o_;have d6:=aJ (x:=A) (y:=A) 1000 1000 hA hA;have aa:Sz 1000 (A*A):=(Sz.of4 o_ o_).mono o_;have hM:Hid (∀v w,jr w v [pr [x,x,x,x],pr [-2*A,x,x,z,z],pr [-8*B,x,z,z,z],pr [A*A,z,z,z,z]]->Kp 337 #[v] w (dG (bk A B x z) w)):=CH s_ (by
  simp only[Ut];exact⟨oA s_ (by simp [x1]),oA s_ (by simp [x1,z1,a2]),oA s_ (by simp [x1,z1,b2]),oA s_ (by simp [z1,aa]),λ_ h=>by cases h⟩) (by simp only[sm,pr,bk];grind)
 obtain⟨S,hS⟩:∃S,w.heap.size=S:=⟨_,rfl⟩
 go_enter Tryz.func341,Tryz.ntmps341;go_upto_region 1 with fail
 generalize ((w.alloc _).alloc _).alloc _=W at *;rw[hS] at kC kT V J b3 hb;have HS:=h_ hS;have aG:b<=W.heap.size:=o_;have a9:S<=W.heap.size:=o_;have⟨t0,t1,t2,t3⟩:=kT.q4;have t4:=kT.lt;apply sL (λr5 r6 Wz=>ah [] W Wz/\(λ_=>True) Wz/\W.heap.size<=r5/\W.heap.size<=r6/\r6≠r5/\ag r5 #[decide (x<0),.slice ax (dg x.natAbs).length cx] 182 Wz/\ag r6 #[decide (z<0),.slice az (dg z.natAbs).length cz] 182 Wz)
 .exact vZ
 rintro r5 r6 W2 ⟨bi,_,_,_,_,k5,U⟩;have g:=bi.below;have kx:bt b r5 x W2:=⟨_,k5,rx.below g,rfl⟩
 have kz:bt b r6 z W2:=⟨_,U,rz.below g,rfl⟩
 replace kC:=kC.next g
 replace V:=V.next g
 replace J:Below S w _:=af g a9 J;replace aG:=Ui aG g.size;replace a9:=Ui a9 g.size;go_upto_region 2 with fail
 refine iZ 40 [] [(0,11),(1,12),(2,13),(3,14),(4,15),(5,16),(6,17),(7,18),(8,19),(9,20),(10,21),(11,22),(12,23),(13,24),(14,25),(15,26),(16,27),(17,28),(18,29),(19,30),(20,31),(21,32),(22,33),(23,34),(24,35),(25,36),(26,37),(27,38),(28,39),(29,40),(30,41),(31,42),(32,43),(33,44),(34,45),(35,46),(36,47),(37,48),(38,49),(39,50)] [Wh b x,Wh b x,Wh b x,Wh b x,de [x,x,x,x],Wh b (pr [x,x,x,x]),aV (.pointer S),aV A,aV (-2*A:Int),Wh b (-2*A),Wh b x,Wh b x,Wh b z,Wh b z,de [(-2*A),x,x,z,z],Wh b (pr [-2*A,x,x,z,z]),aV (.pointer (some ⟨S,1,none⟩)),aV B,aV (-8*B:Int),Wh b (-8*B),Wh b x,Wh b z,Wh b z,Wh b z,de [(-8*B),x,z,z,z],Wh b (pr [-8*B,x,z,z,z]),aV (.pointer S),aV A,aV (.pointer S),aV A,aV (A*A:Int),Wh b (A*A),Wh b z,Wh b z,Wh b z,Wh b z,de [(A*A),z,z,z,z],Wh b (pr [A*A,z,z,z,z]),de [(pr [x,x,x,x]),(pr [-2*A,x,x,z,z]),(pr [-8*B,x,z,z,z]),(pr [A*A,z,z,z,z])],Wh b (bk A B x z)] k_ k_ k_ trivial ⟨Wh.closed _ _,Wh.closed _ _,Wh.closed _ _,Wh.closed _ _,de.closed _,Wh.closed _ _,aV.closed _,aV.closed _,aV.closed _,Wh.closed _ _,Wh.closed _ _,Wh.closed _ _,Wh.closed _ _,Wh.closed _ _,de.closed _,Wh.closed _ _,aV.closed _,aV.closed _,aV.closed _,Wh.closed _ _,Wh.closed _ _,Wh.closed _ _,Wh.closed _ _,Wh.closed _ _,de.closed _,Wh.closed _ _,aV.closed _,aV.closed _,aV.closed _,aV.closed _,aV.closed _,Wh.closed _ _,Wh.closed _ _,Wh.closed _ _,Wh.closed _ _,Wh.closed _ _,de.closed _,Wh.closed _ _,de.closed _,Wh.closed _ _,trivial⟩ ⟨?_,?_,?_,?_,?_,?_,?_,?_,?_,?_,?_,?_,?_,?_,?_,?_,?_,?_,?_,?_,?_,?_,?_,?_,?_,?_,?_,?_,?_,?_,?_,?_,?_,?_,?_,?_,?_,?_,?_,?_,trivial⟩ ?_
 .exact gH
 .exact gH
 .exact gH
 .exact gH
 .refine aS.q _ r_ r_ λρ w' H=>?_;have⟨v0,e0,p0⟩:=H.dep 0 11 k_;have p0:(Wh b x) v0 w':=p0;have⟨v1,e1,p1⟩:=H.dep 1 12 k_;have p1:(Wh b x) v1 w':=p1;have⟨v2,e2,p2⟩:=H.dep 2 13 k_;have p2:(Wh b x) v2 w':=p2;have⟨v3,e3,p3⟩:=H.dep 3 14 k_;have p3:(Wh b x) v3 w':=p3;exact up _ _ _ _ _ _ _ _ rfl (by rw[e0];exact p0) (by rw[e1];exact p1) (by rw[e2];exact p2) (by rw[e3];exact p3)
 .refine aS.q _ r_ r_ λρ w' H=>?_;have⟨v4,e4,p4⟩:=H.dep 4 15 k_;have p4:(de [x,x,x,x]) v4 w':=p4;exact bl.call 338 #[v4] _ _ _ rfl (H.fn 338) (enters_of Tryz.func338 k_ rfl) (by simp [e4]) ((mV s_ (Ut.2 ⟨x1,Ut.2 ⟨x1,Ut.2 ⟨x1,Ut.2 ⟨x1,λ_ h=>mq⟩⟩⟩⟩) rfl _ w' p4).mono λe w2 ⟨v,h1,h2,h3⟩=>⟨v,h1,h3,h2.le (Ui aG H.bel.size)⟩)
 .exact nc
 .refine aS.q _ r_ r_ λρ w' H=>?_;have⟨K,e6,p6⟩:=H.dep 6 17 k_;obtain rfl:K=.pointer (some ⟨S,0,none⟩):=p6;exact jj _ rfl e6 ((kC.next H.bel).cell 0)
 .refine aS.q _ r_ r_ λρ w' H=>?_;have⟨v7,e7,p7⟩:=H.dep 7 18 k_;obtain rfl:v7=.int .i64 A:=p7;exact nM _ _ rfl (H.con _) e7 o_
 .refine aS.q _ r_ r_ λρ w' H=>?_;have⟨v8,e8,p8⟩:=H.dep 8 19 k_;obtain rfl:v8=.int .i64 (-2*A):=p8;exact bl.call 195 #[(-2*A:Int)] _ _ _ rfl (H.fn 195) (enters_of Tryz.func195 k_ rfl) (by simp [e8]) ((ft (-2*A) o_ w').mono λe w2 ⟨v,h1,h2,h3⟩=>⟨v,h1,h3,h2.le (Ui aG H.bel.size)⟩)
 .exact gH
 .exact gH
 .exact fw
 .exact fw
 .refine aS.q _ r_ r_ λρ w' H=>?_;have⟨v9,e9,p9⟩:=H.dep 9 20 k_;have p9:(Wh b (-2*A)) v9 w':=p9;have⟨c0,cm,ab⟩:=H.dep 10 21 k_;have ab:(Wh b x) c0 w':=ab;have⟨cb,c2,bv⟩:=H.dep 11 22 k_;have bv:(Wh b x) cb w':=bv;have⟨cM,c1,bq⟩:=H.dep 12 23 k_;have bq:(Wh b z) cM w':=bq;have⟨cT,cF,bX⟩:=H.dep 13 24 k_;have bX:(Wh b z) cT w':=bX;exact yx _ _ _ _ _ _ _ _ _ _ rfl (by rw[e9];exact p9) (by rw[cm];exact ab) (by rw[c2];exact bv) (by rw[c1];exact bq) (by rw[cF];exact bX)
 .refine aS.q _ r_ r_ λρ w' H=>?_;have⟨co,cy,bx⟩:=H.dep 14 25 k_;have bx:(de [(-2*A),x,x,z,z]) co w':=bx;exact bl.call 338 #[co] _ _ _ rfl (H.fn 338) (enters_of Tryz.func338 k_ rfl) (by simp [cy]) ((mV s_ (Ut.2 ⟨a2,Ut.2 ⟨x1,Ut.2 ⟨x1,Ut.2 ⟨z1,Ut.2 ⟨z1,λ_ h=>mq⟩⟩⟩⟩⟩) rfl _ w' bx).mono λe w2 ⟨v,h1,h2,h3⟩=>⟨v,h1,h3,h2.le (Ui aG H.bel.size)⟩)
 .exact uz
 .refine aS.q _ r_ r_ λρ w' H=>?_;have⟨c7,cu,b8⟩:=H.dep 16 27 k_;obtain rfl:c7=.pointer (some ⟨S,1,none⟩):=b8;exact jj _ rfl cu ((kC.next H.bel).cell 1)
 .refine aS.q _ r_ r_ λρ w' H=>?_;have⟨cA,cP,bY⟩:=H.dep 17 28 k_;obtain rfl:cA=.int .i64 B:=bY;exact nM _ _ rfl (H.con _) cP o_
 .refine aS.q _ r_ r_ λρ w' H=>?_;have⟨c3,cX,b9⟩:=H.dep 18 29 k_;obtain rfl:c3=.int .i64 (-8*B):=b9;exact bl.call 195 #[(-8*B:Int)] _ _ _ rfl (H.fn 195) (enters_of Tryz.func195 k_ rfl) (by simp [cX]) ((ft (-8*B) o_ w').mono λe w2 ⟨v,h1,h2,h3⟩=>⟨v,h1,h3,h2.le (Ui aG H.bel.size)⟩)
 .exact gH
 .exact fw
 .exact fw
 .exact fw
 .refine aS.q _ r_ r_ λρ w' H=>?_;have⟨cc,c8,bo⟩:=H.dep 19 30 k_;have bo:(Wh b (-8*B)) cc w':=bo;have⟨c5,cG,aF⟩:=H.dep 20 31 k_;have aF:(Wh b x) c5 w':=aF;have⟨ca,c6,bs⟩:=H.dep 21 32 k_;have bs:(Wh b z) ca w':=bs;have⟨ea,eT,b1⟩:=H.dep 22 33 k_;have b1:(Wh b z) ea w':=b1;have⟨eV,eG,a6⟩:=H.dep 23 34 k_;have a6:(Wh b z) eV w':=a6;exact yx _ _ _ _ _ _ _ _ _ _ rfl (by rw[c8];exact bo) (by rw[cG];exact aF) (by rw[c6];exact bs) (by rw[eT];exact b1) (by rw[eG];exact a6)
 .refine aS.q _ r_ r_ λρ w' H=>?_;have⟨dc,eU,a4⟩:=H.dep 24 35 k_;have a4:(de [(-8*B),x,z,z,z]) dc w':=a4;exact bl.call 338 #[dc] _ _ _ rfl (H.fn 338) (enters_of Tryz.func338 k_ rfl) (by simp [eU]) ((mV s_ (Ut.2 ⟨b2,Ut.2 ⟨x1,Ut.2 ⟨z1,Ut.2 ⟨z1,Ut.2 ⟨z1,λ_ h=>mq⟩⟩⟩⟩⟩) rfl _ w' a4).mono λe w2 ⟨v,h1,h2,h3⟩=>⟨v,h1,h3,h2.le (Ui aG H.bel.size)⟩)
 .exact nc
 .refine aS.q _ r_ r_ λρ w' H=>?_;have⟨dp,ed,d7⟩:=H.dep 26 37 k_;obtain rfl:dp=.pointer (some ⟨S,0,none⟩):=d7;exact jj _ rfl ed ((kC.next H.bel).cell 0)
 .exact nc
 .refine aS.q _ r_ r_ λρ w' H=>?_;have⟨d2,dx,ey⟩:=H.dep 28 39 k_;obtain rfl:d2=.pointer (some ⟨S,0,none⟩):=ey;exact jj _ rfl dx ((kC.next H.bel).cell 0)
 .refine aS.q _ r_ r_ λρ w' H=>?_;have⟨ec,ez,d1⟩:=H.dep 27 38 k_;obtain rfl:ec=.int .i64 A:=d1;have⟨dl,d9,d3⟩:=H.dep 29 40 k_;obtain rfl:dl=.int .i64 A:=d3;exact nM _ _ rfl ez d9 o_
 .refine aS.q _ r_ r_ λρ w' H=>?_;have⟨ev,eH,eB⟩:=H.dep 30 41 k_;obtain rfl:ev=.int .i64 (A*A):=eB;exact bl.call 195 #[(A*A:Int)] _ _ _ rfl (H.fn 195) (enters_of Tryz.func195 k_ rfl) (by simp [eH]) ((ft (A*A) o_ w').mono λe w2 ⟨v,h1,h2,h3⟩=>⟨v,h1,h3,h2.le (Ui aG H.bel.size)⟩)
 .exact fw
 .exact fw
 .exact fw
 .exact fw
 .refine aS.q _ r_ r_ λρ w' H=>?_;have⟨d0,dz,a1⟩:=H.dep 31 42 k_;have a1:(Wh b (A*A)) d0 w':=a1;have⟨dq,ee,bZ⟩:=H.dep 32 43 k_;have bZ:(Wh b z) dq w':=bZ;have⟨eg,dd,b5⟩:=H.dep 33 44 k_;have b5:(Wh b z) eg w':=b5;have⟨en,d5,bz⟩:=H.dep 34 45 k_;have bz:(Wh b z) en w':=bz;have⟨dy,eP,I⟩:=H.dep 35 46 k_;have I:(Wh b z) dy w':=I;exact yx _ _ _ _ _ _ _ _ _ _ rfl (by rw[dz];exact a1) (by rw[ee];exact bZ) (by rw[dd];exact b5) (by rw[d5];exact bz) (by rw[eP];exact I)
 .refine aS.q _ r_ r_ λρ w' H=>?_;have⟨c9,d4,cQ⟩:=H.dep 36 47 k_;have cQ:(de [(A*A),z,z,z,z]) c9 w':=cQ;exact bl.call 338 #[c9] _ _ _ rfl (H.fn 338) (enters_of Tryz.func338 k_ rfl) (by simp [d4]) ((mV s_ (Ut.2 ⟨aa,Ut.2 ⟨z1,Ut.2 ⟨z1,Ut.2 ⟨z1,Ut.2 ⟨z1,λ_ h=>mq⟩⟩⟩⟩⟩) rfl _ w' cQ).mono λe w2 ⟨v,h1,h2,h3⟩=>⟨v,h1,h3,h2.le (Ui aG H.bel.size)⟩)
 .refine aS.q _ r_ r_ λρ w' H=>?_;have⟨v5,e5,Z⟩:=H.dep 5 16 k_;have Z:(Wh b (pr [x,x,x,x])) v5 w':=Z;have⟨c4,cB,a8⟩:=H.dep 15 26 k_;have a8:(Wh b (pr [-2*A,x,x,z,z])) c4 w':=a8;have⟨d8,el,a3⟩:=H.dep 25 36 k_;have a3:(Wh b (pr [-8*B,x,z,z,z])) d8 w':=a3;have⟨eb,es,b4⟩:=H.dep 37 48 k_;have b4:(Wh b (pr [A*A,z,z,z,z])) eb w':=b4;exact up _ _ _ _ _ _ _ _ rfl (by rw[e5];exact Z) (by rw[cB];exact a8) (by rw[el];exact a3) (by rw[es];exact b4)
 .refine aS.q _ r_ r_ λρ w' H=>?_;have⟨da,em,b6⟩:=H.dep 38 49 k_;have b6:(de [(pr [x,x,x,x]),(pr [-2*A,x,x,z,z]),(pr [-8*B,x,z,z,z]),(pr [A*A,z,z,z,z])]) da w':=b6;exact bl.call 337 #[da] _ _ _ rfl (H.fn 337) (enters_of Tryz.func337 k_ rfl) (by simp [em]) ((hM.out _ w' b6).mono λe w2 ⟨v,h1,h2,h3⟩=>⟨v,h1,h3,h2.le (Ui aG H.bel.size)⟩)
 intro vs Wt aM bb;have db:(Wh b (bk A B x z)) (vs 39) Wt:=bb.1 39 o_;simp only[ew,Nat.reduceBEq,VK,VD,Nat.reduceAdd,UI,U0];have⟨cv,a5,ac,aL⟩:=db.cell;obtain⟨F,G,rfl,_⟩:=id ac.1;simp only[a5];replace V:=V.next aM
 have⟨x0,x1⟩:=V.q2;have x2:=V.frozen 0;have x3:=V.frozen 1;have k9:bt b (S+2) (bk A B x z) ((Wt.setCell ⟨S+2,0,none⟩ (decide (bk A B x z<0))).setCell ⟨S+2,1,none⟩ (.slice F (dg (bk A B x z).natAbs).length G)):=bt.put V rfl ac aL;have ad:Below S w ((Wt.setCell ⟨S+2,0,none⟩ (decide (bk A B x z<0))).setCell ⟨S+2,1,none⟩ (.slice F (dg (bk A B x z).natAbs).length G)):=((af aM a9 J).setCell s_ _).setCell s_ _;have k8:=(V.set 0 (decide (bk A B x z<0))).set 1 (.slice F (dg (bk A B x z).natAbs).length G);have r9:aW ((Wt.setCell ⟨S+2,0,none⟩ (decide (bk A B x z<0))).setCell ⟨S+2,1,none⟩ (.slice F (dg (bk A B x z).natAbs).length G)) b (.slice F (dg (bk A B x z).natAbs).length G) (dg (bk A B x z).natAbs):=ac.far d_ V (ke _ _ _ _);go_wp2;generalize (World.setCell (World.setCell _ _ _) _ _)=w9 at *;have⟨q0,q1⟩:=k8.q2;exact Uh (v:=.agg #[decide (bk A B x z<0),(.slice F (dg (bk A B x z).natAbs).length G)]) (by simp [results,Tryz.results341,go_sem,q0,q1]) rfl uG
def wn(A B x z:Int)(b:Nat)(lx lz:Value)(hA:bj A)(hB:a_ B)(zx:Sz 80 x)(zz:Sz 80 z)(w:World)(hb:b<=w.heap.size)(aZ:aW w b lx (dg x.natAbs))(ba:aW w b lz (dg z.natAbs)):
 Kp 306 #[.agg #[A,B],.agg #[decide (x<0),lx,decide (z<0),lz]] w (wf b (aT A B x z) w):=by
 obtain⟨kC,kT,V,J⟩:=pW w #[A,B] 42 #[decide (x<0),lx,decide (z<0),lz] 209 #[false,.slice none 0 0] 182;have b3:(((w.alloc (.cells #[A,B] 42)).alloc (.cells #[decide (x<0),lx,decide (z<0),lz] 209)).alloc (.cells #[false,.slice none 0 0] 182)).heap.size=w.heap.size+3:=s_;have rx:=aZ.below J;have rz:=ba.below J;obtain⟨ax,cx,rfl,_⟩:=id aZ.1;obtain⟨az,cz,rfl,_⟩:=id ba.1;clear aZ ba;simp at kT V;have x1:Sz 1000 x:=zx.mono o_;have z1:Sz 1000 z:=zz.mono o_;have a1:Sz 1000 A:=(Sz.of1 o_ o_).mono o_;have b1:Sz 1000 B:=(Sz.of4 o_ o_).mono o_;obtain⟨I,hI⟩:∃I,sm [pr [x,x,x],pr [A,x,z,z],pr [B,z,z,z]]=I:=⟨_,rfl⟩
 have bZ:I=x*x*x+x*(z*z)*A+z*(z*z)*B:=by rw[<-hI];simp only[sm,pr];grind
 have zI:Sz 1000 I:=by
  rw[bZ];exact (((((zx.mul zx).mul zx).mono (n:=300) o_).add (((zx.mul (zz.mul zz)).mul (Sz.of1 (x:=A) o_ o_)).mono (n:=300) o_)).add (((zz.mul (zz.mul zz)).mul (Sz.of4 (x:=B) o_ o_)).mono (n:=301) o_)).mono o_
 have hM:Hid (∀v w,jr w v [pr [x,x,x],pr [A,x,z,z],pr [B,z,z,z]]->Kp 337 #[v] w (dG I w)):=CH s_ (by
  simp only[Ut];exact⟨oA s_ (by simp [x1]),oA s_ (by simp [x1,z1,a1]),oA s_ (by simp [z1,b1]),λ_ h=>by cases h⟩) hI
 have h4:Sz 1000 4:=(Sz.of1 o_ o_).mono o_;have hP:Hid (∀v w,jr w v [4,z,I]->Kp 338 #[v] w (dG (aT A B x z) w)):=mV s_ (by simp [h4,z1,zI]) (by simp only[pr,aT];rw[bZ];grind);clear hI bZ zI;clear zx zz;obtain⟨S,hS⟩:∃S,w.heap.size=S:=⟨_,rfl⟩
 go_enter Tryz.func306,Tryz.ntmps306;go_upto_region 1 with fail
 generalize ((w.alloc _).alloc _).alloc _=W at *;rw[hS] at kC kT V J b3 hb;have HS:=h_ hS;clear hS;have aG:b<=W.heap.size:=o_;have a9:S<=W.heap.size:=o_;clear b3;obtain⟨t0,t1,t2,t3⟩:=kT.q4;have t4:=kT.lt;apply sL (λr5 r6 Wz=>ah [] W Wz/\(λ_=>True) Wz/\W.heap.size<=r5/\W.heap.size<=r6/\r6≠r5/\ag r5 #[decide (x<0),.slice ax (dg x.natAbs).length cx] 182 Wz/\ag r6 #[decide (z<0),.slice az (dg z.natAbs).length cz] 182 Wz)
 .exact vZ
 rintro r5 r6 W2 ⟨bi,_,h5,h6,d5,k5,U⟩;have g:Below W.heap.size W W2:=bi.below;have kx:bt b r5 x W2:=⟨_,k5,rx.below g,rfl⟩
 have kz:bt b r6 z W2:=⟨_,U,rz.below g,rfl⟩
 replace kC:=kC.next g
 replace V:=V.next g
 replace J:Below S w _:=af g a9 J;replace aG:=Ui aG g.size;replace a9:=Ui a9 g.size;clear bi k5 U rx rz t0 t1 t2 t3 t4 kT g;go_upto_region 2 with fail
 refine iZ 24 [23] [(23,7),(0,12),(1,13),(2,14),(3,15),(4,16),(5,17),(6,18),(7,19),(8,20),(9,21),(10,22),(11,23),(12,24),(13,25),(14,26),(15,27),(16,28),(17,29),(18,30),(19,31),(20,32),(21,33),(22,34)] [Wh b x,Wh b x,Wh b x,de [x,x,x],Wh b (pr [x,x,x]),aV (.pointer (some ⟨S,0,none⟩)),aV A,Wh b A,Wh b x,Wh b z,Wh b z,de [A,x,z,z],Wh b (pr [A,x,z,z]),aV (.pointer (some ⟨S,1,none⟩)),aV B,Wh b B,Wh b z,Wh b z,Wh b z,de [B,z,z,z],Wh b (pr [B,z,z,z]),de [(pr [x,x,x]),(pr [A,x,z,z]),(pr [B,z,z,z])],Wh b I,PA W2.heap.size #[false,.slice none 0 0] 182] k_ k_ k_ ⟨⟨_,_,_,rfl⟩,trivial⟩ ⟨Wh.closed _ _,Wh.closed _ _,Wh.closed _ _,de.closed _,Wh.closed _ _,aV.closed _,aV.closed _,Wh.closed _ _,Wh.closed _ _,Wh.closed _ _,Wh.closed _ _,de.closed _,Wh.closed _ _,aV.closed _,aV.closed _,Wh.closed _ _,Wh.closed _ _,Wh.closed _ _,Wh.closed _ _,de.closed _,Wh.closed _ _,de.closed _,Wh.closed _ _,PA.closed _ _ _,trivial⟩ ⟨?_,?_,?_,?_,?_,?_,?_,?_,?_,?_,?_,?_,?_,?_,?_,?_,?_,?_,?_,?_,?_,?_,?_,?_,trivial⟩ ?_
 .exact gH
 .exact gH
 .exact gH
 .refine aS.q _ r_ r_ λρ w' H=>?_;obtain⟨v0,e0,p0⟩:=H.dep 0 12 k_;have p0:(Wh b x) v0 w':=p0;have⟨v1,e1,p1⟩:=H.dep 1 13 k_;have p1:(Wh b x) v1 w':=p1;have⟨v2,e2,p2⟩:=H.dep 2 14 k_;have p2:(Wh b x) v2 w':=p2;exact JB
 .refine aS.q _ r_ r_ λρ w' H=>?_;have⟨v3,e3,p3⟩:=H.dep 3 15 k_;have p3:(de [x,x,x]) v3 w':=p3;exact bl.call 338 #[v3] _ _ _ rfl (H.fn 338) (enters_of Tryz.func338 k_ rfl) (by simp [e3]) ((mV s_ (Ut.2 ⟨x1,Ut.2 ⟨x1,Ut.2 ⟨x1,λ_ h=>mq⟩⟩⟩) rfl _ w' p3).mono λe w2 ⟨v,h1,h2,h3⟩=>⟨v,h1,h3,h2.le (Ui aG H.bel.size)⟩)
 .exact nc
 .refine aS.q _ r_ r_ λρ w' H=>?_;have⟨v5,e5,Z⟩:=H.dep 5 17 k_;exact Ab
 .refine aS.q _ r_ r_ λρ w' H=>?_;have⟨K,e6,p6⟩:=H.dep 6 18 k_;obtain rfl:K=.int .i64 A:=p6;exact bl.call 195 #[A] _ _ _ rfl (H.fn 195) (enters_of Tryz.func195 k_ rfl) (by simp [e6]) ((ft A o_ w').mono λe w2 ⟨v,h1,h2,h3⟩=>⟨v,h1,h3,h2.le (Ui aG H.bel.size)⟩)
 .exact gH
 .exact fw
 .exact fw
 .refine aS.q _ r_ r_ λρ w' H=>?_;have⟨v7,e7,p7⟩:=H.dep 7 19 k_;have p7:(Wh b A) v7 w':=p7;have⟨v8,e8,p8⟩:=H.dep 8 20 k_;have p8:(Wh b x) v8 w':=p8;have⟨v9,e9,p9⟩:=H.dep 9 21 k_;have p9:(Wh b z) v9 w':=p9;have⟨c0,cm,ab⟩:=H.dep 10 22 k_;have ab:(Wh b z) c0 w':=ab;exact up _ _ _ _ _ _ _ _ rfl (by rw[e7];exact p7) (by rw[e8];exact p8) (by rw[e9];exact p9) (by rw[cm];exact ab)
 .refine aS.q _ r_ r_ λρ w' H=>?_;have⟨cb,c2,bv⟩:=H.dep 11 23 k_;have bv:(de [A,x,z,z]) cb w':=bv;exact bl.call 338 #[cb] _ _ _ rfl (H.fn 338) (enters_of Tryz.func338 k_ rfl) (by simp [c2]) ((mV s_ (Ut.2 ⟨a1,Ut.2 ⟨x1,Ut.2 ⟨z1,Ut.2 ⟨z1,λ_ h=>mq⟩⟩⟩⟩) rfl _ w' bv).mono λe w2 ⟨v,h1,h2,h3⟩=>⟨v,h1,h3,h2.le (Ui aG H.bel.size)⟩)
 .exact uz
 .refine aS.q _ r_ r_ λρ w' H=>?_;have⟨cT,cF,bX⟩:=H.dep 13 25 k_;obtain rfl:cT=.pointer (some ⟨S,1,none⟩):=bX;exact jj _ rfl cF ((kC.next H.bel).cell 1)
 .refine aS.q _ r_ r_ λρ w' H=>?_;have⟨co,cy,bx⟩:=H.dep 14 26 k_;obtain rfl:co=.int .i64 B:=bx;exact bl.call 195 #[B] _ _ _ rfl (H.fn 195) (enters_of Tryz.func195 k_ rfl) (by simp [cy]) ((ft B o_ w').mono λe w2 ⟨v,h1,h2,h3⟩=>⟨v,h1,h3,h2.le (Ui aG H.bel.size)⟩)
 .exact fw
 .exact fw
 .exact fw
 .refine aS.q _ r_ r_ λρ w' H=>?_;have⟨c4,cB,a8⟩:=H.dep 15 27 k_;have a8:(Wh b B) c4 w':=a8;have⟨c7,cu,b8⟩:=H.dep 16 28 k_;have b8:(Wh b z) c7 w':=b8;have⟨cA,cP,bY⟩:=H.dep 17 29 k_;have bY:(Wh b z) cA w':=bY;have⟨c3,cX,b9⟩:=H.dep 18 30 k_;have b9:(Wh b z) c3 w':=b9;exact up _ _ _ _ _ _ _ _ rfl (by rw[cB];exact a8) (by rw[cu];exact b8) (by rw[cP];exact bY) (by rw[cX];exact b9)
 .refine aS.q _ r_ r_ λρ w' H=>?_;have⟨cc,c8,bo⟩:=H.dep 19 31 k_;have bo:(de [B,z,z,z]) cc w':=bo;exact bl.call 338 #[cc] _ _ _ rfl (H.fn 338) (enters_of Tryz.func338 k_ rfl) (by simp [c8]) ((mV s_ (Ut.2 ⟨b1,Ut.2 ⟨z1,Ut.2 ⟨z1,Ut.2 ⟨z1,λ_ h=>mq⟩⟩⟩⟩) rfl _ w' bo).mono λe w2 ⟨v,h1,h2,h3⟩=>⟨v,h1,h3,h2.le (Ui aG H.bel.size)⟩)
 .refine aS.q _ r_ r_ λρ w' H=>?_;have⟨v4,e4,p4⟩:=H.dep 4 16 k_;have p4:(Wh b (pr [x,x,x])) v4 w':=p4;have⟨cM,c1,bq⟩:=H.dep 12 24 k_;have bq:(Wh b (pr [A,x,z,z])) cM w':=bq;have⟨c5,cG,aF⟩:=H.dep 20 32 k_;have aF:(Wh b (pr [B,z,z,z])) c5 w':=aF;exact EI _ _ _ _ _ _ rfl (by rw[e4];exact p4) (by rw[c1];exact bq) (by rw[cG];exact aF)
 .refine aS.q _ r_ r_ λρ w' H=>?_;have⟨ca,c6,bs⟩:=H.dep 21 33 k_;have bs:(de [(pr [x,x,x]),(pr [A,x,z,z]),(pr [B,z,z,z])]) ca w':=bs;exact bl.call 337 #[ca] _ _ _ rfl (H.fn 337) (enters_of Tryz.func337 k_ rfl) (by simp [c6]) ((hM.out _ w' bs).mono λe w2 ⟨v,h1,h2,h3⟩=>⟨v,h1,h3,h2.le (Ui aG H.bel.size)⟩)
 .exact kl
 intro vs Wt aM bb;have b2:(Wh b I) (vs 22) Wt:=bb.1 22 o_;have aa:(PA W2 #[false,.slice none 0 0] 182) (vs 23) Wt:=bb.1 23 o_;have⟨r7,b6,a3,a2⟩:=aa;simp only[ew,Nat.reduceBEq,VK,VD,Nat.reduceAdd,UI,U0,b6];have⟨dd,b5,bz,b4⟩:=b2.cell;obtain⟨a6,a4,rfl,_⟩:=id bz.1;simp only[b5];have⟨x0,x1⟩:=a2.q2;have x2:=a2.frozen 0;have x3:=a2.frozen 1;have x4:=a2.lt;have kI:=bt.put a2 rfl bz b4;have g:Below W2 W2 ((Wt.setCell r7 (decide (I<0))).setCell ⟨r7,1,none⟩ (.slice a6 (dg I.natAbs).length a4)):=(aM.setCell a3 _).setCell a3 _;replace V:=V.next g
 replace kx:=kx.next g
 replace kz:=kz.next g
 replace J:Below S w _:=af g a9 J;replace aG:=Ui aG g.size;replace a9:=Ui a9 g.size;go_upto_region 3 with fail
 generalize (World.setCell (World.setCell _ _ _) _ _)=W3 at *;refine iZ 5 [] [(0,35),(1,36),(2,37),(3,38),(4,39)] [Wh b 4,Wh b z,Wh b I,de [4,z,I],Wh b (aT A B x z)] k_ k_ k_ trivial ⟨Wh.closed _ _,Wh.closed _ _,Wh.closed _ _,de.closed _,Wh.closed _ _,trivial⟩ ⟨?_,?_,?_,?_,?_,trivial⟩ ?_
 .exact aS.q _ r_ r_ λρ w' H=>bl.call 195 #[(Value.int IntKind.i64 4)] _ _ _ rfl (H.fn 195) (enters_of Tryz.func195 k_ rfl) (by simp [H.con]) ((ft 4 o_ w').mono λe w2 ⟨v,h1,h2,h3⟩=>⟨v,h1,h3,h2.le (Ui aG H.bel.size)⟩)
 .exact fw
 .refine aS.q _ r_ r_ λρ w' H=>?_;have hx:ρ (.tmp 7)=.pointer r7:=H.bas 7 k_;exact lu _ rfl hx (kI.next H.bel)
 .refine aS.q _ r_ r_ λρ w' H=>?_;have⟨v0,e0,p0⟩:=H.dep 0 35 k_;have p0:(Wh b 4) v0 w':=p0;have⟨v1,e1,p1⟩:=H.dep 1 36 k_;have p1:(Wh b z) v1 w':=p1;have⟨v2,e2,p2⟩:=H.dep 2 37 k_;have p2:(Wh b I) v2 w':=p2;exact JB
 .refine aS.q _ r_ r_ λρ w' H=>?_;have⟨v3,e3,p3⟩:=H.dep 3 38 k_;have p3:(de [4,z,I]) v3 w':=p3;exact bl.call 338 #[v3] _ _ _ rfl (H.fn 338) (enters_of Tryz.func338 k_ rfl) (by simp [e3]) ((hP.out _ w' p3).mono λe w2 ⟨v,h1,h2,h3⟩=>⟨v,h1,h3,h2.le (Ui aG H.bel.size)⟩)
 intro vs Wt aM bb;have cQ:(Wh b (aT A B x z)) (vs 4) Wt:=bb.1 4 o_;simp only[ew,Nat.reduceBEq,VK,VD,Nat.reduceAdd,UI,U0];obtain⟨cv,a5,ac,aL⟩:=cQ.cell;obtain⟨F,G,rfl,_⟩:=id ac.1;simp only[a5];replace V:=V.next aM
 have c9:=V.lt;obtain⟨x0,x1⟩:=V.q2;have x2:=V.frozen 0;have x3:=V.frozen 1;have k9:bt b (S+2) (aT A B x z) ((Wt.setCell ⟨S+2,0,none⟩ (decide (aT A B x z<0))).setCell ⟨S+2,1,none⟩ (.slice F (dg (aT A B x z).natAbs).length G)):=bt.put V rfl ac aL;have ad:Below S w ((Wt.setCell ⟨S+2,0,none⟩ (decide (aT A B x z<0))).setCell ⟨S+2,1,none⟩ (.slice F (dg (aT A B x z).natAbs).length G)):=((af aM a9 J).setCell s_ _).setCell s_ _;have k8:=(V.set 0 (decide (aT A B x z<0))).set 1 (.slice F (dg (aT A B x z).natAbs).length G);have r9:aW ((Wt.setCell ⟨S+2,0,none⟩ (decide (aT A B x z<0))).setCell ⟨S+2,1,none⟩ (.slice F (dg (aT A B x z).natAbs).length G)) b (.slice F (dg (aT A B x z).natAbs).length G) (dg (aT A B x z).natAbs):=ac.far d_ V (ke _ _ _ _);clear cQ aM V a5 ac aL J k9;go_wp2;generalize (World.setCell (World.setCell _ _ _) _ _)=w9 at *;obtain⟨q0,q1⟩:=k8.q2;refine Uh (v:=.agg #[decide (aT A B x z<0),(.slice F (dg (aT A B x z).natAbs).length G)]) (by simp [results,Tryz.results306,go_sem,q0,q1]) rfl ?_;exact uG
def IC(h:P:=by
 have p0:(Wh b x) v0 w':=p0;exact bl.call 315 #[v0] _ _ _ rfl (H.fn 315) (enters_of Tryz.func315 k_ rfl) (by simp [e0]) ((qn x v0 x1 w' p0.rd).mono λe w2 ⟨v,h1,h2,h3⟩=>⟨v,h1,h3,h2.le (Ui aG H.bel.size)⟩)):=h
def Hi(h:P:=by
 refine aS.q _ r_ r_ λρ w' H=>?_;have hx:ρ (.tmp 7)=.pointer (some ⟨r7,0,none⟩):=H.bas 7 k_;exact lu _ rfl hx (b2.next H.bel)):=h
def ID(h:P:=by
 refine aS.q _ r_ r_ λρ w' H=>?_;have hx:ρ (.tmp 7)=.pointer (some ⟨r7,0,none⟩):=H.bas 7 k_;exact lu _ rfl hx (bo.next H.bel)):=h
def zd(h:P:=by
 refine aS.q _ r_ r_ λρ w' H=>?_;have hx:ρ (.tmp 8)=.pointer (some ⟨r8,0,none⟩):=H.bas 8 k_;exact lu _ rfl hx (bo.next H.bel)):=h
def JC(h:P:=by
 refine aS.q _ r_ r_ λρ w' H=>?_;have hx:ρ (.tmp 8)=.pointer (some ⟨r8,0,none⟩):=H.bas 8 k_;exact lu _ rfl hx (kO.next H.bel)):=h
def EU(h:P:=by
 refine aS.q _ r_ r_ λρ w' H=>?_;have hx:ρ (.tmp 9)=.pointer (some ⟨r9,0,none⟩):=H.bas 9 k_;exact lu _ rfl hx (kO.next H.bel)):=h
def nf{M N K:Int}(hM:Sz 1000 M)(hN:Sz 1000 N)(he:M*N=K)(a b:Value)(w:World)(ha:bm M a w)(hb:bm N b w):Kp 317 #[a,b] w (dG K w):=he▸D0 M N a b (Ui hM.len o_) (Ui hN.len o_) w ha hb
def GW{M N K:Int}(hM:Sz 1000 M)(hN:Sz 1000 N)(he:M - N=K)(a b:Value)(w:World)(ha:bm M a w)(hb:bm N b w):Kp 349 #[a,b] w (dG K w):=by
 have h:=DR M N a b (Ui hM.len o_) (Ui hN.len o_) w ha hb;rw[<-XL,he] at h;exact h
def zv{M N K:Int}(hM:Sz 1000 M)(hN:Sz 1000 N)(he:M+N=K)(a b:Value)(w:World)(ha:bm M a w)(hb:bm N b w):Kp 316 #[a,b] w (dG K w):=he▸Eh M N a b (Ui hM.len o_) (Ui hN.len o_) w ha hb
def oY{M n K:Int}(hM:Sz 1000 M)(hn:-1000000000000000000<=n/\n<=1000000000000000000)(he:M*n=K)(a:Value)(w:World)(ha:bm M a w):Kp 318 #[a,n] w (dG K w):=he▸PK M n a (Ui hM.len o_) hn w ha
def qn(M:Int)(a:Value)(hM:Sz 1000 M)(w:World)(ha:bm M a w):
 Kp 315 #[a] w (dG (M*M) w):=by
 have HW:=h_ ha;obtain⟨la,rfl,a3⟩:=ha;obtain⟨kA,kS,J⟩:=cr w #[decide (M<0),la] 182 #[false,.slice none 0 0] 182;have a6:=J.size;obtain⟨ax,cx,rfl,_,_⟩:=a3;have HT:=h_ (λW (hb:Below w.heap.size w W)=>nf hM hM rfl _ _ W (bm.below HW.out hb) (bm.below HW.out hb));obtain⟨K,hK⟩:∃K,M*M=K:=⟨_,rfl⟩
 rw[hK] at HT ⊢;generalize decide (M<0)=sa at *;generalize (dg M.natAbs).length=nx at *;clear hK;go_enter Tryz.func315,Tryz.ntmps315;go_upto_region 1 with fail
 generalize (w.alloc _).alloc _=W at *;generalize cs:w.heap.size+1=rs at *;obtain⟨a0,a1⟩:=kA.q2;go_wp2_with fail
 refine (HT.out W J).mono ?_;rintro e w1 ⟨v,rfl,a8,I⟩;obtain⟨lv,rfl,Z⟩:=a8;obtain⟨sl,H,rfl,_⟩:=id Z.1;have aZ:=kS.next I
 obtain⟨c0,c1⟩:=aZ.q2;have z0:=aZ.frozen 0;have z1:=aZ.frozen 1;have aL:Below w.heap.size w w1:=af I a6 J;have k9:=(aZ.set 0 (decide (K<0))).set 1 (.slice sl (dg K.natAbs).length H);have ad:Below w.heap.size w ((w1.setCell ⟨rs,0,none⟩ (decide (K<0))).setCell ⟨rs,1,none⟩ (.slice sl (dg K.natAbs).length H)):=(aL.setCell u_ _).setCell u_ _;have az:=Z.set2 (S:=rs) kS.lt (decide (K<0)) (.slice sl (dg K.natAbs).length H);replace az:aW _ w.heap.size _ _:=az.le a6;clear HT Z;go_wp2;generalize (World.setCell (World.setCell _ _ _) _ _)=w9 at ad k9 az ⊢;obtain⟨q0,q1⟩:=k9.q2;refine Uh (v:=.agg #[decide (K<0),.slice sl (dg K.natAbs).length H]) (by simp [results,Tryz.results315,go_sem,q0,q1]) rfl ?_;exact⟨_,rfl,⟨_,rfl,az⟩,ad⟩
def Rm(A B x z:Int)(b:Nat)(lx lz:Value)(hA:bj A)(hB:a_ B)(zx:Sz 80 x)(zz:Sz 80 z)(w:World)(hb:b<=w.heap.size)(aZ:aW w b lx (dg x.natAbs))(ba:aW w b lz (dg z.natAbs)):
 Kp 319 #[.agg #[A,B],.agg #[decide (x<0),lx,decide (z<0),lz]] w (wf b (bk A B x z) w):=by
 obtain⟨kC,kT,V,J⟩:=pW w #[A,B] 42 #[decide (x<0),lx,decide (z<0),lz] 209 #[false,.slice none 0 0] 182;have b3:(((w.alloc (.cells #[A,B] 42)).alloc (.cells #[decide (x<0),lx,decide (z<0),lz] 209)).alloc (.cells #[false,.slice none 0 0] 182)).heap.size=w.heap.size+3:=s_;have rx:=aZ.below J;have rz:=ba.below J;obtain⟨ax,cx,rfl,_⟩:=id aZ.1;obtain⟨az,cz,rfl,_⟩:=id ba.1;clear aZ ba;simp only[Uq] at kT V;have x1:Sz 1000 x:=zx.mono o_;have z1:Sz 1000 z:=zz.mono o_;have a1:Sz 1000 A:=(Sz.of1 o_ o_).mono o_;have b1:Sz 1000 B:=(Sz.of4 o_ o_).mono o_;have cG:Sz 1000 (x*x):=(zx.mul zx).mono o_;have cm:Sz 1000 (z*z):=(zz.mul zz).mono o_;have sxz:Sz 1000 (x*z):=(zx.mul zz).mono o_;have q1:Sz 1000 (x*x*(x*x)):=((zx.mul zx).mul (zx.mul zx)).mono o_;have q2:Sz 1000 (x*x*(z*z)):=((zx.mul zx).mul (zz.mul zz)).mono o_;have q3:Sz 1000 (x*z*(z*z)):=((zx.mul zz).mul (zz.mul zz)).mono o_;have q4:Sz 1000 (z*z*(z*z)):=((zz.mul zz).mul (zz.mul zz)).mono o_;have p2:Sz 1000 (x*x*(z*z)*(2*A)):=(((zx.mul zx).mul (zz.mul zz)).mul (Sz.of1 (x:=2*A) o_ o_)).mono o_;have p3:Sz 1000 (x*z*(z*z)*(8*B)):=(((zx.mul zz).mul (zz.mul zz)).mul (Sz.of4 (x:=8*B) o_ o_)).mono o_;have d6:=aJ (x:=A) (y:=A) 1000 1000 hA hA;have p4:Sz 1000 (z*z*(z*z)*(A*A)):=(((zz.mul zz).mul (zz.mul zz)).mul (Sz.of4 (x:=A*A) o_ o_)).mono o_;obtain⟨O1,bi⟩:∃O1,x*x*(x*x) - x*x*(z*z)*(2*A)=O1:=⟨_,rfl⟩
 obtain⟨I,bv⟩:∃I,O1 - x*z*(z*z)*(8*B)=I:=⟨_,rfl⟩
 have ab:I+z*z*(z*z)*(A*A)=bk A B x z:=by rw[<-bv,<-bi];rfl
 have s1:Sz 330 O1:=by
  rw[<-bi];exact ((((zx.mul zx).mul (zx.mul zx)).mono (n:=325) o_).sub ((((zx.mul zx).mul (zz.mul zz)).mul (Sz.of1 (x:=2*A) o_ o_)).mono (n:=325) o_)).mono o_
 have s2:Sz 331 I:=by
  rw[<-bv];exact s1.sub ((((zx.mul zz).mul (zz.mul zz)).mul (Sz.of4 (x:=8*B) o_ o_)).mono (n:=330) o_)
 replace s1:Sz 1000 O1:=s1.mono o_;replace s2:Sz 1000 I:=s2.mono o_;have E1:=h_ bi;have E2:=h_ bv;have E3:=h_ ab;clear bi bv ab;clear zx zz;obtain⟨S,hS⟩:∃S,w.heap.size=S:=⟨_,rfl⟩
 go_enter Tryz.func319,Tryz.ntmps319;go_upto_region 1 with fail
 generalize ((w.alloc _).alloc _).alloc _=W at *;rw[hS] at kC kT V J b3 hb;have HS:=h_ hS;clear hS;have aG:b<=W.heap.size:=o_;have a9:S<=W.heap.size:=o_;clear b3;obtain⟨t0,t1,t2,t3⟩:=kT.q4;have t4:=kT.lt;apply sL (λr5 r6 Wz=>ah [] W Wz/\(λ_=>True) Wz/\W.heap.size<=r5/\W.heap.size<=r6/\r6≠r5/\ag r5 #[decide (x<0),.slice ax (dg x.natAbs).length cx] 182 Wz/\ag r6 #[decide (z<0),.slice az (dg z.natAbs).length cz] 182 Wz)
 .exact vZ
 try dsimp only
 rintro r5 r6 W2 ⟨bi,_,h5,h6,d5,k5,U⟩;have g:Below W.heap.size W W2:=bi.below;have kx:bt b r5 x W2:=⟨_,k5,rx.below g,rfl⟩
 have kz:bt b r6 z W2:=⟨_,U,rz.below g,rfl⟩
 replace kC:=kC.next g
 replace V:=V.next g
 replace J:Below S w _:=af g a9 J;replace aG:=Ui aG g.size;replace a9:=Ui a9 g.size;clear bi k5 U rx rz t0 t1 t2 t3 t4 kT g;go_upto_region 2 with fail
 refine iZ 6 [4,5] [(4,7),(5,8),(0,14),(1,15),(2,16),(3,17)] [Wh b x,Wh b (x*x),Wh b z,Wh b (z*z),PA W2.heap.size #[false,.slice none 0 0] 182,PA W2.heap.size #[false,.slice none 0 0] 182] k_ k_ k_ ⟨⟨_,_,_,rfl⟩,⟨_,_,_,rfl⟩,trivial⟩ ⟨Wh.closed _ _,Wh.closed _ _,Wh.closed _ _,Wh.closed _ _,PA.closed _ _ _,PA.closed _ _ _,trivial⟩ ⟨?_,?_,?_,?_,?_,?_,trivial⟩ ?_
 .exact gH
 .refine aS.q _ r_ r_ λρ w' H=>?_;obtain⟨v0,e0,p0⟩:=H.dep 0 14 k_;exact IC
 .exact fw
 .refine aS.q _ r_ r_ λρ w' H=>?_;obtain⟨v2,e2,p2⟩:=H.dep 2 16 k_;have p2:(Wh b z) v2 w':=p2;exact bl.call 315 #[v2] _ _ _ rfl (H.fn 315) (enters_of Tryz.func315 k_ rfl) (by simp [e2]) ((qn z v2 z1 w' p2.rd).mono λe w2 ⟨v,h1,h2,h3⟩=>⟨v,h1,h3,h2.le (Ui aG H.bel.size)⟩)
 .exact kl
 .exact kl
 intro vs Wt aM bb;have cF:(Wh b (x*x)) (vs 1) Wt:=bb.1 1 o_;have cu:(Wh b (z*z)) (vs 3) Wt:=bb.1 3 o_;have cQ:(PA W2.heap.size #[false,.slice none 0 0] 182) (vs 4) Wt:=bb.1 4 o_;have cX:(PA W2.heap.size #[false,.slice none 0 0] 182) (vs 5) Wt:=bb.1 5 o_;obtain⟨r7,b6,a3,a2⟩:=cQ;obtain⟨r8,cP,cc,a8⟩:=cX;have cb:r8≠r7:=λh=>bb.2 5 4 o_ o_ o_ s_ s_ (by rw[cP,b6,h]);clear bb;simp only[ew,Nat.reduceBEq,VK,VD,Nat.reduceAdd,UI,U0,b6,cP];obtain⟨dd,b5,bz,b4⟩:=cF.cell;obtain⟨a6,a4,rfl,_⟩:=id bz.1;simp only[b5];obtain⟨d1,cM,bZ,cT⟩:=cu.cell;obtain⟨bX,bY,rfl,_⟩:=id bZ.1;simp only[cM];obtain⟨x0,x1⟩:=a2.q2;have x2:=a2.frozen 0;have x3:=a2.frozen 1;have x4:=a2.lt;obtain⟨y0,y1⟩:=a8.q2;have y2:=a8.frozen 0;have y3:=a8.frozen 1;have y4:=a8.lt;have b2:bt b r7 (x*x) ((Wt.setCell ⟨r7,0,none⟩ (decide (x*x<0))).setCell ⟨r7,1,none⟩ (.slice a6 (dg (x*x).natAbs).length a4)):=bt.put a2 rfl bz b4;have kk:=(a8.far (p:=⟨r7,0,none⟩) cb (decide (x*x<0))).far (p:=⟨r7,1,none⟩) cb (.slice a6 (dg (x*x).natAbs).length a4);have bx:Below W2.heap.size W2 ((Wt.setCell ⟨r7,0,none⟩ (decide (x*x<0))).setCell ⟨r7,1,none⟩ (.slice a6 (dg (x*x).natAbs).length a4)):=(aM.setCell a3 _).setCell a3 _;have b9:aW ((Wt.setCell ⟨r7,0,none⟩ (decide (x*x<0))).setCell ⟨r7,1,none⟩ (.slice a6 (dg (x*x).natAbs).length a4)) b (.slice bX (dg (z*z).natAbs).length bY) (dg (z*z).natAbs):=bZ.far d_ a2 (ke _ _ _ _);replace b2:=b2.far (Ne.symm cb) kk (decide (z*z<0)) (.slice bX (dg (z*z).natAbs).length bY);have bo:bt b r8 (z*z) ((((Wt.setCell ⟨r7,0,none⟩ (decide (x*x<0))).setCell ⟨r7,1,none⟩ (.slice a6 (dg (x*x).natAbs).length a4)).setCell ⟨r8,0,none⟩ (decide (z*z<0))).setCell ⟨r8,1,none⟩ (.slice bX (dg (z*z).natAbs).length bY)):=bt.put kk rfl b9 cT;have g:Below W2.heap.size W2 ((((Wt.setCell ⟨r7,0,none⟩ (decide (x*x<0))).setCell ⟨r7,1,none⟩ (.slice a6 (dg (x*x).natAbs).length a4)).setCell ⟨r8,0,none⟩ (decide (z*z<0))).setCell ⟨r8,1,none⟩ (.slice bX (dg (z*z).natAbs).length bY)):=(bx.setCell (p:=⟨r8,0,none⟩) cc _).setCell (p:=⟨r8,1,none⟩) cc _;replace V:=V.next g
 replace kC:=kC.next g
 replace kx:=kx.next g
 replace kz:=kz.next g
 replace J:Below S w _:=af g a9 J;replace aG:=Ui aG g.size;replace a9:=Ui a9 g.size;clear cF cu aM a2 a8 b5 bz b4 cM bZ cT kk bx b9;go_upto_region 3 with fail
 generalize (World.setCell (World.setCell (World.setCell (World.setCell _ _ _) _ _) _ _) _ _)=W3 at *;clear x0 x1 x2 x3 x4 y0 y1 y2 y3 y4 g a3 cc;refine iZ 11 [10] [(10,9),(0,18),(1,19),(2,20),(3,21),(4,22),(5,23),(6,24),(7,25),(8,26),(9,27)] [Wh b (x*x),Wh b (x*x*(x*x)),Wh b (x*x),Wh b (z*z),Wh b (x*x*(z*z)),aV (.pointer (some ⟨S,0,none⟩)),aV A,aV (2*A:Int),Wh b (x*x*(z*z)*(2*A)),Wh b O1,PA W3.heap.size #[false,.slice none 0 0] 182] k_ k_ k_ ⟨⟨_,_,_,rfl⟩,trivial⟩ ⟨Wh.closed _ _,Wh.closed _ _,Wh.closed _ _,Wh.closed _ _,Wh.closed _ _,aV.closed _,aV.closed _,aV.closed _,Wh.closed _ _,Wh.closed _ _,PA.closed _ _ _,trivial⟩ ⟨?_,?_,?_,?_,?_,?_,?_,?_,?_,?_,?_,trivial⟩ ?_
 .exact Hi
 .refine aS.q _ r_ r_ λρ w' H=>?_;obtain⟨v0,e0,p0⟩:=H.dep 0 18 k_;have p0:(Wh b (x*x)) v0 w':=p0;exact bl.call 315 #[v0] _ _ _ rfl (H.fn 315) (enters_of Tryz.func315 k_ rfl) (by simp [e0]) ((qn (x*x) v0 cG w' p0.rd).mono λe w2 ⟨v,h1,h2,h3⟩=>⟨v,h1,h3,h2.le (Ui aG H.bel.size)⟩)
 .exact Hi
 .exact zd
 .refine aS.q _ r_ r_ λρ w' H=>?_;obtain⟨v2,e2,p2⟩:=H.dep 2 20 k_;have p2:(Wh b (x*x)) v2 w':=p2;obtain⟨v3,e3,p3⟩:=H.dep 3 21 k_;have p3:(Wh b (z*z)) v3 w':=p3;exact bl.call 317 #[v2,v3] _ _ _ rfl (H.fn 317) (enters_of Tryz.func317 k_ rfl) (by simp [e2,e3]) ((nf cG cm rfl _ _ w' p2.rd p3.rd).mono λe w2 ⟨v,h1,h2,h3⟩=>⟨v,h1,h3,h2.le (Ui aG H.bel.size)⟩)
 .exact nc
 .refine aS.q _ r_ r_ λρ w' H=>?_;obtain⟨v5,e5,Z⟩:=H.dep 5 23 k_;exact Ab
 .refine aS.q _ r_ r_ λρ w' H=>?_;obtain⟨K,e6,p6⟩:=H.dep 6 24 k_;obtain rfl:K=.int .i64 A:=p6;exact nM _ _ rfl (H.con _) e6 o_
 .refine aS.q _ r_ r_ λρ w' H=>?_;obtain⟨v4,e4,p4⟩:=H.dep 4 22 k_;have p4:(Wh b (x*x*(z*z))) v4 w':=p4;obtain⟨v7,e7,p7⟩:=H.dep 7 25 k_;obtain rfl:v7=.int .i64 (2*A):=p7;exact bl.call 318 #[v4,(2*A:Int)] _ _ _ rfl (H.fn 318) (enters_of Tryz.func318 k_ rfl) (by simp [e4,e7]) ((oY q2 o_ rfl _ w' p4.rd).mono λe w2 ⟨v,h1,h2,h3⟩=>⟨v,h1,h3,h2.le (Ui aG H.bel.size)⟩)
 .refine aS.q _ r_ r_ λρ w' H=>?_;obtain⟨v1,e1,p1⟩:=H.dep 1 19 k_;have p1:(Wh b (x*x*(x*x))) v1 w':=p1;obtain⟨v8,e8,p8⟩:=H.dep 8 26 k_;have p8:(Wh b (x*x*(z*z)*(2*A))) v8 w':=p8;exact bl.call 349 #[v1,v8] _ _ _ rfl (H.fn 349) (enters_of Tryz.func349 k_ rfl) (by simp [e1,e8]) ((GW q1 p2 E1.out _ _ w' p1.rd p8.rd).mono λe w2 ⟨v,h1,h2,h3⟩=>⟨v,h1,h3,h2.le (Ui aG H.bel.size)⟩)
 .exact kl
 intro vs Wt aM bb;have b8:(Wh b O1) (vs 9) Wt:=bb.1 9 o_;have bq:(PA W3.heap.size #[false,.slice none 0 0] 182) (vs 10) Wt:=bb.1 10 o_;obtain⟨r9,c0,bs,aF⟩:=bq;clear bb;simp only[ew,Nat.reduceBEq,VK,VD,Nat.reduceAdd,UI,U0,c0];have l5:=kx.lt;have l6:=kz.lt;have l7:=b2.lt;have l8:=bo.lt;have lR:=V.lt;have lC:=kC.lt;obtain⟨cv,a5,ac,aL⟩:=b8.cell;obtain⟨F,G,rfl,_⟩:=id ac.1;simp only[a5];obtain⟨x0,x1⟩:=aF.q2;have x2:=aF.frozen 0;have x3:=aF.frozen 1;have x4:=aF.lt;have kO:bt b r9 O1 ((Wt.setCell ⟨r9,0,none⟩ (decide (O1<0))).setCell ⟨r9,1,none⟩ (.slice F (dg O1.natAbs).length G)):=bt.put aF rfl ac aL;have g:Below W3.heap.size W3 ((Wt.setCell ⟨r9,0,none⟩ (decide (O1<0))).setCell ⟨r9,1,none⟩ (.slice F (dg O1.natAbs).length G)):=(aM.setCell bs _).setCell bs _;replace V:=V.next g
 replace kC:=kC.next g
 replace kx:=kx.next g
 replace kz:=kz.next g
 replace b2:=b2.next g
 replace bo:=bo.next g
 replace J:Below S w _:=af g a9 J;replace aG:=Ui aG g.size;replace a9:=Ui a9 g.size;clear b8 aM aF a5 ac aL;go_upto_region 4 with fail
 have n5:r5≠r9:=o_;have n6:r6≠r9:=o_;have n7:r7≠r9:=o_;have n8:r8≠r9:=o_;have nR:S+2≠r9:=o_;have nC:S≠r9:=o_;have cB:S<=r9:=o_;generalize (World.setCell (World.setCell _ _ _) _ _)=W4 at *;clear x0 x1 x2 x3 x4 g bs;refine iZ 11 [] [(0,28),(1,29),(2,30),(3,31),(4,32),(5,33),(6,34),(7,35),(8,36),(9,37),(10,38)] [Wh b O1,Wh b x,Wh b z,Wh b (x*z),Wh b (z*z),Wh b (x*z*(z*z)),aV (.pointer (some ⟨S,1,none⟩)),aV B,aV (8*B:Int),Wh b (x*z*(z*z)*(8*B)),Wh b I] k_ k_ k_ trivial ⟨Wh.closed _ _,Wh.closed _ _,Wh.closed _ _,Wh.closed _ _,Wh.closed _ _,Wh.closed _ _,aV.closed _,aV.closed _,aV.closed _,Wh.closed _ _,Wh.closed _ _,trivial⟩ ⟨?_,?_,?_,?_,?_,?_,?_,?_,?_,?_,?_,trivial⟩ ?_
 .exact EU
 .exact gH
 .exact fw
 .refine aS.q _ r_ r_ λρ w' H=>?_;obtain⟨v1,e1,p1⟩:=H.dep 1 29 k_;have p1:(Wh b x) v1 w':=p1;obtain⟨v2,e2,p2⟩:=H.dep 2 30 k_;have p2:(Wh b z) v2 w':=p2;exact bl.call 317 #[v1,v2] _ _ _ rfl (H.fn 317) (enters_of Tryz.func317 k_ rfl) (by simp [e1,e2]) ((nf x1 z1 rfl _ _ w' p1.rd p2.rd).mono λe w2 ⟨v,h1,h2,h3⟩=>⟨v,h1,h3,h2.le (Ui aG H.bel.size)⟩)
 .exact zd
 .refine aS.q _ r_ r_ λρ w' H=>?_;obtain⟨v3,e3,p3⟩:=H.dep 3 31 k_;have p3:(Wh b (x*z)) v3 w':=p3;obtain⟨v4,e4,p4⟩:=H.dep 4 32 k_;have p4:(Wh b (z*z)) v4 w':=p4;exact bl.call 317 #[v3,v4] _ _ _ rfl (H.fn 317) (enters_of Tryz.func317 k_ rfl) (by simp [e3,e4]) ((nf sxz cm rfl _ _ w' p3.rd p4.rd).mono λe w2 ⟨v,h1,h2,h3⟩=>⟨v,h1,h3,h2.le (Ui aG H.bel.size)⟩)
 .exact uz
 .refine aS.q _ r_ r_ λρ w' H=>?_;obtain⟨K,e6,p6⟩:=H.dep 6 34 k_;obtain rfl:K=.pointer (some ⟨S,1,none⟩):=p6;exact jj _ rfl e6 ((kC.next H.bel).cell 1)
 .refine aS.q _ r_ r_ λρ w' H=>?_;obtain⟨v7,e7,p7⟩:=H.dep 7 35 k_;obtain rfl:v7=.int .i64 B:=p7;exact nM _ _ rfl (H.con _) e7 o_
 .refine aS.q _ r_ r_ λρ w' H=>?_;obtain⟨v5,e5,Z⟩:=H.dep 5 33 k_;have Z:(Wh b (x*z*(z*z))) v5 w':=Z;obtain⟨v8,e8,p8⟩:=H.dep 8 36 k_;obtain rfl:v8=.int .i64 (8*B):=p8;exact bl.call 318 #[v5,(8*B:Int)] _ _ _ rfl (H.fn 318) (enters_of Tryz.func318 k_ rfl) (by simp [e5,e8]) ((oY q3 o_ rfl _ w' Z.rd).mono λe w2 ⟨v,h1,h2,h3⟩=>⟨v,h1,h3,h2.le (Ui aG H.bel.size)⟩)
 .refine aS.q _ r_ r_ λρ w' H=>?_;obtain⟨v0,e0,p0⟩:=H.dep 0 28 k_;have p0:(Wh b O1) v0 w':=p0;obtain⟨v9,e9,p9⟩:=H.dep 9 37 k_;have p9:(Wh b (x*z*(z*z)*(8*B))) v9 w':=p9;exact bl.call 349 #[v0,v9] _ _ _ rfl (H.fn 349) (enters_of Tryz.func349 k_ rfl) (by simp [e0,e9]) ((GW s1 p3 E2.out _ _ w' p0.rd p9.rd).mono λe w2 ⟨v,h1,h2,h3⟩=>⟨v,h1,h3,h2.le (Ui aG H.bel.size)⟩)
 intro vs Wt aM bb;have bq:(Wh b I) (vs 10) Wt:=bb.1 10 o_;clear bb;simp only[ew,Nat.reduceBEq,VK,VD,Nat.reduceAdd,UI,U0];obtain⟨c1,cA,ca,cy⟩:=bq.cell;obtain⟨slu,aa,rfl,_⟩:=id ca.1;simp only[cA];obtain⟨lo,ko,ro,co⟩:=kO.next aM
 obtain⟨x0,x1⟩:=ko.q2;have x2:=ko.frozen 0;have x3:=ko.frozen 1;have x4:=ko.lt;clear kO;have kO:bt b r9 I ((Wt.setCell ⟨r9,0,none⟩ (decide (I<0))).setCell ⟨r9,1,none⟩ (.slice slu (dg I.natAbs).length aa)):=bt.put ko rfl ca cy;replace kx:=(kx.next aM).far n5 ko (decide (I<0)) (.slice slu (dg I.natAbs).length aa);replace kz:=(kz.next aM).far n6 ko (decide (I<0)) (.slice slu (dg I.natAbs).length aa);replace b2:=(b2.next aM).far n7 ko (decide (I<0)) (.slice slu (dg I.natAbs).length aa);replace bo:=(bo.next aM).far n8 ko (decide (I<0)) (.slice slu (dg I.natAbs).length aa);replace kC:=((kC.next aM).far (p:=⟨r9,0,none⟩) nC (decide (I<0))).far (p:=⟨r9,1,none⟩) nC (.slice slu (dg I.natAbs).length aa);replace V:=((V.next aM).far (p:=⟨r9,0,none⟩) nR (decide (I<0))).far (p:=⟨r9,1,none⟩) nR (.slice slu (dg I.natAbs).length aa);replace J:Below S w ((Wt.setCell ⟨r9,0,none⟩ (decide (I<0))).setCell ⟨r9,1,none⟩ (.slice slu (dg I.natAbs).length aa)):=((af aM a9 J).setCell cB _).setCell cB _;replace aG:=Ui aG aM.size;replace a9:=Ui a9 aM.size;replace aG:b<=(((Wt.setCell ⟨r9,0,none⟩ (decide (I<0))).setCell ⟨r9,1,none⟩ (.slice slu (dg I.natAbs).length aa))).heap.size:=u_;replace a9:S<=(((Wt.setCell ⟨r9,0,none⟩ (decide (I<0))).setCell ⟨r9,1,none⟩ (.slice slu (dg I.natAbs).length aa))).heap.size:=u_;clear bq aM cA ca cy ro co;go_upto_region 5 with fail
 generalize (World.setCell (World.setCell _ _ _) _ _)=W5 at *;clear x0 x1 x2 x3 x4 ko lo;refine iZ 10 [] [(0,39),(1,40),(2,41),(3,42),(4,43),(5,44),(6,45),(7,46),(8,47),(9,48)] [Wh b I,Wh b (z*z),Wh b (z*z*(z*z)),aV (.pointer (some ⟨S,0,none⟩)),aV A,aV (.pointer (some ⟨S,0,none⟩)),aV A,aV (A*A:Int),Wh b (z*z*(z*z)*(A*A)),Wh b (bk A B x z)] k_ k_ k_ trivial ⟨Wh.closed _ _,Wh.closed _ _,Wh.closed _ _,aV.closed _,aV.closed _,aV.closed _,aV.closed _,aV.closed _,Wh.closed _ _,Wh.closed _ _,trivial⟩ ⟨?_,?_,?_,?_,?_,?_,?_,?_,?_,?_,trivial⟩ ?_
 .exact EU
 .exact zd
 .refine aS.q _ r_ r_ λρ w' H=>?_;obtain⟨v1,e1,p1⟩:=H.dep 1 40 k_;have p1:(Wh b (z*z)) v1 w':=p1;exact bl.call 315 #[v1] _ _ _ rfl (H.fn 315) (enters_of Tryz.func315 k_ rfl) (by simp [e1]) ((qn (z*z) v1 cm w' p1.rd).mono λe w2 ⟨v,h1,h2,h3⟩=>⟨v,h1,h3,h2.le (Ui aG H.bel.size)⟩)
 .exact nc
 .refine aS.q _ r_ r_ λρ w' H=>?_;obtain⟨v3,e3,p3⟩:=H.dep 3 42 k_;obtain rfl:v3=.pointer (some ⟨S,0,none⟩):=p3;exact jj _ rfl e3 ((kC.next H.bel).cell 0)
 .exact nc
 .refine aS.q _ r_ r_ λρ w' H=>?_;obtain⟨v5,e5,Z⟩:=H.dep 5 44 k_;exact Ab
 .refine aS.q _ r_ r_ λρ w' H=>?_;obtain⟨v4,e4,p4⟩:=H.dep 4 43 k_;obtain rfl:v4=.int .i64 A:=p4;obtain⟨K,e6,p6⟩:=H.dep 6 45 k_;obtain rfl:K=.int .i64 A:=p6;exact nM _ _ rfl e4 e6 o_
 .refine aS.q _ r_ r_ λρ w' H=>?_;obtain⟨v2,e2,p2⟩:=H.dep 2 41 k_;have p2:(Wh b (z*z*(z*z))) v2 w':=p2;obtain⟨v7,e7,p7⟩:=H.dep 7 46 k_;obtain rfl:v7=.int .i64 (A*A):=p7;exact bl.call 318 #[v2,(A*A:Int)] _ _ _ rfl (H.fn 318) (enters_of Tryz.func318 k_ rfl) (by simp [e2,e7]) ((oY q4 o_ rfl _ w' p2.rd).mono λe w2 ⟨v,h1,h2,h3⟩=>⟨v,h1,h3,h2.le (Ui aG H.bel.size)⟩)
 .refine aS.q _ r_ r_ λρ w' H=>?_;obtain⟨v0,e0,p0⟩:=H.dep 0 39 k_;have p0:(Wh b I) v0 w':=p0;obtain⟨v8,e8,p8⟩:=H.dep 8 47 k_;have p8:(Wh b (z*z*(z*z)*(A*A))) v8 w':=p8;exact bl.call 316 #[v0,v8] _ _ _ rfl (H.fn 316) (enters_of Tryz.func316 k_ rfl) (by simp [e0,e8]) ((zv s2 p4 E3.out _ _ w' p0.rd p8.rd).mono λe w2 ⟨v,h1,h2,h3⟩=>⟨v,h1,h3,h2.le (Ui aG H.bel.size)⟩)
 intro vs Wt aM bb;have b8:(Wh b (bk A B x z)) (vs 9) Wt:=bb.1 9 o_;clear bb;simp only[ew,Nat.reduceBEq,VK,VD,Nat.reduceAdd,UI,U0];obtain⟨cv,a5,ac,aL⟩:=b8.cell;obtain⟨F,G,rfl,_⟩:=id ac.1;simp only[a5];replace V:=V.next aM
 have c9:=V.lt;obtain⟨x0,x1⟩:=V.q2;have x2:=V.frozen 0;have x3:=V.frozen 1;have k9:bt b (S+2) (bk A B x z) ((Wt.setCell ⟨S+2,0,none⟩ (decide (bk A B x z<0))).setCell ⟨S+2,1,none⟩ (.slice F (dg (bk A B x z).natAbs).length G)):=bt.put V rfl ac aL;have ad:Below S w ((Wt.setCell ⟨S+2,0,none⟩ (decide (bk A B x z<0))).setCell ⟨S+2,1,none⟩ (.slice F (dg (bk A B x z).natAbs).length G)):=((af aM a9 J).setCell s_ _).setCell s_ _;have k8:=(V.set 0 (decide (bk A B x z<0))).set 1 (.slice F (dg (bk A B x z).natAbs).length G);have r9:aW ((Wt.setCell ⟨S+2,0,none⟩ (decide (bk A B x z<0))).setCell ⟨S+2,1,none⟩ (.slice F (dg (bk A B x z).natAbs).length G)) b (.slice F (dg (bk A B x z).natAbs).length G) (dg (bk A B x z).natAbs):=ac.far d_ V (ke _ _ _ _);clear b8 aM V a5 ac aL J k9;go_wp2;generalize (World.setCell (World.setCell _ _ _) _ _)=w9 at *;obtain⟨q0,q1⟩:=k8.q2;refine Uh (v:=.agg #[decide (bk A B x z<0),(.slice F (dg (bk A B x z).natAbs).length G)]) (by simp [results,Tryz.results319,go_sem,q0,q1]) rfl ?_;exact uG
def BK(A B x z:Int)(b:Nat)(lx lz:Value)(hA:bj A)(hB:a_ B)(zx:Sz 80 x)(zz:Sz 80 z)(w:World)(hb:b<=w.heap.size)(aZ:aW w b lx (dg x.natAbs))(ba:aW w b lz (dg z.natAbs)):
 Kp 283 #[.agg #[A,B],.agg #[decide (x<0),lx,decide (z<0),lz]] w (wf b (aT A B x z) w):=by
 obtain⟨kC,kT,V,J⟩:=pW w #[A,B] 42 #[decide (x<0),lx,decide (z<0),lz] 209 #[false,.slice none 0 0] 182;have b3:(((w.alloc (.cells #[A,B] 42)).alloc (.cells #[decide (x<0),lx,decide (z<0),lz] 209)).alloc (.cells #[false,.slice none 0 0] 182)).heap.size=w.heap.size+3:=s_;have rx:=aZ.below J;have rz:=ba.below J;obtain⟨ax,cx,rfl,_⟩:=id aZ.1;obtain⟨az,cz,rfl,_⟩:=id ba.1;clear aZ ba;simp only[Uq] at kT V;have x1:Sz 1000 x:=zx.mono o_;have z1:Sz 1000 z:=zz.mono o_;have a1:Sz 1000 A:=(Sz.of1 o_ o_).mono o_;have b1:Sz 1000 B:=(Sz.of4 o_ o_).mono o_;have cG:Sz 1000 (x*x):=(zx.mul zx).mono o_;have cm:Sz 1000 (z*z):=(zz.mul zz).mono o_;have q1:Sz 1000 (x*x*x):=((zx.mul zx).mul zx).mono o_;have q2:Sz 1000 (x*(z*z)):=(zx.mul (zz.mul zz)).mono o_;have q3:Sz 1000 (z*(z*z)):=(zz.mul (zz.mul zz)).mono o_;have p2:Sz 1000 (x*(z*z)*A):=((zx.mul (zz.mul zz)).mul (Sz.of1 (x:=A) o_ o_)).mono o_;have p3:Sz 1000 (z*(z*z)*B):=((zz.mul (zz.mul zz)).mul (Sz.of4 (x:=B) o_ o_)).mono o_;obtain⟨O1,bi⟩:∃O1,x*x*x+x*(z*z)*A=O1:=⟨_,rfl⟩
 obtain⟨I,bv⟩:∃I,O1+z*(z*z)*B=I:=⟨_,rfl⟩
 have ab:z*I*4=aT A B x z:=by rw[<-bv,<-bi];rfl
 have s1:Sz 251 O1:=by
  rw[<-bi];exact ((((zx.mul zx).mul zx).mono (n:=250) o_).add (((zx.mul (zz.mul zz)).mul (Sz.of1 (x:=A) o_ o_)).mono (n:=250) o_))
 have s2:Sz 252 I:=by
  rw[<-bv];exact s1.add (((zz.mul (zz.mul zz)).mul (Sz.of4 (x:=B) o_ o_)).mono (n:=251) o_)
 have s3:Sz 1000 (z*I):=(zz.mul s2).mono o_;replace s1:Sz 1000 O1:=s1.mono o_;replace s2:Sz 1000 I:=s2.mono o_;have E1:=h_ bi;have E2:=h_ bv;have E3:=h_ ab;clear bi bv ab;clear zx zz;obtain⟨S,hS⟩:∃S,w.heap.size=S:=⟨_,rfl⟩
 go_enter Tryz.func283,Tryz.ntmps283;go_upto_region 1 with fail
 generalize ((w.alloc _).alloc _).alloc _=W at *;rw[hS] at kC kT V J b3 hb;have HS:=h_ hS;clear hS;have aG:b<=W.heap.size:=o_;have a9:S<=W.heap.size:=o_;clear b3;obtain⟨t0,t1,t2,t3⟩:=kT.q4;have t4:=kT.lt;apply sL (λr5 r6 Wz=>ah [] W Wz/\(λ_=>True) Wz/\W.heap.size<=r5/\W.heap.size<=r6/\r6≠r5/\ag r5 #[decide (x<0),.slice ax (dg x.natAbs).length cx] 182 Wz/\ag r6 #[decide (z<0),.slice az (dg z.natAbs).length cz] 182 Wz)
 .exact vZ
 try dsimp only
 rintro r5 r6 W2 ⟨bi,_,h5,h6,d5,k5,U⟩;have g:Below W.heap.size W W2:=bi.below;have kx:bt b r5 x W2:=⟨_,k5,rx.below g,rfl⟩
 have kz:bt b r6 z W2:=⟨_,U,rz.below g,rfl⟩
 replace kC:=kC.next g
 replace V:=V.next g
 replace J:Below S w _:=af g a9 J;replace aG:=Ui aG g.size;replace a9:=Ui a9 g.size;clear bi k5 U rx rz t0 t1 t2 t3 t4 kT g;go_upto_region 2 with fail
 refine AT 3 [2] [(2,7),(0,13),(1,14)] [Wh b z,Wh b (z*z),PA W2.heap.size #[false,.slice none 0 0] 182] k_ k_ k_ ⟨⟨_,_,_,rfl⟩,trivial⟩ ⟨Wh.closed _ _,Wh.closed _ _,PA.closed _ _ _,trivial⟩ ⟨?_,?_,?_,trivial⟩ ?_
 .exact fw
 .refine aS.q _ r_ r_ λρ w' H=>?_;obtain⟨v0,e0,p0⟩:=H.dep 0 13 k_;have p0:(Wh b z) v0 w':=p0;exact bl.call 315 #[v0] _ _ _ rfl (H.fn 315) (enters_of Tryz.func315 k_ rfl) (by simp [e0]) ((qn z v0 z1 w' p0.rd).mono λe w2 ⟨v,h1,h2,h3⟩=>⟨v,h1,h3,h2.le (Ui aG H.bel.size)⟩)
 .exact kl
 intro vs Wt aM bb;have cF:(Wh b (z*z)) (vs 1) Wt:=bb.1 1 o_;have b2:(PA W2.heap.size #[false,.slice none 0 0] 182) (vs 2) Wt:=bb.1 2 o_;obtain⟨r7,b6,a3,a2⟩:=b2;clear bb;simp only[ew,Nat.reduceBEq,VK,VD,Nat.reduceAdd,UI,U0,b6];obtain⟨dd,b5,bz,b4⟩:=cF.cell;obtain⟨a6,a4,rfl,_⟩:=id bz.1;simp only[b5];obtain⟨x0,x1⟩:=a2.q2;have x2:=a2.frozen 0;have x3:=a2.frozen 1;have x4:=a2.lt;have bo:bt b r7 (z*z) ((Wt.setCell ⟨r7,0,none⟩ (decide (z*z<0))).setCell ⟨r7,1,none⟩ (.slice a6 (dg (z*z).natAbs).length a4)):=bt.put a2 rfl bz b4;have g:Below W2.heap.size W2 ((Wt.setCell ⟨r7,0,none⟩ (decide (z*z<0))).setCell ⟨r7,1,none⟩ (.slice a6 (dg (z*z).natAbs).length a4)):=(aM.setCell a3 _).setCell a3 _;replace V:=V.next g
 replace kC:=kC.next g
 replace kx:=kx.next g
 replace kz:=kz.next g
 replace J:Below S w _:=af g a9 J;replace aG:=Ui aG g.size;replace a9:=Ui a9 g.size;clear cF aM a2 b5 bz b4;go_upto_region 3 with fail
 generalize (World.setCell (World.setCell _ _ _) _ _)=W3 at *;clear x0 x1 x2 x3 x4 g a3;refine iZ 12 [11] [(11,8),(0,15),(1,16),(2,17),(3,18),(4,19),(5,20),(6,21),(7,22),(8,23),(9,24),(10,25)] [Wh b x,Wh b (x*x),Wh b x,Wh b (x*x*x),Wh b x,Wh b (z*z),Wh b (x*(z*z)),aV (.pointer (some ⟨S,0,none⟩)),aV A,Wh b (x*(z*z)*A),Wh b O1,PA W3.heap.size #[false,.slice none 0 0] 182] k_ k_ k_ ⟨⟨_,_,_,rfl⟩,trivial⟩ ⟨Wh.closed _ _,Wh.closed _ _,Wh.closed _ _,Wh.closed _ _,Wh.closed _ _,Wh.closed _ _,Wh.closed _ _,aV.closed _,aV.closed _,Wh.closed _ _,Wh.closed _ _,PA.closed _ _ _,trivial⟩ ⟨?_,?_,?_,?_,?_,?_,?_,?_,?_,?_,?_,?_,trivial⟩ ?_
 .exact gH
 .refine aS.q _ r_ r_ λρ w' H=>?_;obtain⟨v0,e0,p0⟩:=H.dep 0 15 k_;exact IC
 .exact gH
 .refine aS.q _ r_ r_ λρ w' H=>?_;obtain⟨v1,e1,p1⟩:=H.dep 1 16 k_;have p1:(Wh b (x*x)) v1 w':=p1;obtain⟨v2,e2,p2⟩:=H.dep 2 17 k_;have p2:(Wh b x) v2 w':=p2;exact bl.call 317 #[v1,v2] _ _ _ rfl (H.fn 317) (enters_of Tryz.func317 k_ rfl) (by simp [e1,e2]) ((nf cG x1 rfl _ _ w' p1.rd p2.rd).mono λe w2 ⟨v,h1,h2,h3⟩=>⟨v,h1,h3,h2.le (Ui aG H.bel.size)⟩)
 .exact gH
 .exact ID
 .refine aS.q _ r_ r_ λρ w' H=>?_;obtain⟨v4,e4,p4⟩:=H.dep 4 19 k_;have p4:(Wh b x) v4 w':=p4;obtain⟨v5,e5,Z⟩:=H.dep 5 20 k_;have Z:(Wh b (z*z)) v5 w':=Z;exact bl.call 317 #[v4,v5] _ _ _ rfl (H.fn 317) (enters_of Tryz.func317 k_ rfl) (by simp [e4,e5]) ((nf x1 cm rfl _ _ w' p4.rd Z.rd).mono λe w2 ⟨v,h1,h2,h3⟩=>⟨v,h1,h3,h2.le (Ui aG H.bel.size)⟩)
 .exact nc
 .refine aS.q _ r_ r_ λρ w' H=>?_;obtain⟨v7,e7,p7⟩:=H.dep 7 22 k_;obtain rfl:v7=.pointer (some ⟨S,0,none⟩):=p7;exact jj _ rfl e7 ((kC.next H.bel).cell 0)
 .refine aS.q _ r_ r_ λρ w' H=>?_;obtain⟨K,e6,p6⟩:=H.dep 6 21 k_;have p6:(Wh b (x*(z*z))) K w':=p6;obtain⟨v8,e8,p8⟩:=H.dep 8 23 k_;obtain rfl:v8=.int .i64 A:=p8;exact bl.call 318 #[K,A] _ _ _ rfl (H.fn 318) (enters_of Tryz.func318 k_ rfl) (by simp [e6,e8]) ((oY q2 o_ rfl _ w' p6.rd).mono λe w2 ⟨v,h1,h2,h3⟩=>⟨v,h1,h3,h2.le (Ui aG H.bel.size)⟩)
 .refine aS.q _ r_ r_ λρ w' H=>?_;obtain⟨v3,e3,p3⟩:=H.dep 3 18 k_;have p3:(Wh b (x*x*x)) v3 w':=p3;obtain⟨v9,e9,p9⟩:=H.dep 9 24 k_;have p9:(Wh b (x*(z*z)*A)) v9 w':=p9;exact bl.call 316 #[v3,v9] _ _ _ rfl (H.fn 316) (enters_of Tryz.func316 k_ rfl) (by simp [e3,e9]) ((zv q1 p2 E1.out _ _ w' p3.rd p9.rd).mono λe w2 ⟨v,h1,h2,h3⟩=>⟨v,h1,h3,h2.le (Ui aG H.bel.size)⟩)
 .exact kl
 intro vs Wt aM bb;have bq:(Wh b O1) (vs 10) Wt:=bb.1 10 o_;have aF:(PA W3.heap.size #[false,.slice none 0 0] 182) (vs 11) Wt:=bb.1 11 o_;obtain⟨r8,cP,cc,a8⟩:=aF;clear bb;simp only[ew,Nat.reduceBEq,VK,VD,Nat.reduceAdd,UI,U0,cP];have l5:=kx.lt;have l6:=kz.lt;have l7:=bo.lt;have lR:=V.lt;have lC:=kC.lt;obtain⟨d1,cM,bZ,cT⟩:=bq.cell;obtain⟨bX,bY,rfl,_⟩:=id bZ.1;simp only[cM];obtain⟨x0,x1⟩:=a8.q2;have x2:=a8.frozen 0;have x3:=a8.frozen 1;have x4:=a8.lt;have kO:bt b r8 O1 ((Wt.setCell ⟨r8,0,none⟩ (decide (O1<0))).setCell ⟨r8,1,none⟩ (.slice bX (dg O1.natAbs).length bY)):=bt.put a8 rfl bZ cT;have g:Below W3.heap.size W3 ((Wt.setCell ⟨r8,0,none⟩ (decide (O1<0))).setCell ⟨r8,1,none⟩ (.slice bX (dg O1.natAbs).length bY)):=(aM.setCell cc _).setCell cc _;replace V:=V.next g
 replace kC:=kC.next g
 replace kx:=kx.next g
 replace kz:=kz.next g
 replace bo:=bo.next g
 replace J:Below S w _:=af g a9 J;replace aG:=Ui aG g.size;replace a9:=Ui a9 g.size;clear bq aM a8 cM bZ cT;go_upto_region 4 with fail
 have n5:r5≠r8:=o_;have n6:r6≠r8:=o_;have n7:r7≠r8:=o_;have nR:S+2≠r8:=o_;have nC:S≠r8:=o_;have bs:S<=r8:=o_;generalize (World.setCell (World.setCell _ _ _) _ _)=W4 at *;clear x0 x1 x2 x3 x4 g cc;refine iZ 8 [] [(0,26),(1,27),(2,28),(3,29),(4,30),(5,31),(6,32),(7,33)] [Wh b O1,Wh b z,Wh b (z*z),Wh b (z*(z*z)),aV (.pointer (some ⟨S,1,none⟩)),aV B,Wh b (z*(z*z)*B),Wh b I] k_ k_ k_ trivial ⟨Wh.closed _ _,Wh.closed _ _,Wh.closed _ _,Wh.closed _ _,aV.closed _,aV.closed _,Wh.closed _ _,Wh.closed _ _,trivial⟩ ⟨?_,?_,?_,?_,?_,?_,?_,?_,trivial⟩ ?_
 .exact JC
 .exact fw
 .exact ID
 .refine aS.q _ r_ r_ λρ w' H=>?_;obtain⟨v1,e1,p1⟩:=H.dep 1 27 k_;have p1:(Wh b z) v1 w':=p1;obtain⟨v2,e2,p2⟩:=H.dep 2 28 k_;have p2:(Wh b (z*z)) v2 w':=p2;exact bl.call 317 #[v1,v2] _ _ _ rfl (H.fn 317) (enters_of Tryz.func317 k_ rfl) (by simp [e1,e2]) ((nf z1 cm rfl _ _ w' p1.rd p2.rd).mono λe w2 ⟨v,h1,h2,h3⟩=>⟨v,h1,h3,h2.le (Ui aG H.bel.size)⟩)
 .exact uz
 .refine aS.q _ r_ r_ λρ w' H=>?_;obtain⟨v4,e4,p4⟩:=H.dep 4 30 k_;obtain rfl:v4=.pointer (some ⟨S,1,none⟩):=p4;exact jj _ rfl e4 ((kC.next H.bel).cell 1)
 .refine aS.q _ r_ r_ λρ w' H=>?_;obtain⟨v3,e3,p3⟩:=H.dep 3 29 k_;have p3:(Wh b (z*(z*z))) v3 w':=p3;obtain⟨v5,e5,Z⟩:=H.dep 5 31 k_;obtain rfl:v5=.int .i64 B:=Z;exact bl.call 318 #[v3,B] _ _ _ rfl (H.fn 318) (enters_of Tryz.func318 k_ rfl) (by simp [e3,e5]) ((oY q3 o_ rfl _ w' p3.rd).mono λe w2 ⟨v,h1,h2,h3⟩=>⟨v,h1,h3,h2.le (Ui aG H.bel.size)⟩)
 .refine aS.q _ r_ r_ λρ w' H=>?_;obtain⟨v0,e0,p0⟩:=H.dep 0 26 k_;have p0:(Wh b O1) v0 w':=p0;obtain⟨K,e6,p6⟩:=H.dep 6 32 k_;have p6:(Wh b (z*(z*z)*B)) K w':=p6;exact bl.call 316 #[v0,K] _ _ _ rfl (H.fn 316) (enters_of Tryz.func316 k_ rfl) (by simp [e0,e6]) ((zv s1 p3 E2.out _ _ w' p0.rd p6.rd).mono λe w2 ⟨v,h1,h2,h3⟩=>⟨v,h1,h3,h2.le (Ui aG H.bel.size)⟩)
 intro vs Wt aM bb;have c2:(Wh b I) (vs 7) Wt:=bb.1 7 o_;clear bb;simp only[ew,Nat.reduceBEq,VK,VD,Nat.reduceAdd,UI,U0];obtain⟨c1,cA,ca,cy⟩:=c2.cell;obtain⟨slu,aa,rfl,_⟩:=id ca.1;simp only[cA];obtain⟨lo,ko,ro,co⟩:=kO.next aM
 obtain⟨x0,x1⟩:=ko.q2;have x2:=ko.frozen 0;have x3:=ko.frozen 1;have x4:=ko.lt;clear kO;have kO:bt b r8 I ((Wt.setCell ⟨r8,0,none⟩ (decide (I<0))).setCell ⟨r8,1,none⟩ (.slice slu (dg I.natAbs).length aa)):=bt.put ko rfl ca cy;replace kx:=(kx.next aM).far n5 ko (decide (I<0)) (.slice slu (dg I.natAbs).length aa);replace kz:=(kz.next aM).far n6 ko (decide (I<0)) (.slice slu (dg I.natAbs).length aa);replace bo:=(bo.next aM).far n7 ko (decide (I<0)) (.slice slu (dg I.natAbs).length aa);replace V:=((V.next aM).far (p:=⟨r8,0,none⟩) nR (decide (I<0))).far (p:=⟨r8,1,none⟩) nR (.slice slu (dg I.natAbs).length aa);replace J:Below S w ((Wt.setCell ⟨r8,0,none⟩ (decide (I<0))).setCell ⟨r8,1,none⟩ (.slice slu (dg I.natAbs).length aa)):=((af aM a9 J).setCell bs _).setCell bs _;replace aG:=Ui aG aM.size;replace a9:=Ui a9 aM.size;replace aG:b<=(((Wt.setCell ⟨r8,0,none⟩ (decide (I<0))).setCell ⟨r8,1,none⟩ (.slice slu (dg I.natAbs).length aa))).heap.size:=u_;replace a9:S<=(((Wt.setCell ⟨r8,0,none⟩ (decide (I<0))).setCell ⟨r8,1,none⟩ (.slice slu (dg I.natAbs).length aa))).heap.size:=u_;clear c2 aM cA ca cy ro co;clear kC;go_upto_region 5 with fail
 generalize (World.setCell (World.setCell _ _ _) _ _)=W5 at *;clear x0 x1 x2 x3 x4 ko lo;refine AT 4 [] [(0,34),(1,35),(2,36),(3,37)] [Wh b z,Wh b I,Wh b (z*I),Wh b (aT A B x z)] k_ k_ k_ trivial ⟨Wh.closed _ _,Wh.closed _ _,Wh.closed _ _,Wh.closed _ _,trivial⟩ ⟨?_,?_,?_,?_,trivial⟩ ?_
 .exact fw
 .exact JC
 .refine aS.q _ r_ r_ λρ w' H=>?_;obtain⟨v0,e0,p0⟩:=H.dep 0 34 k_;have p0:(Wh b z) v0 w':=p0;obtain⟨v1,e1,p1⟩:=H.dep 1 35 k_;have p1:(Wh b I) v1 w':=p1;exact bl.call 317 #[v0,v1] _ _ _ rfl (H.fn 317) (enters_of Tryz.func317 k_ rfl) (by simp [e0,e1]) ((nf z1 s2 rfl _ _ w' p0.rd p1.rd).mono λe w2 ⟨v,h1,h2,h3⟩=>⟨v,h1,h3,h2.le (Ui aG H.bel.size)⟩)
 .refine aS.q _ r_ r_ λρ w' H=>?_;obtain⟨v2,e2,p2⟩:=H.dep 2 36 k_;have p2:(Wh b (z*I)) v2 w':=p2;exact bl.call 318 #[v2,(Value.int IntKind.i64 4)] _ _ _ rfl (H.fn 318) (enters_of Tryz.func318 k_ rfl) (by simp [e2,H.con]) ((oY s3 o_ E3.out _ w' p2.rd).mono λe w2 ⟨v,h1,h2,h3⟩=>⟨v,h1,h3,h2.le (Ui aG H.bel.size)⟩)
 intro vs Wt aM bb;have cu:(Wh b (aT A B x z)) (vs 3) Wt:=bb.1 3 o_;clear bb;simp only[ew,Nat.reduceBEq,VK,VD,Nat.reduceAdd,UI,U0];obtain⟨cv,a5,ac,aL⟩:=cu.cell;obtain⟨F,G,rfl,_⟩:=id ac.1;simp only[a5];replace V:=V.next aM
 have c9:=V.lt;obtain⟨x0,x1⟩:=V.q2;have x2:=V.frozen 0;have x3:=V.frozen 1;have k9:bt b (S+2) (aT A B x z) ((Wt.setCell ⟨S+2,0,none⟩ (decide (aT A B x z<0))).setCell ⟨S+2,1,none⟩ (.slice F (dg (aT A B x z).natAbs).length G)):=bt.put V rfl ac aL;have ad:Below S w ((Wt.setCell ⟨S+2,0,none⟩ (decide (aT A B x z<0))).setCell ⟨S+2,1,none⟩ (.slice F (dg (aT A B x z).natAbs).length G)):=((af aM a9 J).setCell s_ _).setCell s_ _;have k8:=(V.set 0 (decide (aT A B x z<0))).set 1 (.slice F (dg (aT A B x z).natAbs).length G);have r9:aW ((Wt.setCell ⟨S+2,0,none⟩ (decide (aT A B x z<0))).setCell ⟨S+2,1,none⟩ (.slice F (dg (aT A B x z).natAbs).length G)) b (.slice F (dg (aT A B x z).natAbs).length G) (dg (aT A B x z).natAbs):=ac.far d_ V (ke _ _ _ _);clear cu aM V a5 ac aL J k9;go_wp2;generalize (World.setCell (World.setCell _ _ _) _ _)=w9 at *;obtain⟨q0,q1⟩:=k8.q2;refine Uh (v:=.agg #[decide (aT A B x z<0),(.slice F (dg (aT A B x z).natAbs).length G)]) (by simp [results,Tryz.results283,go_sem,q0,q1]) rfl ?_;exact uG
def M9(n M:Int):ar n (M.natAbs:Int)=ar n M:=by
 unfold ar Int.gcd;simp
def Q6(F n:Int)(hn:1<=n):ar n (F % n)=ar n F:=by rw[OU,Dv F n hn]
def Q3{g G n:Int}(hg:g∣n):ar g (G % n)=ar g G:=by
 obtain⟨k,rfl⟩:=hg;have e:=WB G (g*k);have e2:G % (g*k)=G+g*(-(k*(G / (g*k)))):=by
  rw[WL,<-Va];omega
 unfold ar;rw[e2];congr 1;have h1:Int.gcd g (G+g*(-(k*(G / (g*k)))))∣Int.gcd g G:=by
  refine XI (Vt _ _) ?_;have h2:=Vf g (G+g*(-(k*(G / (g*k)))));have h3:=V1 (c:=-(k*(G / (g*k)))) (Vt g (G+g*(-(k*(G / (g*k))))));have:=Int.dvd_sub h2 h3;simpa using this
 have h2:Int.gcd g G∣Int.gcd g (G+g*(-(k*(G / (g*k))))):=by
  refine XI (Vt _ _) ?_;exact Int.dvd_add (Vf _ _) (V1 (Vt _ _))
 exact Nat.dvd_antisymm h1 h2
def Ds{n M:Int}(hn:1<=n):1<=ar n M/\ar n M<=n:=by
 obtain⟨a1,a2,_⟩:=nL n M (.inl o_);have a3:=a2 o_;omega
def A3(M n:Int)(a:Value)(hM:(dg M.natAbs).length<=40000)(hn:1<=n/\n<=1000000000000)(w:World)(ha:bm M a w):
 Rv 354 #[a,n] w (ar n M):=by
 have HW:=h_ ha;obtain⟨la,rfl,a3⟩:=ha;obtain⟨kA,J⟩:=aw w #[decide (M<0),la] 182;have HT:=h_ (λW (hb:Below w.heap.size w W)=>(BJ M _ o_ W (bm.below HW.out hb)).mono λe w' h=>dG.nat h);have HR:Hid (ar ((M.natAbs:Int) % n) n=ar n M):=h_ (by rw[Dv _ n hn.1,M9]);obtain⟨ax,cx,rfl,_⟩:=id a3;obtain⟨x,hx⟩:∃x,M.natAbs=x:=⟨_,rfl⟩
 rw[hx] at HT HR hM kA J ⊢;clear hx a3;obtain⟨g,hg⟩:∃g,ar n M=g:=⟨_,rfl⟩
 rw[hg] at HR ⊢;clear hg;generalize decide (M<0)=sa at *;have a4:=UU (x:Int) (show n≠0 by omega);have b4:=UO (x:Int) (show 0<n by omega);have HG:=h_ (nX ((x:Int) % n) n o_ o_);rw[HR.out] at HG;have HQ:=h_ (λW v h=>tc (x:Int) n v (by show (dg x).length<=_;exact hM) hn W h);clear HR;generalize (x:Int) / n=Q at *;generalize (x:Int) % n=r at *;go_enter Tryz.func354,Tryz.ntmps354;go_upto_region 1 with fail
 generalize w.alloc _=W at *;obtain⟨a0,a1⟩:=kA.q2;go_wp2_with fail
 refine (HT.out W J).mono ?_;rintro e w1 ⟨sl,H,rfl,Z,I⟩;have aL:=af I J.size J;clear HT a0 a1 I J kA;go_wp2_with fail
 refine (HQ.out w1 (.agg #[false,.slice sl (dg x).length H]) ⟨_,by simp,Z.1⟩).mono ?_;rintro e w2 ⟨v,rfl,⟨lv,rfl,bb⟩,U⟩;obtain⟨s2,p2,rfl,_⟩:=id bb.1;replace aL:=af U aL.size aL;have cv:Below w.heap.size w (w2.alloc (.cells #[decide (Q<0),.slice s2 (dg Q.natAbs).length p2] 182)):=aL.alloc aL.size _;clear HQ U Z bb;go_upto_region 2 with fail
 generalize w2.alloc _=W3 at *;go_wp2_with fail
 refine (HG.out _).mono ?_;rintro e w3 ⟨rfl,V,rfl⟩;go_wp2;refine Uh (v:=.int .i64 g) (by simp [results,Tryz.results354,go_sem]) rfl ?_;exact⟨rfl,lN cv _⟩
def Mb(A B x z:Int)(b:Nat)(lx lz:Value)(hA:bj A)(hB:a_ B)(hd:aP A B≠0)(zx:Sz 80 x)(zz:Sz 80 z)(w:World)(hb:b<=w.heap.size)(aZ:aW w b lx (dg x.natAbs))(ba:aW w b lz (dg z.natAbs)):
 Rv 339 #[.agg #[A,B],.agg #[decide (x<0),lx,decide (z<0),lz]] w (bU A B x z):=by
 obtain⟨kC,kT,J⟩:=cr w #[A,B] 42 #[decide (x<0),lx,decide (z<0),lz] 209;have cb:=h_ aZ;have cc:=h_ ba;obtain⟨ax,cx,rfl,_⟩:=id aZ.1;obtain⟨az,cz,rfl,_⟩:=id ba.1;clear aZ ba;have bv:=li hA hB;have bi:-7000000000<=aP A B/\aP A B<=7000000000:=by unfold aP;omega
 have V:=yN hA hB hd;obtain⟨zF,zG⟩:=yt hA hB zx zz;have HF:=h_ (λW (hW:Below w.heap.size w W)=>A4 A B x z b _ _ hA hB zx zz W (Ui hb hW.size) (cb.out.below hW) (cc.out.below hW));have b7:=h_ (λW (hW:Below w.heap.size w W)=>wn A B x z b _ _ hA hB zx zz W (Ui hb hW.size) (cb.out.below hW) (cc.out.below hW));have cB:=Ds (n:=cL A B) (M:=bk A B x z) V.1;have H:=h_ (λW v h=>A3 (bk A B x z) (cL A B) v (Ui zF.len o_) o_ W h);have bb:=h_ (λW v h=>A3 (aT A B x z) (ar (cL A B) (bk A B x z)) v (Ui zG.len o_) o_ W h);have g:ar (ar (cL A B) (bk A B x z)) (aT A B x z)=bU A B x z:=rfl;rw[g] at bb;clear g;have HC:=h_ (nT A B hA hB);have a6:max (4*aP A B) (-4*aP A B)=cL A B:=by unfold cL;omega
 generalize ar (cL A B) (bk A B x z)=g1 at *;generalize bU A B x z=D at *;generalize bk A B x z=F at *;generalize aT A B x z=G at *;generalize cL A B=N at *;generalize aP A B=d at *;generalize decide (x<0)=sx at *;generalize decide (z<0)=sz at *;generalize (dg x.natAbs).length=nx at *;generalize (dg z.natAbs).length=nz at *;obtain⟨S,hS⟩:∃S,w.heap.size=S:=⟨_,rfl⟩
 go_enter Tryz.func339,Tryz.ntmps339;go_upto_region 1 with fail
 generalize (w.alloc _).alloc _=W at *;rw[hS] at kC kT J hb HF b7;have HS:=h_ hS;clear hS;obtain⟨a4,a3⟩:=kC.q2;have a5:=kC.lt
 (refine bP k_ k_ ?_;(repeat (go_big_quiet_step ((go_at_call 98;exact Calls.quiet_cls an _ (HC.out _)))));refine wpQuiet_nil ?_;intro w2 U;obtain⟨bo,bq⟩:=bf U;have a8:=U.size;(try simp only[Uq] at a8))
 try rw[a6]
 have a9:S<=W.heap.size:=Uo a5;clear a6 a4 a3 a5 bo bq;replace kC:=kC.next U
 replace kT:=kT.next U
 have aL:Below S w w2:=af U a9 J;have ad:S<=w2.heap.size:=Ui a9 U.size;obtain⟨a4,a3⟩:=kC.q2;obtain⟨t0,t1,t2,t3⟩:=kT.q4;have a5:=kC.lt;have ab:=kT.lt;clear U a8 kC kT J;go_upto_region 2 with fail
 refine br [] (λ_=>false) (λ_=>True) (λ_=>True) k_ (trivial) ?_;refine aD ⟨w2,ah.refl _ _,trivial⟩ [ae,ae,ac,ae,ae,ac,ae] 5 an aA ?_;refine aB 2 ?_;refine bG (some 15) (λu=>λw'=>Wh b G u w') (λu=>Wh.closed _ _ _) (λw' hO hD=>(b7.out w' (af hO.below ad aL)).mono λe w3 ⟨v,h1,h2,h3⟩=>⟨v,h1,.of_below h3,h2⟩) (λu hne=>?_);refine ao ?_;refine aB 5 ?_;refine bG (some 18) (λu2=>λw'=>Wh b G u w'/\Wh b F u2 w') (λu2=>bQ.and bQ) (λw' hO hD=>(HF.out w' (af hO.below ad aL)).mono λe w3 ⟨v,h1,h2,h3⟩=>⟨v,h1,.of_below h3,Wh.closed _ _ _ _ _ hD h3,h2⟩) (λu2 hne=>?_);refine ao ?_;refine aB 7 ?_;refine lO (v:=.int .i64 g1) (some 20) (λw'=>Wh b G u w') r_ r_ r_ (λ_=>by go_simp) bQ (λw' hO hD=>(H.out w' _ hD.2.rd).mono λe w3 ⟨h1,h2⟩=>⟨h1,.of_below h2,Wh.closed _ _ _ _ _ hD.1 h2⟩) (λhne=>?_);refine ao ?_;refine aB 8 ?_;refine lO (v:=.int .i64 D) (some 21) (λ_=>True) r_ r_ r_ (λ_=>by go_simp) an (λw' hO hD=>(bb.out w' _ hD.rd).mono λe w3 ⟨h1,h2⟩=>⟨h1,.of_below h2,trivial⟩) (λhne=>?_);refine ao ?_;refine aD hne [ac,ac,ac,ac,ac,ac,ac,ac,ac,ae] 0 an aA ?_;refine cV λWz a7 aX=>?_
 try dsimp only
 have aM:Below S w Wz:=af a7.below ad aL;go_wp2;refine Uh (v:=.int .i64 D) (by simp [results,Tryz.results339,go_sem]) rfl ?_;exact⟨rfl,HS.out▸aM⟩
def Bg(A B F G:Int)(vF vG:Value)(hA:bj A)(hB:a_ B)(hd:aP A B≠0)(zF:Sz 400 F)(zG:Sz 400 G)(w:World)(hF:bm F vF w)(hG:bm G vG w):
 Rv 321 #[.agg #[A,B],vF,vG] w (ar (ar (cL A B) F) G):=by
 have ad:=h_ hF;have K:=h_ hG;obtain⟨lF,rfl,Z⟩:=hF;obtain⟨lG,rfl,H⟩:=hG;obtain⟨kC,kF,kG,J⟩:=fh w #[A,B] 42 #[decide (F<0),lF] 182 #[decide (G<0),lG] 182;obtain⟨aF,cF,rfl,_⟩:=id Z;obtain⟨aG,cG,rfl,_⟩:=id H;clear Z H;have bv:=li hA hB;have bi:-7000000000<=aP A B/\aP A B<=7000000000:=by unfold aP;omega
 have V:=yN hA hB hd;have a6:4*((aP A B).natAbs:Int)=cL A B:=rfl;have HC:=h_ (nH A B hA hB);have HA:=h_ (lk (aP A B) o_);have ac:=h_ (λW (hb:Below w.heap.size w W)=>nJ F (cL A B) _ (Ui zF.len o_) o_ W (bm.below ad.out hb));have aa:=h_ (λW (hb:Below w.heap.size w W)=>nJ G (cL A B) _ (Ui zG.len o_) o_ W (bm.below K.out hb));have az:=UU F (show cL A B≠0 by omega);have aM:=UO F (show 0<cL A B by omega);have ae:=UU G (show cL A B≠0 by omega);have ax:=UO G (show 0<cL A B by omega);have cB:=Ds (n:=cL A B) (M:=F) V.1;have ab:=h_ (nt (cL A B) (F % cL A B) o_ o_);rw[Q6 F _ V.1] at ab;have g:=h_ (nt (ar (cL A B) F) (G % cL A B) o_ o_);rw[Q3 (B7 _ _)] at g;obtain⟨D,hD⟩:∃D,ar (ar (cL A B) F) G=D:=⟨_,rfl⟩
 rw[hD] at g ⊢;clear hD ad K;generalize ar (cL A B) F=g1 at *;generalize F % cL A B=rF at *;generalize G % cL A B=rG at *;generalize F / cL A B=qF at *;generalize G / cL A B=qG at *;generalize cL A B=N at *;generalize aP A B=d at *;generalize decide (F<0)=sF at *;generalize decide (G<0)=sG at *;generalize (dg F.natAbs).length=nF at *;generalize (dg G.natAbs).length=nG at *;go_enter Tryz.func321,Tryz.ntmps321;go_upto_region 1 with fail
 generalize ((w.alloc _).alloc _).alloc _=W at *;obtain⟨a4,a3⟩:=kC.q2;go_wp2_with fail
 refine ai (HC.out W) λw1 I=>?_;have aL:=af I J.size J;replace kF:=kF.next I
 replace kG:=kG.next I
 clear kC a4 a3 I J;go_wp2_with fail
 refine (HA.out _).mono ?_;rintro e w2 ⟨rfl,rfl⟩;obtain⟨f0,f1⟩:=kF.q2;go_upto_region 2 with fail
 try rw[a6]
 go_wp2_with fail
 refine (ac.out w1 aL).mono ?_;rintro e w2 ⟨v,rfl,⟨lv,rfl,bb⟩,U⟩;obtain⟨s2,p2,rfl,_⟩:=id bb.1;replace aL:=af U aL.size aL;replace kG:=(kG.next U).alloc (.cells #[decide (qF<0),.slice s2 (dg qF.natAbs).length p2] 182);replace aL:Below w.heap.size w (w2.alloc (.cells #[decide (qF<0),.slice s2 (dg qF.natAbs).length p2] 182)):=aL.alloc aL.size _;clear ac U bb f0 f1 kF;go_upto_region 3 with fail
 generalize w2.alloc _=W3 at *;generalize w2.heap.size=r8 at *;obtain⟨f0,f1⟩:=kG.q2;go_wp2_with fail
 refine (aa.out W3 aL).mono ?_;rintro e w4 ⟨v,rfl,⟨lv,rfl,bb⟩,U⟩;obtain⟨s4,p4,rfl,_⟩:=id bb.1;replace aL:=af U aL.size aL;replace aL:Below w.heap.size w (w4.alloc (.cells #[decide (qG<0),.slice s4 (dg qG.natAbs).length p4] 182)):=aL.alloc aL.size _;clear aa U bb f0 f1 kG;go_upto_region 4 with fail
 generalize w4.alloc _=W5 at *;generalize w4.heap.size=bo at *;go_wp2_with fail
 refine (ab.out _).mono ?_;rintro e w6 ⟨rfl,rfl⟩;go_wp2_with fail
 refine (g.out _).mono ?_;rintro e w6 ⟨rfl,rfl⟩;go_wp2;refine Uh (v:=.int .i64 D) (by simp [results,Tryz.results321,go_sem]) rfl ?_;exact⟨rfl,aL⟩
def I6(h:P:=by have:=ui.1 (UX.1 h);omega):=h
def Ja(h:P:=by simp [results,Tryz.results307,go_sem,q0,q1,q2,q3]):=h
def Kw(h:P:=by
 have HI:=h_ (co.out db _ _ rX.1 rZ.1);obtain⟨e0,e1,e2,e3⟩:=kQ.q4;go_wp2_with fail
 refine HI.out.mono ?_;rintro e cv ⟨rfl,a5⟩;replace kQ:=kQ.next a5
 replace V:=V.next a5
 replace rX:=rX.below a5;replace rZ:=rZ.below a5;replace aL:=af a5 (HS.out▸aL.size) aL;clear e0 e1 e2 e3 a5 HI co;obtain⟨ok,aa⟩:∃ok,ik X Z=ok:=⟨_,rfl⟩
 rw[aa];have aX:=h_ aa;have dq:=h_ cm;clear aa cm;cases ok
 .
   obtain⟨r0,r1,r2,r3⟩:=V.q4;have g0:=V.frozen 0;have g1:=V.frozen 1;have g2:=V.frozen 2;have g3:=V.frozen 3;have g4:=V.lt;have k9:=(((V.set 0 false).set 1 (.slice none 0 0)).set 2 false).set 3 (.slice none 0 0);have ad:Below S w (((cv.setCell ⟨S+2,0,none⟩ false).setCell ⟨S+2,1,none⟩ (.slice none 0 0)).setCell ⟨S+2,2,none⟩ false |>.setCell ⟨S+2,3,none⟩ (.slice none 0 0)):=(((aL.setCell s_ _).setCell s_ _).setCell s_ _).setCell s_ _;go_wp2;generalize World.setCell _ _ _=w9 at ad k9 ⊢;obtain⟨q0,q1,q2,q3⟩:=k9.q4;refine Uh (v:=.tuple #[.agg #[false,.slice none 0 0,false,.slice none 0 0],false]) Ja rfl ?_;exact⟨⟨.nilFunc,.nilFunc,.inr ⟨aX.out,rfl⟩⟩,HS.out▸ad⟩
 .obtain⟨e0,e1,e2,e3⟩:=kQ.q4;obtain⟨r0,r1,r2,r3⟩:=V.q4;have g0:=V.frozen 0;have g1:=V.frozen 1;have g2:=V.frozen 2;have g3:=V.frozen 3;have g4:=V.lt;have k9:=(((V.set 0 (decide (X<0))).set 1 (.slice sX (dg X.natAbs).length pX)).set 2 false).set 3 (.slice sZ (dg Z.natAbs).length pZ);have ad:Below S w (((cv.setCell ⟨S+2,0,none⟩ (decide (X<0))).setCell ⟨S+2,1,none⟩ (.slice sX (dg X.natAbs).length pX)).setCell ⟨S+2,2,none⟩ false |>.setCell ⟨S+2,3,none⟩ (.slice sZ (dg Z.natAbs).length pZ)):=(((aL.setCell s_ _).setCell s_ _).setCell s_ _).setCell s_ _;have x9:=rX.far d_ V (oL cv (S+2) (decide (X<0)) (.slice sX (dg X.natAbs).length pX) false (.slice sZ (dg Z.natAbs).length pZ));have z9:=rZ.far d_ V (oL cv (S+2) (decide (X<0)) (.slice sX (dg X.natAbs).length pX) false (.slice sZ (dg Z.natAbs).length pZ));go_wp2;generalize World.setCell _ _ _=w9 at ad k9 x9 z9 ⊢;obtain⟨q0,q1,q2,q3⟩:=k9.q4;refine Uh (v:=.tuple #[.agg #[decide (X<0),.slice sX (dg X.natAbs).length pX,false,.slice sZ (dg Z.natAbs).length pZ],true]) Ja rfl ?_;exact⟨⟨_,_,.inl ⟨aX.out,by rw[dq.out],x9,z9⟩⟩,HS.out▸ad⟩):=h
def zN(h:P:=by
 have:(dg (aT A B x z).natAbs).length≠0:=λh=>ca I6;exact Uz.2 o_):=h
def Sz.div{n:Nat}{F D:Int}(h:Sz n F)(hD:1<=D)(hd:D∣F):Sz n (F / D):=by
 obtain⟨c,rfl⟩:=hd;rw[Vg _ o_];unfold Sz at *;rw[U8] at h;have h1:1*c.natAbs<=D.natAbs*c.natAbs:=Vy _ o_;omega
def aW.form{w:World}{b:Nat}{v:Value}{L:List Int}(h:aW w b v L):∃a F,v=.slice a L.length F:=by
 obtain⟨a,F,h1,_⟩:=h.1;exact⟨a,F,h1⟩
def Lu(b:Nat)(X Z:Int)(w:World)(e:Ending)(w':World):Prop:=(∃lx lz,(ik X Z=true/\e=.returned (.tuple #[.agg #[decide (X<0),lx,decide (Z<0),lz],true])/\aW w' b lx (dg X.natAbs)/\aW w' b lz (dg Z.natAbs))\/(ik X Z=false/\e=.returned (.tuple #[.agg #[false,.slice none 0 0,false,.slice none 0 0],false])))/\Below w.heap.size w w'
def oL(w:World)(r:Nat)(x y u v:Value):ah [r] w ((((w.setCell ⟨r,0,none⟩ x).setCell ⟨r,1,none⟩ y).setCell ⟨r,2,none⟩ u).setCell ⟨r,3,none⟩ v):=((ke w r x y).setCell (p:=⟨r,2,none⟩) (.inr s_) u).setCell (p:=⟨r,3,none⟩) (.inr s_) v
def Ex{A B x z:Int}(hA:bj A)(hB:a_ B)(hd:aP A B≠0)(hG:aT A B x z≠0):(aT A B x z / bU A B x z<0↔aT A B x z<0)/\0<ei A B x z:=by
 have h1:=(yu x z hA hB hd).2;have h2:=M_ h1.1 (pC A B x z);refine⟨h2,?_⟩;have h3:aT A B x z / bU A B x z≠0:=λh=>by
  obtain⟨c,hc⟩:=pC A B x z;rw[hc,Vg _ o_] at h;subst h;rw[W_] at hc;exact hG hc
 unfold ei;split<;>omega
def PW(A B x z:Int)(b:Nat)(lx lz:Value)(hA:bj A)(hB:a_ B)(hd:aP A B≠0)(zx:Sz 80 x)(zz:Sz 80 z)(ca:aT A B x z≠0)(w:World)(hb:b<=w.heap.size)(aZ:aW w b lx (dg x.natAbs))(ba:aW w b lz (dg z.natAbs)):
 Kp 307 #[.agg #[A,B],.agg #[decide (x<0),lx,decide (z<0),lz]] w (Lu b (eE A B x z) (ei A B x z) w):=by
 obtain⟨kC,kT,V,J⟩:=fh w #[A,B] 42 #[decide (x<0),lx,decide (z<0),lz] 209 #[false,.slice none 0 0,false,.slice none 0 0] 209;have cb:=h_ aZ;have cc:=h_ ba;obtain⟨ax,cx,rfl⟩:=aZ.form;obtain⟨az,cz,rfl⟩:=ba.form;clear aZ ba;obtain⟨zF,zG⟩:=yt hA hB zx zz;have b8:=(yu x z hA hB hd).2;obtain⟨cy,cB⟩:=Ex hA hB hd ca;have HF:=h_ (λW (hW:Below w.heap.size w W)=>A4 A B x z b _ _ hA hB zx zz W (Ui hb hW.size) (cb.out.below hW) (cc.out.below hW));have b7:=h_ (λW (hW:Below w.heap.size w W)=>wn A B x z b _ _ hA hB zx zz W (Ui hb hW.size) (cb.out.below hW) (cc.out.below hW));have HD:=h_ (λW (hW:Below w.heap.size w W)=>Mb A B x z b _ _ hA hB hd zx zz W (Ui hb hW.size) (cb.out.below hW) (cc.out.below hW));have c3:=h_ (λW v h=>tc (bk A B x z) (bU A B x z) v (Ui zF.len o_) o_ W h);have bp:=h_ (λW v h=>tc (aT A B x z) (bU A B x z) v (Ui zG.len o_) o_ W h);have zP:=zF.div b8.1 (uD A B x z);have zQ:=zG.div b8.1 (pC A B x z);have b5:=h_ (λW v h=>qr (bk A B x z / bU A B x z) v (Ui zP.len o_) W h);have a6:=h_ (λW v h=>qr (aT A B x z / bU A B x z) v (Ui zQ.len o_) W h);have zX:Sz 400 (eE A B x z):=by unfold eE;split;exact zP.neg;exact zP
 have zZ:Sz 400 (ei A B x z):=by unfold ei;split;exact zQ.neg;exact zQ
 have co:=h_ (λW lx lz aZ ba=>PO (eE A B x z) (ei A B x z) lx lz zX.len zZ.len (U_ cB) W aZ ba);have hX:eE A B x z=if aT A B x z<0 then -(bk A B x z / bU A B x z) else bk A B x z / bU A B x z:=rfl
 have hZ:ei A B x z=if aT A B x z<0 then -(aT A B x z / bU A B x z) else aT A B x z / bU A B x z:=rfl
 have bq:(((dg (aT A B x z).natAbs).length:Int)==0)=false:=by
  exact zN
 have HX:=h_ hX;have HZ:=h_ hZ;have c0:=h_ cy;clear hX hZ cy;generalize eE A B x z=X at *;generalize ei A B x z=Z at *;generalize bk A B x z / bU A B x z=P at *;generalize aT A B x z / bU A B x z=Q at *;generalize bk A B x z % bU A B x z=d2 at *;generalize aT A B x z % bU A B x z=dz at *;generalize bU A B x z=D at *;generalize bk A B x z=F at *;generalize aT A B x z=G at *;generalize decide (x<0)=sx at *;generalize decide (z<0)=sz at *;obtain⟨nx,b6⟩:∃nx,(dg x.natAbs).length=nx:=⟨_,rfl⟩
 obtain⟨nz,dl⟩:∃nz,(dg z.natAbs).length=nz:=⟨_,rfl⟩
 rw[b6] at kC kT V J HF b7 HD ⊢;rw[dl] at kC kT V J HF b7 HD ⊢;clear b6 dl cb cc;obtain⟨S,hS⟩:∃S,w.heap.size=S:=⟨_,rfl⟩
 go_enter Tryz.func307,Tryz.ntmps307;go_upto_region 1 with fail
 generalize ((w.alloc _).alloc _).alloc _=W at *;rw[hS] at kC kT V J hb HF b7 HD;have HS:=h_ hS;clear hS;obtain⟨a4,a3⟩:=kC.q2;obtain⟨t0,t1,t2,t3⟩:=kT.q4;have a9:S<=W.heap.size:=Uo kC.lt;go_wp2_with fail
 refine (b7.out W J).mono ?_;rintro e w1 ⟨v,rfl,a8,I⟩;obtain⟨lG,rfl,rG,cG⟩:=a8.cell;obtain⟨sG,pG,rfl⟩:=rG.form;obtain⟨U,ab⟩:=aw w1 #[decide (G<0),.slice sG (dg G.natAbs).length pG] 182;have aL:=af ab (Ui a9 I.size) (af I a9 J);replace kC:=(kC.next I).next ab
 replace kT:=(kT.next I).next ab
 replace V:=(V.next I).next ab
 replace rG:=rG.below ab;clear a4 a3 t0 t1 t2 t3 I ab J b7 a8 a9;go_upto_region 2 with fail
 generalize w1.alloc _=W2 at *;generalize w1.heap.size=r6 at *;obtain⟨g0,g1⟩:=U.q2;obtain⟨a4,a3⟩:=kC.q2;obtain⟨t0,t1,t2,t3⟩:=kT.q4;go_wp2_with fail
 refine ai (HD.out W2 aL) λw3 aF=>?_;have a9:S<=W2.heap.size:=HS.out▸aL.size;replace aL:=af aF a9 aL;replace kC:=kC.next aF
 replace kT:=kT.next aF
 replace V:=V.next aF
 replace U:=U.next aF
 replace rG:=rG.below aF;clear a4 a3 t0 t1 t2 t3 g0 g1 aF HD a9;obtain⟨a4,a3⟩:=kC.q2;obtain⟨t0,t1,t2,t3⟩:=kT.q4;go_upto_region 5 with fail
 go_wp2_with fail
 refine (HF.out w3 aL).mono ?_;rintro e w4 ⟨v,rfl,a8,K⟩;have dy:=h_ a8.rd;replace aL:=af K (HS.out▸aL.size) aL;replace V:=V.next K
 replace U:=U.next K
 replace rG:=rG.below K;clear a4 a3 t0 t1 t2 t3 K HF a8 kC kT;go_wp2_with fail
 refine (c3.out w4 _ dy.out).mono ?_;rintro e w5 ⟨v5,rfl,a8,ac⟩;replace a8:=a8.le (Ui hb (HS.out▸aL.size));obtain⟨lP,rfl,rP,cP⟩:=a8.cell;obtain⟨sP,pP,rfl⟩:=rP.form;obtain⟨k8,ab⟩:=aw w5 #[decide (P<0),.slice sP (dg P.natAbs).length pP] 182;replace aL:=af ac (HS.out▸aL.size) aL;have c9:S<=w5.heap.size:=HS.out▸aL.size;have d6:S+2<w5.heap.size:=(V.next ac).lt;replace aL:=af ab (HS.out▸aL.size) aL;replace V:=(V.next ac).next ab
 replace U:=(U.next ac).next ab
 replace rG:=(rG.below ac).below ab;replace rP:=rP.below ab;clear ac ab dy c3 a8;go_upto_region 6 with fail
 generalize w5.alloc _=W6 at *;generalize w5.heap.size=r8 at *;obtain⟨g0,g1⟩:=U.q2;go_wp2_with fail
 refine (bp.out W6 (.agg #[decide (G<0),.slice sG (dg G.natAbs).length pG]) ⟨_,rfl,rG.1⟩).mono ?_;rintro e w7 ⟨v7,rfl,a8,a7⟩;replace a8:=a8.le (Ui hb (HS.out▸aL.size));obtain⟨lQ,rfl,rQ,cQ⟩:=a8.cell;obtain⟨sQ,pQ,rfl⟩:=rQ.form;obtain⟨b3,ab⟩:=aw w7 #[decide (Q<0),.slice sQ (dg Q.natAbs).length pQ] 182;have l8:=(k8.next a7).lt;replace aL:=af a7 (HS.out▸aL.size) aL;replace aL:=af ab (HS.out▸aL.size) aL;replace V:=(V.next a7).next ab
 replace k8:=(k8.next a7).next ab
 replace rP:=(rP.below a7).below ab;replace rQ:=rQ.below ab;clear a7 ab bp a8 g0 g1 U rG;go_upto_region 7 with fail
 generalize w7.alloc _=W8 at *;generalize w7.heap.size=bo at *;obtain⟨a0,a1⟩:=k8.q2;obtain⟨b0,b1⟩:=b3.q2;by_cases ae:G<0
 .have hX:=HX.out;have hZ:=HZ.out;rw[Um ae] at hX hZ;have c4:Q<0:=c0.out.2 ae;have c5:decide (Q<0)=true:=V2 c4;rw[<-hX] at b5;rw[<-hZ] at a6;have dc:=h_ cB;clear cB;have d0:=h_ c5;rw[c5] at b3 b0;clear hX hZ HX HZ c5 c4;have a2:=k8.lt;have b2:=b3.lt;have aG:b<=W8.heap.size:=Ui hb (HS.out▸aL.size);have a9:S<=W8.heap.size:=HS.out▸aL.size;have dp:r8≠bo:=o_;have c1:bo≠r8:=o_;have kP:bt b r8 P W8:=⟨_,k8,rP,rfl⟩
  have da:bt b bo Q W8:=⟨_,by rw[d0.out];exact b3,rQ,rfl⟩
  clear k8 b3 rP rQ;go_upto_region 8 with fail
  clear a0 a1 b0 b1;refine iZ 4 [] [(0,40),(1,41),(2,42),(3,43)] [Wh b P,Wh b X,Wh b Q,Wh b Z] k_ k_ k_ trivial ⟨Wh.closed _ _,Wh.closed _ _,Wh.closed _ _,Wh.closed _ _,trivial⟩ ⟨?_,?_,?_,?_,trivial⟩ ?_
  .refine aS.q _ r_ r_ λρ w' H=>?_;have hx:ρ (.tmp 8)=.pointer (some ⟨r8,0,none⟩):=H.bas 8 k_;exact lu _ rfl hx (kP.next H.bel)
  .refine aS.q _ r_ r_ λρ w' H=>?_;obtain⟨v0,e0,p0⟩:=H.dep 0 40 k_;have p0:(Wh b P) v0 w':=p0;exact bl.call 197 #[v0] _ _ _ rfl (H.fn 197) (enters_of Tryz.func197 k_ rfl) (by simp [e0]) ((b5.out w' v0 p0.rd).mono λe w2 ⟨v,h1,h2,h3⟩=>⟨v,h1,h3,h2.le (Ui aG H.bel.size)⟩)
  .refine aS.q _ r_ r_ λρ w' H=>?_;have hx:ρ (.tmp 10)=.pointer (some ⟨bo,0,none⟩):=H.bas 10 k_;exact lu _ rfl hx (da.next H.bel)
  .refine aS.q _ r_ r_ λρ w' H=>?_;obtain⟨v2,e2,p2⟩:=H.dep 2 42 k_;have p2:(Wh b Q) v2 w':=p2;exact bl.call 197 #[v2] _ _ _ rfl (H.fn 197) (enters_of Tryz.func197 k_ rfl) (by simp [e2]) ((a6.out w' v2 p2.rd).mono λe w2 ⟨v,h1,h2,h3⟩=>⟨v,h1,h3,h2.le (Ui aG H.bel.size)⟩)
  intro vs Wt aM bb;have cF:(Wh b X) (vs 1) Wt:=bb.1 1 o_;have cu:(Wh b Z) (vs 3) Wt:=bb.1 3 o_;clear bb;simp only[ew,Nat.reduceBEq,VK,VD,Nat.reduceAdd,UI,U0];obtain⟨d1,cM,bZ,cT⟩:=cF.cell;obtain⟨bX,bY,rfl⟩:=bZ.form;simp only[cM];obtain⟨d7,c8,cX,c7⟩:=cu.cell;obtain⟨bs,g,rfl⟩:=cX.form;simp only[c8];obtain⟨o8,bx,d5,d4⟩:=kP.next aM
  obtain⟨d3,bv,dd,dx⟩:=da.next aM
  obtain⟨x0,x1⟩:=bx.q2;have x2:=bx.frozen 0;have x3:=bx.frozen 1;have x4:=bx.lt;obtain⟨y0,y1⟩:=bv.q2;have y2:=bv.frozen 0;have y3:=bv.frozen 1;have y4:=bv.lt;have cZ:S+2≠r8:=o_;have bz:S+2≠bo:=o_;have c2:bt b r8 X ((Wt.setCell ⟨r8,0,none⟩ (decide (X<0))).setCell ⟨r8,1,none⟩ (.slice bX (dg X.natAbs).length bY)):=bt.put bx rfl bZ cT;have kk:=(bv.far (p:=⟨r8,0,none⟩) c1 (decide (X<0))).far (p:=⟨r8,1,none⟩) c1 (.slice bX (dg X.natAbs).length bY);have b9:aW ((Wt.setCell ⟨r8,0,none⟩ (decide (X<0))).setCell ⟨r8,1,none⟩ (.slice bX (dg X.natAbs).length bY)) b (.slice bs (dg Z.natAbs).length g) (dg Z.natAbs):=cX.far d_ bx (ke _ _ _ _);replace c2:=c2.far dp kk (decide (Z<0)) (.slice bs (dg Z.natAbs).length g);have c6:bt b bo Z ((((Wt.setCell ⟨r8,0,none⟩ (decide (X<0))).setCell ⟨r8,1,none⟩ (.slice bX (dg X.natAbs).length bY)).setCell ⟨bo,0,none⟩ (decide (Z<0))).setCell ⟨bo,1,none⟩ (.slice bs (dg Z.natAbs).length g)):=bt.put kk rfl b9 c7;replace V:=((((V.next aM).far (p:=⟨r8,0,none⟩) cZ (decide (X<0))).far (p:=⟨r8,1,none⟩) cZ (.slice bX (dg X.natAbs).length bY)).far (p:=⟨bo,0,none⟩) bz (decide (Z<0))).far (p:=⟨bo,1,none⟩) bz (.slice bs (dg Z.natAbs).length g);have b4:S<=bo:=o_;replace aL:Below S w ((((Wt.setCell ⟨r8,0,none⟩ (decide (X<0))).setCell ⟨r8,1,none⟩ (.slice bX (dg X.natAbs).length bY)).setCell ⟨bo,0,none⟩ (decide (Z<0))).setCell ⟨bo,1,none⟩ (.slice bs (dg Z.natAbs).length g)):=((((af aM a9 aL).setCell (p:=⟨r8,0,none⟩) c9 _).setCell (p:=⟨r8,1,none⟩) c9 _).setCell (p:=⟨bo,0,none⟩) b4 _).setCell (p:=⟨bo,1,none⟩) b4 _;have k8:bt b r8 X ((((Wt.setCell ⟨r8,0,none⟩ (decide (X<0))).setCell ⟨r8,1,none⟩ (.slice bX (dg X.natAbs).length bY)).setCell ⟨bo,0,none⟩ (decide (Z<0))).setCell ⟨bo,1,none⟩ (.slice bs (dg Z.natAbs).length g)):=c2;have b3:bt b bo Z ((((Wt.setCell ⟨r8,0,none⟩ (decide (X<0))).setCell ⟨r8,1,none⟩ (.slice bX (dg X.natAbs).length bY)).setCell ⟨bo,0,none⟩ (decide (Z<0))).setCell ⟨bo,1,none⟩ (.slice bs (dg Z.natAbs).length g)):=c6;clear c2 c6 kk b9 bx bv kP da aM b5 a6 cM bZ cT c8 cX c7 cF cu;go_upto_region 9 with fail
  generalize (World.setCell (World.setCell (World.setCell (World.setCell _ _ _) _ _) _ _) _ _)=Wz at *;clear x0 x1 x2 x3 x4 y0 y1 y2 y3 y4 a2 b2 d5 d4 dd dx o8 d3 cG cP cQ aG a9 b4 cZ bz dp c1 c9 d6 l8 c0 d0 bq;generalize vs 0=va;generalize vs 1=vb;generalize vs 2=vc;generalize vs 3=vd;clear vs;have cB:=dc.out;obtain⟨lX,cA,rX,_⟩:=k8;obtain⟨lZ,bi,rZ,_⟩:=b3;obtain⟨sX,pX,rfl⟩:=rX.form;obtain⟨sZ,pZ,rfl⟩:=rZ.form;have cm:decide (Z<0)=false:=Vb (XX.2 (U_ cB));rw[cm] at bi co;obtain⟨e0,e1⟩:=cA.q2;obtain⟨e2,e3⟩:=bi.q2;obtain⟨kQ,ab⟩:=aw Wz #[decide (X<0),.slice sX (dg X.natAbs).length pX,false,.slice sZ (dg Z.natAbs).length pZ] 209;replace V:=V.next ab
  replace rX:=rX.below ab;replace rZ:=rZ.below ab;replace aL:=af ab (HS.out▸aL.size) aL;go_upto_region 10 with fail
  clear e0 e1 e2 e3 ab cA bi;generalize World.alloc _ _=db at *;generalize Wz.heap.size=cs at *;exact Kw
 .have hX:=HX.out;have hZ:=HZ.out;rw[Uj ae] at hX hZ;clear HX HZ;subst hX hZ;have c4:¬Z<0:=λh=>ae (c0.out.1 h);have c5:decide (Z<0)=false:=Vb c4;go_upto_region 9 with fail
  replace k8:bt b r8 X W8:=⟨_,k8,rP,rfl⟩
  replace b3:bt b bo Z W8:=⟨_,b3,rQ,rfl⟩
  clear a0 a1 b0 b1 rP rQ b5 a6;obtain⟨lX,cA,rX,_⟩:=k8;obtain⟨lZ,bi,rZ,_⟩:=b3;obtain⟨sX,pX,rfl⟩:=rX.form;obtain⟨sZ,pZ,rfl⟩:=rZ.form;have cm:decide (Z<0)=false:=Vb (XX.2 (U_ cB));rw[cm] at bi co;obtain⟨e0,e1⟩:=cA.q2;obtain⟨e2,e3⟩:=bi.q2;obtain⟨kQ,ab⟩:=aw W8 #[decide (X<0),.slice sX (dg X.natAbs).length pX,false,.slice sZ (dg Z.natAbs).length pZ] 209;replace V:=V.next ab
  replace rX:=rX.below ab;replace rZ:=rZ.below ab;replace aL:=af ab (HS.out▸aL.size) aL;go_upto_region 10 with fail
  clear e0 e1 e2 e3 ab cA bi;generalize World.alloc _ _=db at *;generalize W8.heap.size=cs at *;exact Kw
def rtB(x z:Int):Nat:=max (ci x.natAbs) (ci z.natAbs)
def SR{x z}(hx:(dg x.natAbs).length<=80)(hz:(dg z.natAbs).length<=80):rtB x z<=1120:=by
 have:=uw hx;have:=uw hz;unfold rtB;omega
def Qb(x z:Int)(lx lz:Value)(K:(dg x.natAbs).length<=1000)(G:(dg z.natAbs).length<=1000)(w:World)(aZ:bS w lx (dg x.natAbs))(ba:bS w lz (dg z.natAbs)):
 Rv 238 #[.agg #[decide (x<0),lx,decide (z<0),lz]] w (rtB x z):=by
 have⟨kT,J⟩:=aw w #[decide (x<0),lx,decide (z<0),lz] 209;have HX:=h_ (λW (hb:Below w w W)=>xU x (.agg #[decide (x<0),lx]) K W (bm.below ⟨_,rfl,aZ⟩ hb));have HZ:=h_ (λW (hb:Below w w W)=>xU z (.agg #[decide (z<0),lz]) G W (bm.below ⟨_,rfl,ba⟩ hb));obtain⟨ax,cx,rfl,_⟩:=aZ;obtain⟨az,cz,rfl,_⟩:=ba;have HM:=h_ (mU (ci x.natAbs:Int) (ci z.natAbs:Int));have hR:Hid ((if (ci z.natAbs:Int)<(ci x.natAbs:Int) then (ci x.natAbs:Int) else (ci z.natAbs:Int))=(rtB x z:Int)):=h_ (by unfold rtB;split<;>omega);rw[hR.out] at HM;clear hR;generalize rtB x z=B,ci x.natAbs=bx,ci z.natAbs=bz,decide (x<0)=sx,decide (z<0)=sz,(dg x.natAbs).length=nx,(dg z.natAbs).length=nz at *;go_enter Tryz.func238,Tryz.ntmps238;go_upto_region 1 with fail
 generalize w.alloc _=W at *;have⟨t0,t1,t2,t3⟩:=kT.q4;have t4:=kT.lt;refine br [] (λ_=>false) (λ_=>True) (λ_=>True) k_ (trivial) (aD ⟨W,ah.refl _ _,trivial⟩ [ae,ae,ac,ae,ae] 4 an aA ?_);refine aB 2 (lO (v:=.int .i64 (bx:Int)) (some 5) (λ_=>True) r_ r_ r_ (λ_=>by go_simp) an (λw' hO hD=>(HX.out w' (af hO.below J.size J)).mono λe w3 ⟨h1,h2⟩=>⟨h1,.of_below h2,trivial⟩) (λhne=>?_));refine ao (aB 5 ?_);refine lO (v:=.int .i64 (bz:Int)) (some 8) (λ_=>True) r_ r_ r_ (λ_=>by go_simp) an (λw' hO hD=>(HZ.out w' (af hO.below J.size J)).mono λe w3 ⟨h1,h2⟩=>⟨h1,.of_below h2,trivial⟩) (λhne=>?_);refine ao ?_;refine aB 6 ?_;refine lO (v:=.int .i64 (B:Int)) (some 9) (λ_=>True) r_ r_ r_ (λ_=>by go_simp) an (λw' hO hD=>(HM.out w').mono λe w3 ⟨h1,h2⟩=>⟨h1,h2▸ah.refl _ _,trivial⟩) (λhne=>?_);refine ao ?_;refine aD hne [ac,ac,ac,ac,ac,ac,ac,ae] 0 an aA ?_;refine cV λWz a7 aX=>?_;have aM:Below w.heap.size w Wz:=af a7.below J.size J;go_wp2;refine Uh (v:=.int .i64 (B:Int)) (by simp [results,Tryz.results238,go_sem]) rfl ?_;exact⟨rfl,aM⟩
def vi(h:P:=by simp [results,Tryz.results267,go_sem]):=h
def Ho(h:P:=by rw[b4.out,Uj (by rw[aa];decide)]):=h
def Jb(h:P:=by
 have:(dg (aT A B x z).natAbs).length≠0:=λh=>hg I6;exact Uz.2 o_):=h
def IM(h:P:=by
 refine aS.q _ r_ r_ λρ w' H=>?_;exact DJ 2 o_ _ rfl (H.bas 4 k_)):=h
def dQ(A B:Int):Nat->Int->Int->Option (Option (Int×Int))
 |0,x,z=>some (some (x,z))
 |n+1,x,z=>if aT A B x z=0 then some none else if ik (eE A B x z) (ei A B x z)=true then dQ A B n (eE A B x z) (ei A B x z) else none
def jz(A B X E:Int)(n:Nat):Option (Option (Int×Int)):=if E=0 then some none else dQ A B n X (E*E)
def wl:Option (Option (Int×Int))->Value
 |none=>.tuple #[.int .i64 0,.bool false,.bool false]
 |some none=>.tuple #[.int .i64 0,.bool true,.bool true]
 |some (some r)=>.tuple #[.int .i64 (rtB r.1 r.2),.bool false,.bool true]
def yk{x z}(h:ik x z=true):Sz 80 x/\Sz 80 z:=by
 unfold ik at h;simp at h;have h2:=bH h.2;exact⟨vO h.1,vO o_⟩
theorem yw{A B}:∀{n} {x z} {r:Int×Int},Sz 80 x->Sz 80 z->dQ A B n x z=some (some r)->Sz 80 r.1/\Sz 80 r.2
 |0,x,z,r,hx,hz,h=>by
  simp only[dQ,Vz] at h;subst h;exact⟨hx,hz⟩
 |n+1,x,z,r,hx,hz,h=>by
  unfold dQ at h;split at h
  .cases h
  .split at h
   .rename_i aa;have:=yk aa;exact yw this.1 this.2 h
   .cases h
def qb(b r:Nat)(x z:Int)(w:World):Prop:=∃lx lz,ag r #[decide (x<0),lx,decide (z<0),lz] 209 w/\aW w b lx (dg x.natAbs)/\aW w b lz (dg z.natAbs)
def qb.put{b r}{I}{w}{x z}{lx lz}(hk:ag r I 209 w)(hc:I.size=4)(hx:aW w b lx (dg x.natAbs))(hz:aW w b lz (dg z.natAbs)):
 qb b r x z ((((w.setCell r (decide (x<0))).setCell ⟨r,1,none⟩ lx).setCell ⟨r,2,none⟩ (decide (z<0))).setCell ⟨r,3,none⟩ lz):=by
 refine⟨lx,lz,?_,hx.far d_ hk (oL w r _ _ _ _),hz.far d_ hk (oL w r _ _ _ _)⟩
 match I,hc with
 |⟨[a,b,c,d]⟩,_=>simpa using ((((hk.set 0 (decide (x<0))).set 1 lx).set 2 (decide (z<0))).set 3 lz)
def oD(b:Nat)(x z:Int)(v:Value)(w:World):Prop:=∃lx lz,v=.agg #[decide (x<0),lx,decide (z<0),lz]/\aW w b lx (dg x.natAbs)/\aW w b lz (dg z.natAbs)
def oD.closed(b)(x z)(v):aQ (oD b x z v):=λ_ _ ⟨lx,lz,h1,h2,h3⟩ hb=>⟨lx,lz,h1,h2.below hb,h3.below hb⟩
def TA{o}{ρ:Operand->Value}{w}{b}{x z}(p q)(Z:o.op=.build 209 #[(0,p),(1,q)])(G:Wh b x (ρ p) w)(hq:Wh b z (ρ q) w):bl Tryz.prog o ρ w (oD b x z):=by
 have⟨l1,e1,r1⟩:=G;have⟨l2,e2,r2⟩:=hq;obtain⟨a1,c1,rfl⟩:=r1.form;obtain⟨a2,c2,rfl⟩:=r2.form;refine .value (.agg #[decide (x<0),.slice a1 (dg x.natAbs).length c1,decide (z<0),.slice a2 (dg z.natAbs).length c2]) ?_ ⟨_,_,rfl,r1,r2⟩;unfold execOp;rw[Z];simp [go_sem,e1,e2]
def DJ{o}{ρ:Operand->Value}{w}{r}(k)(hk:k<=2)(x)(Z:o.op=.fieldAddr 46 x k)(hx:ρ x=.pointer (some ⟨r,0,none⟩)):bl Tryz.prog o ρ w (aV (.pointer (some ⟨r,k,none⟩))):=by
 refine .value _ ?_ rfl;unfold execOp;rw[Z];obtain rfl|rfl|rfl:k=0\/k=1\/k=2:=by omega
 all_goals simp [go_sem,hx]
def CI(a:Bool)(p)(n c)(w):(Instr.field 182 (.agg #[a,.slice p n c]) 1).run Tryz.prog w=.ok (.slice p n c) w:=by
 simp [Instr.field,part,asAgg,Xg Tryz.underlying182,go_sem]
def QO(A B X Y E:Int)(n:Nat)(hA:bj A)(hB:a_ B)(hd:aP A B≠0)(hX:a_ X)(hE:0<=E/\E<=20)(hn:n<=5)(w):
 Rv 267 #[.agg #[A,B],.agg #[X,Y,E],n] w (wl (jz A B X E n)):=by
 have⟨kC,kP,J⟩:=cr w #[A,B] 42 #[X,Y,E] 46;have HV:Hid (jz A B X E n=if E=0 then some none else dQ A B n X (E*E)):=rfl;rw[HV.out];by_cases ae:E=0
 .subst ae;rw[Um rfl];go_enter Tryz.func267,Tryz.ntmps267;go_upto_region 1 with fail
  generalize (w.alloc _).alloc _=W at *;have⟨_,_,bX⟩:=kP.q3;go_wp2;exact Uh (v:=.tuple #[(),true,true]) vi rfl ⟨rfl,J⟩
 .rw[Uj ae];have ba:(E==0)=false:=by simpa using ae
  have b7:=aJ (x:=E) (y:=E) 20 20 o_ o_;obtain⟨S,hS⟩:∃S,w.heap.size=S:=⟨_,rfl⟩
  go_enter Tryz.func267,Tryz.ntmps267;go_upto_region 1 with fail
  generalize (w.alloc _).alloc _=W at *;rw[hS] at kC kP J;have HS:=h_ hS;have⟨bY,bZ,bX⟩:=kP.q3;have b0:=kP.lt;have a9:=HS.out▸J.size;go_upto_region 3 with fail
  refine iZ 11 [10] [(10,9),(0,15),(1,16),(2,17),(3,18),(4,19),(5,20),(6,21),(7,22),(8,23),(9,24)] [aV (.pointer (some ⟨S+1,0,none⟩)),aV X,Wh S X,aV (.pointer (some ⟨S+1,2,none⟩)),aV E,aV (.pointer (some ⟨S+1,2,none⟩)),aV E,aV (E*E:Int),Wh S (E*E),oD S X (E*E),PA W #[false,.slice none 0 0,false,.slice none 0 0] 209] k_ k_ k_ ⟨⟨_,_,_,rfl⟩,trivial⟩ ⟨aV.closed _,aV.closed _,Wh.closed _ _,aV.closed _,aV.closed _,aV.closed _,aV.closed _,aV.closed _,Wh.closed _ _,oD.closed _ _ _,PA.closed _ _ _,trivial⟩ ⟨?_,?_,?_,?_,?_,?_,?_,?_,?_,?_,?_,trivial⟩ ?_
  .exact aS.q _ r_ r_ λρ w' H=>DJ 0 o_ _ rfl (H.bas 4 k_)
  .refine aS.q _ r_ r_ λρ w' H=>?_;have⟨v0,e0,p0⟩:=H.dep 0 15 k_;obtain rfl:v0=.pointer (some ⟨S+1,0,none⟩):=p0;exact jj _ rfl e0 ((kP.next H.bel).cell 0)
  .refine aS.q _ r_ r_ λρ w' H=>?_;have⟨v1,e1,p1⟩:=H.dep 1 16 k_;obtain rfl:v1=.int .i64 X:=p1;exact bl.call 195 #[X] _ _ _ rfl (H.fn 195) (enters_of Tryz.func195 k_ rfl) (by simp [e1]) ((ft X o_ w').mono λe w2 ⟨v,h1,h2,h3⟩=>⟨v,h1,h3,h2.le (Ui a9 H.bel.size)⟩)
  .exact IM
  .refine aS.q _ r_ r_ λρ w' H=>?_;have⟨v3,e3,p3⟩:=H.dep 3 18 k_;obtain rfl:v3=.pointer (some ⟨S+1,2,none⟩):=p3;exact jj _ rfl e3 ((kP.next H.bel).cell 2)
  .exact IM
  .refine aS.q _ r_ r_ λρ w' H=>?_;have⟨v5,e5,Z⟩:=H.dep 5 20 k_;obtain rfl:v5=.pointer (some ⟨S+1,2,none⟩):=Z;exact jj _ rfl e5 ((kP.next H.bel).cell 2)
  .refine aS.q _ r_ r_ λρ w' H=>?_;have⟨v4,e4,p4⟩:=H.dep 4 19 k_;obtain rfl:v4=.int .i64 E:=p4;have⟨K,e6,p6⟩:=H.dep 6 21 k_;obtain rfl:K=.int .i64 E:=p6;exact nM _ _ rfl e4 e6 o_
  .refine aS.q _ r_ r_ λρ w' H=>?_;have⟨v7,e7,p7⟩:=H.dep 7 22 k_;obtain rfl:v7=.int .i64 (E*E):=p7;exact bl.call 195 #[(E*E:Int)] _ _ _ rfl (H.fn 195) (enters_of Tryz.func195 k_ rfl) (by simp [e7]) ((ft (E*E) o_ w').mono λe w2 ⟨v,h1,h2,h3⟩=>⟨v,h1,h3,h2.le (Ui a9 H.bel.size)⟩)
  .refine aS.q _ r_ r_ λρ w' H=>?_;have⟨v2,e2,p2⟩:=H.dep 2 17 k_;have p2:(Wh S X) v2 w':=p2;have⟨v8,e8,p8⟩:=H.dep 8 23 k_;have p8:(Wh S (E*E)) v8 w':=p8;exact TA _ _ rfl (by rw[e2];exact p2) (by rw[e8];exact p8)
  .exact kl
  intro vs Wt aM bb;have b8:(oD S X (E*E)) (vs 9) Wt:=bb.1 9 o_;have bq:(PA W #[false,.slice none 0 0,false,.slice none 0 0] 209) (vs 10) Wt:=bb.1 10 o_;have⟨r9,c0,bs,aF⟩:=bq;clear bb;simp only[ew,Nat.reduceBEq,VK,VD,Nat.reduceAdd,UI,U0,c0];obtain⟨l1,l2,ev,q1,q2⟩:=b8;obtain⟨a1,c1,rfl⟩:=q1.form;obtain⟨a2,c2,rfl⟩:=q2.form;simp only[ev];obtain⟨x0,x1,x2,x3⟩:=aF.q4;have y0:=aF.frozen 0;have y1:=aF.frozen 1;have y2:=aF.frozen 2;have y3:=aF.frozen 3;have y4:=aF.lt;have g:S<=r9:=Ui a9 bs;have F:S≠r9:=by have:=kC.lt;omega
  have kD:=qb.put aF rfl q1 q2;have aL:Below S w _:=(((((af aM a9 J).setCell (p:=⟨r9,0,none⟩) g (decide (X<0))).setCell (p:=⟨r9,1,none⟩) g (.slice a1 (dg X.natAbs).length c1)).setCell (p:=⟨r9,2,none⟩) g (decide (E*E<0))).setCell (p:=⟨r9,3,none⟩) g (.slice a2 (dg (E*E).natAbs).length c2))
  have V:=((((kC.next aM).far (p:=⟨r9,0,none⟩) F (decide (X<0))).far (p:=⟨r9,1,none⟩) F (.slice a1 (dg X.natAbs).length c1)).far (p:=⟨r9,2,none⟩) F (decide (E*E<0))).far (p:=⟨r9,3,none⟩) F (.slice a2 (dg (E*E).natAbs).length c2);go_upto_region 4 with fail
  clear x0 x1 x2 x3 y0 y1 y2 y3 y4 ev q1 q2 aF aM kC kP bY bZ bX b0 J;generalize World.setCell _ _ _=W4 at *;have ca:Sz 80 X:=by unfold Sz;omega
  have b5:Sz 80 (E*E):=by unfold Sz;omega
  have HG:=h_ (λW x z lx lz (zx:Sz 80 x) (zz:Sz 80 z) (h0:S<=W.heap.size) h1 h2=>wn A B x z S lx lz hA hB zx zz W h0 h1 h2);have HD:=h_ (λW x z lx lz (zx:Sz 80 x) (zz:Sz 80 z) (hg:aT A B x z≠0) (h0:S<=W.heap.size) h1 h2=>PW A B x z S lx lz hA hB hd zx zz hg W h0 h1 h2);clear hd b7 ae ba a9;generalize b6:E*E=EE at *;have HQ:=h_ b6;clear b6;go_upto_region 5 with fail
  go_loopw [26] (λiv wr=>∃(i:Nat) (x z:Int),i<=n/\iv=.int .i64 i/\qb S r9 x z wr/\ag S #[A,B] 42 wr/\Sz 80 x/\Sz 80 z/\Hid (dQ A B n X EE=dQ A B (n - i) x z)/\Below S w wr) (λiv _=>n - (intOf iv).toNat)
  case atStart=>exact⟨0,X,EE,by omega,rfl,kD,V,ca,b5,rfl,aL⟩
  case round=>
   clear kD V ca b5 aL;obtain⟨i,x,z,hi,rfl,kD,kC,zx,zz,HE,aL⟩:=hrel;obtain⟨lx,lz,k9,rx,rz⟩:=kD;obtain⟨ax,cx,rfl⟩:=rx.form;obtain⟨az,cz,rfl⟩:=rz.form
   rename World=>wr
   have ad:S<=wr.heap.size:=HS.out▸aL.size;by_cases aG:i<n
   .have bp:(i:Int)<(n:Int):=o_;obtain⟨a4,a3⟩:=kC.q2;have a5:=kC.lt;obtain⟨d0,d1,d2,d3⟩:=k9.q4;have H1:=h_ (HG.out wr x z _ _ zx zz ad rx rz);have cc:=CI;obtain⟨m,hm⟩:∃m,n - i=m+1:=⟨n - i - 1,by omega⟩
    have bv:Hid (dQ A B n X EE=if aT A B x z=0 then some none else if ik (eE A B x z) (ei A B x z)=true then dQ A B m (eE A B x z) (ei A B x z) else none):=h_ (by rw[HE.out,hm];rfl);clear HE;by_cases hg:aT A B x z=0
    .have HV:Hid (dQ A B n X EE=some none):=h_ (by rw[bv.out,Um hg]);have bi:(((dg (aT A B x z).natAbs).length:Int)==0)=true:=by rw[hg,Yg,iB];rfl
     clear bv HD HG hg;generalize aT A B x z=G at *;generalize decide (x<0)=sx at *;generalize decide (z<0)=sz at *;go_wp2_with fail
     refine H1.out.mono ?_;rintro e w1 ⟨v,rfl,a8,I⟩;obtain⟨lG,rfl,rG,cG⟩:=a8.cell;obtain⟨sG,pG,rfl⟩:=rG.form;go_wp2;refine Uh (v:=.tuple #[(),true,true]) vi rfl ?_;exact⟨by rw[HQ.out,HV.out];rfl,HS.out▸af I ad aL⟩
    .have H2:=h_ (λW=>HD.out W x z (.slice ax (dg x.natAbs).length cx) (.slice az (dg z.natAbs).length cz) zx zz hg);have bi:(((dg (aT A B x z).natAbs).length:Int)==0)=false:=by
      exact Jb
     have b4:Hid (dQ A B n X EE=if ik (eE A B x z) (ei A B x z)=true then dQ A B m (eE A B x z) (ei A B x z) else none):=h_ (by rw[bv.out,Uj hg]);have a6:=yk (x:=eE A B x z) (z:=ei A B x z);clear bv HD HG hg zx zz;generalize eE A B x z=X1 at *;generalize ei A B x z=Z1 at *;generalize aT A B x z=G at *;generalize decide (x<0)=sx at *;generalize decide (z<0)=sz at *;generalize (dg x.natAbs).length=nx at *;generalize (dg z.natAbs).length=nz at *;go_wp2_with fail
     refine H1.out.mono ?_;rintro e w1 ⟨v,rfl,a8,I⟩;obtain⟨lG,rfl,rG,cG⟩:=a8.cell;obtain⟨sG,pG,rfl⟩:=rG.form;replace aL:=af I ad aL;replace ad:=Ui ad I.size;replace kC:=kC.next I
     replace k9:=k9.next I
     replace rx:=rx.below I;replace rz:=rz.below I;clear a4 a3 a5 d0 d1 d2 d3 I H1 a8 rG cG;obtain⟨a4,a3⟩:=kC.q2;have a5:=kC.lt;obtain⟨d0,d1,d2,d3⟩:=k9.q4;go_upto_region 8 with fail
     go_wp2_with fail
     refine (H2.out w1 ad rx rz).mono ?_;rintro e w2 ⟨⟨lX,lZ,b2⟩,U⟩;clear rx rz H2 d0 d1 d2 d3 a4 a3 a5;replace aL:=af U ad aL;replace ad:=Ui ad U.size;replace kC:=kC.next U
     replace k9:=k9.next U
     rcases b2 with ⟨aa,rfl,rX,rZ⟩|⟨aa,rfl⟩
     .obtain⟨aX,cX,rfl⟩:=rX.form;obtain⟨aZ,cZ,rfl⟩:=rZ.form;have cb:Hid (dQ A B n X EE=dQ A B (n - (i+1)) X1 Z1):=h_ (by rw[b4.out,Um aa];congr 1;omega);obtain⟨zx,zz⟩:=a6 aa;clear b4 a6 aa;obtain⟨b3,ab⟩:=aw w2 #[decide (X1<0),.slice aX (dg X1.natAbs).length cX,decide (Z1<0),.slice aZ (dg Z1.natAbs).length cZ] 209;replace aL:=af ab ad aL;replace kC:=kC.next ab
      replace k9:=k9.next ab
      replace rX:=rX.below ab;replace rZ:=rZ.below ab;go_upto_region 11 with fail
      generalize w2.alloc _=W3,w2.heap.size=bo at *;have⟨e0,e1,e2,e3⟩:=b3.q4;have⟨d0,d1,d2,d3⟩:=k9.q4;have y0:=k9.frozen 0;have y1:=k9.frozen 1;have y2:=k9.frozen 2;have y3:=k9.frozen 3;have y4:=k9.lt;have kn:=qb.put k9 rfl rX rZ;replace aL:Below S w _:=((((aL.setCell (p:=r9) g (decide (X1<0))).setCell (p:=⟨r9,1,none⟩) g (.slice aX (dg X1.natAbs).length cX)).setCell (p:=⟨r9,2,none⟩) g (decide (Z1<0))).setCell (p:=⟨r9,3,none⟩) g (.slice aZ (dg Z1.natAbs).length cZ))
      replace kC:=(((kC.far (p:=r9) F (decide (X1<0))).far (p:=⟨r9,1,none⟩) F (.slice aX (dg X1.natAbs).length cX)).far (p:=⟨r9,2,none⟩) F (decide (Z1<0))).far (p:=⟨r9,3,none⟩) F (.slice aZ (dg Z1.natAbs).length cZ);go_upto_region 12 with fail
      generalize World.setCell _ _ _=W4 at *;go_wp2;go_roundw
      case rel=>exact⟨i+1,X1,Z1,by omega,by go_num,kn,kC,zx,zz,cb,aL⟩
      case measure=>exact aO
     .have HV:Hid (dQ A B n X EE=none):=h_ Ho;have ab:Below w2 w2 (w2.alloc (.cells #[false,.slice none 0 0,false,.slice none 0 0] 209)):=(Uk _ _).alloc (Ug _) _;replace aL:=af ab ad aL;go_upto_region 9 with fail
      generalize w2.alloc _=W3 at *;go_wp2;refine Uh (v:=.tuple #[(),false,false]) vi rfl ?_;exact⟨by rw[HQ.out,HV.out];rfl,HS.out▸aL⟩
   .have bp:¬(i:Int)<(n:Int):=o_;have HV:Hid (dQ A B n X EE=some (some (x,z))):=h_ (by rw[HE.out,show n - i=0 by omega];rfl);have HX:=h_ (λW (hb:Below wr wr W)=>Bn x (.agg #[decide (x<0),.slice ax (dg x.natAbs).length cx]) (Ui zx.len o_) W (bm.below ⟨_,rfl,rx.1⟩ hb));have HZ:=h_ (λW (hb:Below wr wr W)=>Bn z (.agg #[decide (z<0),.slice az (dg z.natAbs).length cz]) (Ui zz.len o_) W (bm.below ⟨_,rfl,rz.1⟩ hb));have hR:Hid (max (ci x.natAbs:Int) (ci z.natAbs:Int)=(rtB x z:Int)):=h_ (by unfold rtB;omega);have⟨d0,d1,d2,d3⟩:=k9.q4;have d4:=k9.lt;generalize ci x.natAbs=bx,ci z.natAbs=bz,decide (x<0)=sx,decide (z<0)=sz,(dg x.natAbs).length=nx,(dg z.natAbs).length=nz at *;go_wp2_with fail
    (refine bP k_ k_ ?_;(repeat (go_big_quiet_step ((go_at_call 308;first|with_reducible exact Calls.quiet_cls an _ (HX.out _ (aU.over _).below)|with_reducible exact Calls.quiet_cls an _ (HZ.out _ (aU.over _).below)))));refine wpQuiet_nil ?_;intro w5 ac)
    go_wp2;refine Uh (v:=.tuple #[.int .i64 (max (bx:Int) (bz:Int)),false,true]) vi rfl ?_;exact⟨by rw[HQ.out,HV.out,hR.out];rfl,HS.out▸af ac ad aL⟩
end Go.Proofs.YtaamhakdhaolmaaGreatDoor
