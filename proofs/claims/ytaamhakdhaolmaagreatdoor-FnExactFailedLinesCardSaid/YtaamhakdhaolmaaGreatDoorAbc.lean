/- Part 28. -/
import Derived.Test.YtaamhakdhaolmaaGreatDoorAaj
import Derived.Test.YtaamhakdhaolmaaGreatDoorAba
namespace Go.Proofs.YtaamhakdhaolmaaGreatDoor
open Go.RowKit
set_option maxHeartbeats 8000000
set_option maxRecDepth 100000
variable {P:Prop}
set_option linter.all false
def OF(A B)(hA:bj A)(hB:a_ B)(bZ:aP A B≠0)(w):
 Kp 182 #[.agg #[A,B]] w (nK w (dC A B)):=by
 have ba:=h_ (Mg A B hA hB bZ);have b6:=h_ (λ(X Y E:Int) (h:ju A B X Y E) (W:World)=>xp A B X Y E hA hB h W);have bv:=h_ (λ(p:Int×Int×Int) (h:p∈fi A B)=>yH hA hB h);have aa:Hid ((fi A B).length<=12002):=pf A B 6001 (-3000);have G:Hid (dC A B=(0,0,0)::(fi A B).filter λp=>(b_ A B p).isSome):=rfl;generalize dC A B=R at G ⊢;generalize fi A B=L at G aa bv ba;obtain⟨kC,-,-⟩:=oh w #[A,B] 42 #[(),(),()] 46;have kS:=bD.built (w.alloc (.cells #[A,B] 42)) (0,0,0);obtain⟨-,-,J⟩:=oh w #[A,B] 42 #[(),(),()] 46;have a9:((w.alloc (.cells #[A,B] 42)).alloc (.cells #[(),(),()] 46)).heap.size=w.heap.size+1+1:=s_;simp at kS;go_enter Tryz.func182,Tryz.ntmps182;go_upto_region 2 with fail
 generalize (w.alloc _).alloc _=W,b0:w.heap.size+1=rS at *;generalize bx:w.heap.size=rC at *;have az:Hid (w.heap.size=rC):=bx;have a7:Hid (W.heap.size=rS+1):=a9;have b4:rC<rS:=o_;have cc:rS<W.heap.size:=o_;have⟨a4,a3⟩:=kC.q2;have a5:=kC.lt;go_wp2_with fail
 refine (ba.out _).mono ?_;rintro e w1 ⟨vl,rfl,ol,I⟩;have ax:=I.size;obtain⟨la,a2,rfl,H⟩:=id ol.form;have bi:=h_ ol.lt;go_wp2;go_loopw [3,13] (λv x wr=>∃k:Nat,k<=L.length/\x=.int .i64 (k:Int)/\bD wr rS v ((0,0,0)::(L.take k).filter λp=>(b_ A B p).isSome)/\(∀j,v.ownBlock=some j->j=rS\/w1.heap.size<=j)/\bD wr W (.slice la L.length a2) L/\Below rS w1 wr) (λ_ x _=>L.length - (intOf x).toNat)
 case atStart=>exact⟨0,UB _,rfl,(kS.below I),λj hj=>.inl (by simpa[Value.ownBlock] using hj.symm),ol,Uk _ _⟩
 case round=>
  obtain⟨k,hk,rfl,Z,hv,hl,F⟩:=hrel;have bX:=F.size;have a6:=aa.out;have mC:ag rC #[A,B] 42 wr:=(F.block rC b4).trans (kC.next I);by_cases aG:k<L.length
  .exact Lx
  .obtain rfl:k=L.length:=by omega
   rw[Ve,<-G.out] at Z;go_wp2;exact Uh (v:=u3) (by simp [results,Tryz.results182,go_sem]) rfl Fr
noncomputable def dh(A B:Int):List P3->Int->Int
 |[],m=>m
 |p::l,m=>dh A B l (if m<jy (b_ A B p) then jy (b_ A B p) else m)
def yD(A B)(p:P3):0<=jy (b_ A B p)/\jy (b_ A B p)<=12:=by
 cases h:b_ A B p with
 |none=>simp [jy]
 |some n=>
  have:=ug _ _ _ _ h;simp only[jy];omega
theorem re(A B):∀(l:List P3) (m),0<=m->m<=12->m<=dh A B l m/\dh A B l m<=12
 |[],m,_,_=>by simp only[dh];omega
 |p::l,m,h0,h1=>by
  have h2:=yD A B p;unfold dh;split
  .rename_i h;have:=re A B l (jy (b_ A B p)) o_ o_;omega
  .exact re A B l m h0 h1
def Sh(A B):b_ A B (0,0,0)=some 1:=by
 unfold b_ iQ dZ;simp
def TN(A B):dh A B (dC A B) 0=dh A B (dC A B) 1:=by
 unfold dC;simp only[dh,Sh,jy];rfl
def DU{A B}{L:List P3}{k}(h:k<L.length)(m):dh A B (L.drop k) m=dh A B (L.drop (k+1)) (if m<jy (b_ A B L[k]) then jy (b_ A B L[k]) else m):=by
 rw[Vq h];rfl
def Ir{A B}(hA:bj A)(hB:a_ B){p:P3}(h:p∈dC A B):bW A B p:=by
 rcases SP h with rfl|⟨h,_⟩
 .exact .zero A B
 .exact .inr (yH hA hB h)
def ye(A B):1<=(dC A B).length/\(dC A B).length<=12003:=by
 unfold dC;have h1:=Xv (λp=>(b_ A B p).isSome) (fi A B);have h2:(fi A B).length<=2*6001:=pf A B 6001 (-3000);simp;omega
def Om(A B:Int)(G:Nat)(v:Value)(L:List P3)(hA:bj A)(hB:a_ B)(a6:L.length<=100000)(a3:∀p∈L,bW A B p)(w:World)(Z:bD w G v L):
 Rv 201 #[.agg #[A,B],v] w (dh A B L 1):=by
 have a8:=h_ a3;have aa:=h_ a6;obtain⟨la,a2,rfl,_⟩:=id Z.form;have bi:=h_ Z.lt;obtain⟨kC,J⟩:=aw w #[A,B] 42;replace Z:=Z.below J;go_enter Tryz.func201,Tryz.ntmps201;go_upto_region 1 with fail
 generalize w.alloc _=W at *;generalize bx:w.heap.size=rC at *;have az:Hid (w.heap.size=rC):=bx;go_wp2;go_loopw [5,12] (λmo x wr=>∃(k:Nat) (m:Int),k<=L.length/\x=.int .i64 (k:Int)/\mo=.int .i64 m/\(0<=m/\m<=12)/\Hid (dh A B (L.drop k) m=dh A B L 1)/\Below W.heap.size W wr) (λ_ x _=>L.length - (intOf x).toNat)
 case atStart=>exact⟨0,1,UB _,rfl,rfl,by omega,h_ rfl,Uk _ _⟩
 case round=>
  obtain⟨k,m,hk,rfl,rfl,hm,HG,F⟩:=hrel;have mC:=kC.next F
  have ba:=af F (Uo kC.lt) J;have a6:=aa.out;by_cases aG:k<L.length
  .
    obtain⟨a',ae,aZ,hf⟩:=(Z.below F).form;obtain⟨g,bz,q1,q2,q3,bq,_⟩:=hf k aG;obtain⟨rfl,rfl⟩:la=a'/\a2=ae:=by simp only[Xl] at aZ;exact⟨aZ.1,aZ.2.2⟩
    subst bz;have co:=a8.out L[k] (UA aG);have I:=h_ (DU (A:=A) (B:=B) aG m);have bb:=yD A B L[k];have b7:=h_ ((h_ (λ(p:P3) (h:bW A B p) (W:World)=>wv A B p.1 p.2.1 p.2.2 hA hB h W)).out L[k] co);generalize b_ A B L[k]=od at *;generalize L[k]=p at *;obtain⟨x,y,e⟩:=p;simp only at q1 q2 q3;obtain⟨aX,aM⟩:=mC.q2;have b1:=mC.lt;obtain⟨kX,U⟩:=aw wr #[x,y,e] 46;go_upto_region 5 with fail
    replace mC:=mC.next U
    have ab:=F.trans (U.mono F.size);generalize wr.alloc _=W2 at *;generalize wr.heap.size=rX at *;obtain⟨aX,aM⟩:=mC.q2;have b1:=mC.lt;obtain⟨b2,a1,aL⟩:=kX.q3;have b3:=kX.lt;go_wp2_with fail
    refine (b7.out _).mono ?_;rintro e' w3 ⟨rfl,aF⟩;have V:=ab.trans (aF.mono ab.size);cases od with
    |none=>
     have HT:Hid (dh A B (L.drop (k+1)) m=dh A B L 1):=h_ (by rw[<-HG.out,I.out];show dh A B _ m=dh A B _ (if m<0 then 0 else m);rw[Uj (show ¬m<0 by omega)]);simp only[io];go_wp2;go_roundw
     case rel=>exact⟨k+1,m,by omega,by go_num,by congr 1<;>omega,hm,HT,V⟩
     case measure=>exact aO
    |some n=>
     simp only[jy] at bb;have HT:Hid (dh A B (L.drop (k+1)) (if m<n then n else m)=dh A B L 1):=h_ (by rw[<-HG.out,I.out];rfl);simp only[io];go_wp2;go_roundw
     case rel=>exact⟨k+1,_,by omega,by go_num,by congr 1<;>(split<;>omega),by split<;>omega,HT,V⟩
     case measure=>exact aO
  .obtain rfl:k=L.length:=by omega
   have HE:Hid (dh A B L 1=m):=h_ (by rw[<-HG.out,X6];rfl);go_wp2;go_ret;exact⟨congrArg (λx=>Ending.returned (Value.int .i64 x)) HE.out.symm,az.out▸ba⟩
def bD.over1{r}{W w}{G}{g n F:Nat}{L:List P3}(h:bD W G (.slice g n F) L)(Z:ah [r] W w)(hx:g≠r):bD w G (.slice g n F) L:=by
 refine⟨h.1,?_⟩;rcases h.2 with h0|⟨g',ae,aM,hv,hg,hh,r'⟩
 .exact .inl h0
 .obtain rfl:g=g':=by simp only[Xl,Vz,XR] at hv;exact hv.1.1
  exact .inr ⟨g,ae,aM,hv,hg,(Z.block g (Uv.1 hh).1 (by simpa using hx)).trans hh,r'⟩
def Lg(g:Int)(w:World)(e:Ending)(w':World):Prop:=∃x y z,e=.returned (.tuple #[.agg #[.int .i64 x,.int .i64 y,.int .i64 z],.int .i64 g])/\Below w w w'
def Qc(A B:Int)(G:Nat)(v:Value)(L:List P3)(hA:bj A)(hB:a_ B)(a6:L.length<=100000)(a3:∀p∈L,bW A B p)(w:World)(Z:bD w G v L):
 Kp 183 #[.agg #[A,B],v] w (Lg (dh A B L 0) w):=by
 have a8:=h_ a3;have aa:=h_ a6;obtain⟨la,a2,rfl,_⟩:=id Z.form;have bi:=h_ Z.lt;obtain⟨kC,V,kB,J⟩:=fh w #[A,B] 42 #[(),(),()] 46 #[(),(),()] 46;replace Z:=Z.below J;go_enter Tryz.func183,Tryz.ntmps183;go_upto_region 2 with fail
 generalize ((w.alloc _).alloc _).alloc _=W at *;have h1:w.heap.size<w.heap.size+1:=o_;have h2:w.heap.size+1<w.heap.size+1+1:=o_;generalize w.heap.size+1+1=rB at *;generalize w.heap.size+1=rR at *;generalize bx:w.heap.size=rC at *;have az:Hid (w.heap.size=rC):=bx;have a9:=Uo kC.lt;have bZ:=kB.lt;go_wp2;go_loopw [7,14] (λmo x wr=>∃(k:Nat) (m a b c:Int),k<=L.length/\x=.int .i64 (k:Int)/\mo=.int .i64 m/\(0<=m/\m<=12)/\Hid (dh A B (L.drop k) m=dh A B L 0)/\ag rB #[a,b,c] 46 wr/\bD wr G (.slice la L.length a2) L/\ah [rB] W wr) (λ_ x _=>L.length - (intOf x).toNat)
 case atStart=>exact⟨0,0,0,0,0,UB _,rfl,rfl,by omega,h_ rfl,kB,Z,ah.refl _ _⟩
 case round=>
  obtain⟨k,m,a,b,c,hk,rfl,rfl,hm,HG,K,hl,hO⟩:=hrel;have mC:=kC.over hO u_;have F:=V.over hO u_;have ba:Below rC w wr:=hO.belowGe J o_ u_;have bX:=hO.size;have a6:=aa.out;by_cases aG:k<L.length
  .have ac:=h_ hl;obtain⟨a',ae,aZ,hf⟩:=hl.form;obtain⟨g,bz,q1,q2,q3,bq,_⟩:=hf k aG;obtain⟨rfl,rfl⟩:la=a'/\a2=ae:=by simp only[Xl] at aZ;exact⟨aZ.1,aZ.2.2⟩
   subst bz;have co:=a8.out L[k] (UA aG);have I:=h_ (DU (A:=A) (B:=B) aG m);have bb:=yD A B L[k];have b7:=h_ ((h_ (λ(p:P3) (h:bW A B p) (W:World)=>Px A B p.1 p.2.1 p.2.2 hA hB h W)).out L[k] co);generalize b_ A B L[k]=od at *;generalize L[k]=p at *;obtain⟨x,y,e⟩:=p;simp only at q1 q2 q3;obtain⟨aX,aM⟩:=mC.q2;have b1:=mC.lt;obtain⟨kX,U⟩:=aw wr #[x,y,e] 46;go_upto_region 5 with fail
   replace mC:=mC.next U
   replace K:=K.next U
   have bv:=hO.next U
   have a7:=hl.below U;have cb:rB<wr.heap.size:=o_;generalize wr.alloc _=W2 at *;generalize wr.heap.size=rX at *;obtain⟨aX,aM⟩:=mC.q2;have b1:=mC.lt;obtain⟨b2,a1,aL⟩:=kX.q3;have b3:=kX.lt;go_wp2_with fail
   refine (b7.out _).mono ?_;rintro e' w3 ⟨rfl,aF⟩;have ab:=bv.next aF
   have bp:=a7.below aF;replace K:=K.next aF
   replace kX:=kX.next aF
   generalize jy od=n at *;by_cases cZ:m<n
   .have HT:Hid (dh A B (L.drop (k+1)) n=dh A B L 0):=h_ (by rw[<-HG.out,I.out,Um cZ]);obtain⟨b2,a1,aL⟩:=kX.q3;obtain⟨bY,b0,b4⟩:=K.q3;have b6:=K.frozen 0;have b9:=K.frozen 1;have ca:=K.frozen 2;have k9:=((K.set 0 x).set 1 y).set 2 e;have ax:ah [rB] W (((w3.setCell ⟨rB,0,none⟩ x).setCell ⟨rB,1,none⟩ y).setCell ⟨rB,2,none⟩ e):=((ab.setCell (.inr s_) _).setCell (.inr s_) _).setCell (.inr s_) _;have b8:bD (((w3.setCell ⟨rB,0,none⟩ x).setCell ⟨rB,1,none⟩ y).setCell ⟨rB,2,none⟩ e) G (.slice (some ⟨g,0,none⟩) L.length a2) L:=bD.over1 bp ((((ah.refl [rB] w3).setCell (.inr s_) _).setCell (.inr s_) _).setCell (.inr s_) _) (by have:=(bi.out g rfl).2;omega);go_wp2;go_roundw
    case rel=>exact⟨k+1,n,x,y,e,by omega,by go_num,by congr 1<;>omega,by omega,HT,k9,b8,ax⟩
    case measure=>exact aO
   .have HT:Hid (dh A B (L.drop (k+1)) m=dh A B L 0):=h_ (by rw[<-HG.out,I.out,Uj cZ]);go_wp2;go_roundw
    case rel=>exact⟨k+1,m,a,b,c,by omega,by go_num,by congr 1<;>omega,by omega,HT,K,bp,ab⟩
    case measure=>exact aO
  .obtain rfl:k=L.length:=by omega
   have HE:Hid (dh A B L 0=m):=h_ (by rw[<-HG.out,X6];rfl);obtain⟨bY,b0,b4⟩:=K.q3;obtain⟨bo,bs,H⟩:=F.q3;have a4:=F.frozen 0;have a5:=F.frozen 1;have b5:=F.frozen 2;have k9:=((F.set 0 a).set 1 b).set 2 c;have ad:Below rC w (((wr.setCell ⟨rR,0,none⟩ a).setCell ⟨rR,1,none⟩ b).setCell ⟨rR,2,none⟩ c):=((ba.setCell u_ _).setCell u_ _).setCell u_ _;go_wp2;generalize (World.setCell (World.setCell (World.setCell _ _ _) _ _) _ _)=w9 at k9 ad ⊢;obtain⟨q0,q1,q2⟩:=k9.q3;exact Uh (v:=.tuple #[.agg #[a,b,c],m]) (by simp [results,Tryz.results183,go_sem,q0,q1,q2]) rfl ⟨a,b,c,by rw[HE.out],az.out▸ad⟩
noncomputable def p_(A B:Int):Value:=.tuple #[.int .i64 (((dC A B).length:Int) / (dh A B (dC A B) 1)),dh A B (dC A B) 1,true]
def LY(A B)(hC:be A B=true)(w):
 Rv 142 #[.agg #[A,B]] w (p_ A B):=by
 have⟨hA,hB⟩:=fe hC;have h0:=λW=>jG A B W;rw[hC] at h0;have HC:=h_ h0;have h1:=λW=>L0 A B hA hB W;unfold nK at h1;have HT:=h_ h1;have hl:=ye A B;have HG:=h_ (λG v W Z=>Om A B G v (dC A B) hA hB o_ (λp h=>Ir hA hB h) W Z);have hg:=re A B (dC A B) 1 o_ o_;unfold p_;generalize dh A B (dC A B) 1=g at *;generalize dC A B=L at *;have hq:0<=(L.length:Int) / g/\(L.length:Int) / g<=L.length:=⟨VY o_ o_,VQ _ o_⟩
 have⟨kC,J⟩:=aw w #[A,B] 42;go_enter Tryz.func142,Tryz.ntmps142;go_upto_region 1 with fail
 generalize w.alloc _=W at *;have⟨a4,a3⟩:=kC.q2;have a5:=kC.lt;go_wp2_with fail
 refine ai (HC.out _) λw1 I=>?_;have H:=af I J.size J;replace kC:=kC.next I
 have⟨a4,a3⟩:=kC.q2;have a5:=kC.lt;go_wp2_with fail
 refine (HT.out _).mono ?_;rintro e w2 ⟨v,rfl,ov,U⟩;have az:=af U H.size H;replace kC:=kC.next U
 have⟨a4,a3⟩:=kC.q2;obtain⟨la,a2,rfl,_⟩:=id ov.form;go_wp2_with fail
 refine ai (HG.out _ _ _ ov) λw3 aF=>?_;go_wp2;go_ret3;exact⟨rfl,(af aF az.size az)⟩
def LW(A B)(hC:be A B=true)(w):
 Rv 129 #[.agg #[A,B]] w (p_ A B):=by
 have⟨hA,hB,bZ⟩:=Bb hC;have h0:=λW=>fP A B W;rw[hC] at h0;have HC:=h_ h0;have h1:=λW=>OF A B hA hB bZ W;unfold nK at h1;have HT:=h_ h1;have hl:=ye A B;have ca:=λG v W Z=>Qc A B G v (dC A B) hA hB o_ (λp h=>Ir hA hB h) W Z;rw[TN] at ca;unfold Lg at ca;have HG:=h_ ca;have hg:=re A B (dC A B) 1 o_ o_;unfold p_;generalize dh A B (dC A B) 1=g at *;generalize dC A B=L at *;have hq:0<=(L.length:Int) / g/\(L.length:Int) / g<=L.length:=⟨VY o_ o_,VQ _ o_⟩
 have⟨kC,J⟩:=aw w #[A,B] 42;go_enter Tryz.func129,Tryz.ntmps129;go_upto_region 1 with fail
 generalize w.alloc _=W at *;have⟨a4,a3⟩:=kC.q2;have a5:=kC.lt;go_wp2_with fail
 refine ai (HC.out _) λw1 I=>?_;have H:=af I J.size J;replace kC:=kC.next I
 have⟨a4,a3⟩:=kC.q2;have a5:=kC.lt;go_wp2_with fail
 refine (HT.out _).mono ?_;rintro e w2 ⟨v,rfl,ov,U⟩;have az:=af U H.size H;replace kC:=kC.next U
 have⟨a4,a3⟩:=kC.q2;obtain⟨la,a2,rfl,_⟩:=id ov.form;go_wp2_with fail
 refine (HG.out _ _ _ ov).mono ?_;rintro e w3 ⟨x,y,z,rfl,aF⟩;have aG:=af aF az.size az;go_wp2;go_ret3;exact⟨rfl,(aG.alloc aG.size (.cells #[x,y,z] 46))⟩
end Go.Proofs.YtaamhakdhaolmaaGreatDoor
