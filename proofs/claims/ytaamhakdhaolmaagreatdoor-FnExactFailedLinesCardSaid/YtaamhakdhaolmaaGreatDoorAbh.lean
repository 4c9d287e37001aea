/- Part 33. -/
import Derived.Test.YtaamhakdhaolmaaGreatDoorAbg
namespace Go.Proofs.YtaamhakdhaolmaaGreatDoor
open Go.RowKit
set_option maxHeartbeats 8000000
set_option maxRecDepth 100000
variable {P:Prop}
set_option linter.all false
def ET(h:P:=by
 exact⟨_,_,_,_,rfl,ad,(λh=>by cases h),(λk h=>⟨by have:=(U9 Z k h).1;omega,Un (U9 Z k h).2 ax.size⟩),_,_,_,rfl⟩):=h
def J5(h:P:=by
 clear Z;go_enter Tryz.func68,Tryz.ntmps68;go_upto_region 2 with fail
 generalize (w.alloc _).alloc _=W at *;generalize aa:w.heap.size+1=rB at *;have ac:w.heap.size<rB:=o_;clear aa;have aF:Hid (W.heap.size=W.heap.size):=h_ rfl;obtain⟨S,hS⟩:∃S,W.heap.size=S:=⟨_,rfl⟩
 have V:rB<S:=by have:=U.lt;omega
 have b9:g<S:=o_;have cb:w.heap.size<S:=by have:=H.lt;omega
 have HS:=h_ hS;have h0:kH w W rB S (.slice none 0 0) [] W:=⟨aq.nil _ _,U,H,J,.refl _ _⟩
 clear hS H U J aF aG;have F:=h0;go_upto_region 5 with fail
 go_loopw [22] (λiv wr=>(iv=.int .i64 0/\wr=W)) (λiv _=>1 - (intOf iv).toNat)
 case atStart=>exact⟨rfl,rfl⟩
 case round=>
  obtain⟨rfl,rfl⟩:=hrel
  rename World=>W
  obtain⟨Z,U,H,aL,ab⟩:=F;go_upto_region 10 with fail
  go_wp2_with fail
  refine (aZ.out _).mono ?_;rintro e w1 ⟨⟨x9,rfl⟩,rfl⟩;obtain⟨c0,c1,c2,c3⟩:=U.q4;obtain⟨d0,d1,d2,d3⟩:=H.q4;have f0:=H.frozen 0;have f1:=H.frozen 1;have f2:=H.frozen 2;have f3:=H.frozen 3;have fl:=H.lt;have k9:=(((H.set 0 (.slice none 0 0)).set 1 ()).set 2 ()).set 3 (.string (⟨#[]⟩));have ad:=(((aL.setCell (p:=⟨w.heap.size,0,none⟩) (Ug _) (.slice none 0 0)).setCell (p:=⟨w.heap.size,1,none⟩) (Ug _) ()).setCell (p:=⟨w.heap.size,2,none⟩) (Ug _) ()).setCell (p:=⟨w.heap.size,3,none⟩) (Ug _) (.string (⟨#[]⟩));have ax:=((((ah.refl [w.heap.size] W).setCell (p:=⟨w.heap.size,0,none⟩) (.inr s_) (.slice none 0 0)).setCell (p:=⟨w.heap.size,1,none⟩) (.inr s_) ()).setCell (p:=⟨w.heap.size,2,none⟩) (.inr s_) ()).setCell (p:=⟨w.heap.size,3,none⟩) (.inr s_) (.string (⟨#[]⟩));go_wp2;clear c0 c1 c2 c3 d0 d1 d2 d3 f0 f1 f2 f3;generalize World.setCell _ _ _=w9 at ad k9 ax ⊢;obtain⟨q0,q1,q2,q3⟩:=k9.q4;refine Uh (v:=.tuple #[.agg #[.slice none 0 0,(),(),.string (⟨#[]⟩)],false]) ms rfl ?_;exact ET):=h
def Iq(h:P:=by
 refine⟨.inr ⟨rfl,_,ae.step HS.out ac V bo K⟩,?_⟩;simp [intOf]):=h
def ag.under{r B:Nat}{I:Array Value}{T:TypeId}{w w':World}(h:ag r I T w)(hb:Below B w w')(hr:r<B):ag r I T w':=(hb.block r hr).trans h
def xT(u:aj)(hu:u.size<=10000)(n:Int)(hn:cg u=some n)(w:World):Rw 101 #[u] w (.tuple #[n,true]):=by
 refine (BL u o_ w).mono ?_;rintro e w1 ⟨v,rfl,⟨m,rfl,hm⟩,rfl⟩;have cy:jn u.data.toList=some n:=hn;rw[cy,hm n cy];exact⟨rfl,rfl⟩
def yp(u:aj)(hu:u.size<=10000)(hn:cg u=none)(w:World):Kp 101 #[u] w λe w'=>(∃x:Int,e=.returned (.tuple #[x,false]))/\w=w':=by
 refine (BL u o_ w).mono ?_;rintro e w1 ⟨v,rfl,⟨m,rfl,hm⟩,rfl⟩;have cy:jn u.data.toList=none:=hn;rw[cy];exact⟨⟨m,rfl⟩,rfl⟩
def kH(w W:World)(rB S:Nat)(G:Value)(xs:List Int)(wr:World):Prop:=
 aq wr S G xs/\ag rB #[G,(),(),.string ⟨#[]⟩] 98 wr/\ag w.heap.size #[.slice none 0 0,(),(),.string ⟨#[]⟩] 98 wr/\Below w.heap.size w wr/\ah [rB] W wr
def kH.step{w W wr w4:World}{rB S:Nat}{G v':Value}{xs:List Int}{n:Int}(h:kH w W rB S G xs wr)(hS:W.heap.size=S)(aa:w.heap.size<rB)(V:rB<S)(bo:aq w4 S v' (xs++[n]))(K:Below S wr w4):kH w W rB S v' (xs++[n]) (w4.setCell ⟨rB,0,none⟩ v'):=by
 obtain⟨_,U,H,aL,hO⟩:=h;have bi:ah [rB] w4 (w4.setCell ⟨rB,0,none⟩ v'):=(ah.refl _ _).setCell (.inr s_) v';have g:ah [rB] W w4:=⟨K.os.trans hO.os,K.tape.trans hO.tape,K.output.trans hO.output,Ui hO.size K.size,λk hk hn=>(K.block k (hS▸hk)).trans (hO.block k hk hn)⟩
 refine⟨mN bo bi (λk hk hm=>?_),(U.under K V).set 0 v',(H.under K o_).far (p:=⟨rB,0,none⟩) uF v',?_,g.trans bi⟩
 .have:=(U9 bo k hk).1;rw[UD] at hm;omega
 .exact (aL.trans (K.mono o_)).setCell (p:=⟨rB,0,none⟩) vg v'
def PD(g c:Nat)(u:aj)(hu:u.size<=10000)(w:World)(hg:g<w.heap.size)(q1:w.cell? ⟨g,1,none⟩=some (.string u)):
 Kp 68 #[.string ⟨#[110]⟩,.slice (some ⟨g,1,none⟩) 1 c] w (dX (cg u).isSome (λG _ _ _ w'=>∃n,cg u=some n/\aq w' w.heap.size G [n]) w):=by
 obtain⟨H,U,J⟩:=cr w #[.slice none 0 0,(),(),.string ⟨#[]⟩] 98 #[.slice none 0 0,(),(),.string ⟨#[]⟩] 98;have aG:=Un hg J.size;have aM:=(J.cell (p:=⟨g,1,none⟩) hg).trans q1;clear q1;cases Z:cg u with
 |none=>
  have aZ:=h_ (yp u hu Z);rw[show (none:Option Int).isSome=false from rfl];exact J5
 |some n=>
  have az:=h_ (xT u hu n Z);rw[show (some n:Option Int).isSome=true from rfl];clear Z;go_enter Tryz.func68,Tryz.ntmps68;go_upto_region 2 with fail
  generalize (w.alloc _).alloc _=W at *;generalize aa:w.heap.size+1=rB at *;have ac:w.heap.size<rB:=o_;clear aa;have aF:Hid (W.heap.size=W.heap.size):=h_ rfl;obtain⟨S,hS⟩:∃S,W.heap.size=S:=⟨_,rfl⟩
  have V:rB<S:=by have:=U.lt;omega
  have b9:g<S:=o_;have cb:w.heap.size<S:=by have:=H.lt;omega
  have HS:=h_ hS;have h0:kH w W rB S (.slice none 0 0) [] W:=⟨aq.nil _ _,U,H,J,.refl _ _⟩
  clear hS H U J aF aG;have F:=h0;go_upto_region 5 with fail
  go_loopw [22] (λiv wr=>(iv=.int .i64 0/\wr=W)\/(iv=.int .i64 1/\∃G,kH w W rB S G [n] wr)) (λiv _=>1 - (intOf iv).toNat)
  case atStart=>exact .inl ⟨rfl,rfl⟩
  case round=>
   rcases hrel with ⟨rfl,rfl⟩|⟨rfl,G,I⟩
   .rename World=>W
    have ae:=F;obtain⟨Z,U,H,aL,ab⟩:=F;have a6:S<=W.heap.size:=HS.out▸(Ui (X5 HS.out.symm.symm) (HS.out▸ab.size));go_upto_region 10 with fail
    go_wp2_with fail
    refine (az.out _).mono ?_;rintro e w1 ⟨rfl,rfl⟩;go_upto_region 13 with fail
    have f0:=U.frozen 0;have c0:W.cell? ⟨rB,0,none⟩=some (.slice none 0 0):=U.cell 0;have fl:=U.lt;go_wp2_with (at_builtin;refine fN (y:=n) rfl _ _ rfl S _ [] rfl Z rfl d_ a6 ?_;intro v' w4 bo K bY;obtain⟨aX,cX,rfl,_⟩:=id bo.form;have f9:=(U.under K V).frozen 0;have c9:w4.cell? ⟨rB,0,none⟩=some _:=(U.under K V).cell 0)
    exact Iq
   .rename World=>W2
    obtain⟨Z,U,H,aL,ab⟩:=I;obtain⟨aX,cX,rfl,_⟩:=Z.form;simp only[Uw,Vc,U7] at Z U;obtain⟨c0,c1,c2,c3⟩:=U.q4;obtain⟨d0,d1,d2,d3⟩:=H.q4;have f0:=H.frozen 0;have f1:=H.frozen 1;have f2:=H.frozen 2;have f3:=H.frozen 3;have fl:=H.lt;have k9:=(((H.set 0 (.slice aX 1 cX)).set 1 ()).set 2 ()).set 3 (.string (⟨#[]⟩));have ad:=(((aL.setCell (p:=⟨w.heap.size,0,none⟩) (Ug _) (.slice aX 1 cX)).setCell (p:=⟨w.heap.size,1,none⟩) (Ug _) ()).setCell (p:=⟨w.heap.size,2,none⟩) (Ug _) ()).setCell (p:=⟨w.heap.size,3,none⟩) (Ug _) (.string (⟨#[]⟩));have ax:=((((ah.refl [w.heap.size] W2).setCell (p:=⟨w.heap.size,0,none⟩) (.inr s_) (.slice aX 1 cX)).setCell (p:=⟨w.heap.size,1,none⟩) (.inr s_) ()).setCell (p:=⟨w.heap.size,2,none⟩) (.inr s_) ()).setCell (p:=⟨w.heap.size,3,none⟩) (.inr s_) (.string (⟨#[]⟩));go_wp2;clear c0 c1 c2 c3 d0 d1 d2 d3 f0 f1 f2 f3;generalize World.setCell _ _ _=w9 at ad k9 ax ⊢;obtain⟨q0,q1,q2,q3⟩:=k9.q4;refine Uh (v:=.tuple #[.agg #[.slice aX 1 cX,(),(),.string (⟨#[]⟩)],true]) ms rfl ?_;refine⟨_,_,_,_,rfl,ad,(λ_=>⟨n,rfl,?_⟩),(λk h=>⟨by have:=(U9 Z k h).1;omega,Un (U9 Z k h).2 ax.size⟩),_,_,_,rfl⟩;have h1:aq w9 S (.slice aX 1 cX) [n]:=mN Z ax (λk hk hm=>by have:=(U9 Z k hk).1;rw[UD] at hm;omega);exact h1.le o_
def OK(g c:Nat)(u u2:aj)(hu:u.size<=10000)(bz:u2.size<=10000)(w:World)(hg:g<w.heap.size)(q1:w.cell? ⟨g,1,none⟩=some (.string u))(q2:w.cell? ⟨g,2,none⟩=some (.string u2)):
 Kp 68 #[.string ⟨#[110,110]⟩,.slice (some ⟨g,1,none⟩) 2 c] w (dX ((cg u).isSome&&(cg u2).isSome) (λG _ _ _ w'=>∃n m,cg u=some n/\cg u2=some m/\aq w' w.heap.size G [n,m]) w):=by
 obtain⟨H,U,J⟩:=cr w #[.slice none 0 0,(),(),.string ⟨#[]⟩] 98 #[.slice none 0 0,(),(),.string ⟨#[]⟩] 98;have aG:=Un hg J.size;have aM:=(J.cell (p:=⟨g,1,none⟩) hg).trans q1;clear q1;have a3:=(J.cell (p:=⟨g,2,none⟩) hg).trans q2;clear q2;cases Z:cg u with
 |none=>
  have aZ:=h_ (yp u hu Z);rw[show ((none:Option Int).isSome&&(cg u2).isSome)=false from rfl];exact J5
 |some n=>
  have az:=h_ (xT u hu n Z);clear Z;cases bb:cg u2 with
  |none=>
   have aZ:=h_ (yp u2 bz bb);rw[show ((some n:Option Int).isSome&&(none:Option Int).isSome)=false from rfl];clear bb;go_enter Tryz.func68,Tryz.ntmps68;go_upto_region 2 with fail
   generalize (w.alloc _).alloc _=W at *;generalize aa:w.heap.size+1=rB at *;have ac:w.heap.size<rB:=o_;clear aa;have aF:Hid (W.heap.size=W.heap.size):=h_ rfl;obtain⟨S,hS⟩:∃S,W.heap.size=S:=⟨_,rfl⟩
   have V:rB<S:=by have:=U.lt;omega
   have b9:g<S:=o_;have cb:w.heap.size<S:=by have:=H.lt;omega
   have HS:=h_ hS;have h0:kH w W rB S (.slice none 0 0) [] W:=⟨aq.nil _ _,U,H,J,.refl _ _⟩
   clear hS H U J aF aG;have F:=h0;have a2:g≠rB:=o_;go_upto_region 5 with fail
   go_loopw [22] (λiv wr=>(iv=.int .i64 0/\wr=W)\/(iv=.int .i64 1/\∃G,kH w W rB S G [n] wr)) (λiv _=>1 - (intOf iv).toNat)
   case atStart=>exact .inl ⟨rfl,rfl⟩
   case round=>
    rcases hrel with ⟨rfl,rfl⟩|⟨rfl,G,I⟩
    .rename World=>W
     have ae:=F;obtain⟨Z,U,H,aL,ab⟩:=F;have a6:S<=W.heap.size:=HS.out▸(Ui (X5 HS.out.symm.symm) (HS.out▸ab.size));go_upto_region 10 with fail
     go_wp2_with fail
     refine (az.out _).mono ?_;rintro e w1 ⟨rfl,rfl⟩;go_upto_region 13 with fail
     have f0:=U.frozen 0;have c0:W.cell? ⟨rB,0,none⟩=some (.slice none 0 0):=U.cell 0;have fl:=U.lt;go_wp2_with (at_builtin;refine fN (y:=n) rfl _ _ rfl S _ [] rfl Z rfl s_ a6 ?_;intro v' w4 bo K bY;obtain⟨aX,cX,rfl,_⟩:=id bo.form;have f9:=(U.under K V).frozen 0;have c9:w4.cell? ⟨rB,0,none⟩=some _:=(U.under K V).cell 0)
     exact Iq
    .rename World=>W2
     have a4:=(I.2.2.2.2.cell (p:=⟨g,2,none⟩) (by rw[HS.out];exact b9) (by simpa using a2)).trans a3;obtain⟨aX,cX,rfl,_⟩:=I.1.form;simp only[Uw,Vc,U7] at I;replace F:=I;obtain⟨Z,U,H,aL,ab⟩:=F;go_upto_region 10 with fail
     go_wp2_with fail
     refine (aZ.out _).mono ?_;rintro e w1 ⟨⟨x9,rfl⟩,rfl⟩;obtain⟨c0,c1,c2,c3⟩:=U.q4;obtain⟨d0,d1,d2,d3⟩:=H.q4;have f0:=H.frozen 0;have f1:=H.frozen 1;have f2:=H.frozen 2;have f3:=H.frozen 3;have fl:=H.lt;have k9:=(((H.set 0 (.slice aX 1 cX)).set 1 ()).set 2 ()).set 3 (.string (⟨#[]⟩));have ad:=(((aL.setCell (p:=⟨w.heap.size,0,none⟩) (Ug _) (.slice aX 1 cX)).setCell (p:=⟨w.heap.size,1,none⟩) (Ug _) ()).setCell (p:=⟨w.heap.size,2,none⟩) (Ug _) ()).setCell (p:=⟨w.heap.size,3,none⟩) (Ug _) (.string (⟨#[]⟩));have ax:=((((ah.refl [w.heap.size] W2).setCell (p:=⟨w.heap.size,0,none⟩) (.inr s_) (.slice aX 1 cX)).setCell (p:=⟨w.heap.size,1,none⟩) (.inr s_) ()).setCell (p:=⟨w.heap.size,2,none⟩) (.inr s_) ()).setCell (p:=⟨w.heap.size,3,none⟩) (.inr s_) (.string (⟨#[]⟩));go_wp2;clear c0 c1 c2 c3 d0 d1 d2 d3 f0 f1 f2 f3;generalize World.setCell _ _ _=w9 at ad k9 ax ⊢;obtain⟨q0,q1,q2,q3⟩:=k9.q4;refine Uh (v:=.tuple #[.agg #[.slice aX 1 cX,(),(),.string (⟨#[]⟩)],false]) ms rfl ?_;exact ET
  |some m=>
   have a1:=h_ (xT u2 bz m bb);rw[show ((some n:Option Int).isSome&&(some m:Option Int).isSome)=true from rfl];clear bb;go_enter Tryz.func68,Tryz.ntmps68;go_upto_region 2 with fail
   generalize (w.alloc _).alloc _=W at *;generalize aa:w.heap.size+1=rB at *;have ac:w.heap.size<rB:=o_;clear aa;have aF:Hid (W.heap.size=W.heap.size):=h_ rfl;obtain⟨S,hS⟩:∃S,W.heap.size=S:=⟨_,rfl⟩
   have V:rB<S:=by have:=U.lt;omega
   have b9:g<S:=o_;have cb:w.heap.size<S:=by have:=H.lt;omega
   have HS:=h_ hS;have h0:kH w W rB S (.slice none 0 0) [] W:=⟨aq.nil _ _,U,H,J,.refl _ _⟩
   clear hS H U J aF aG;have F:=h0;have a2:g≠rB:=o_;go_upto_region 5 with fail
   go_loopw [22] (λiv wr=>(iv=.int .i64 0/\wr=W)\/(iv=.int .i64 1/\∃G,kH w W rB S G [n] wr)\/(iv=.int .i64 2/\∃G,kH w W rB S G [n,m] wr)) (λiv _=>2 - (intOf iv).toNat)
   case atStart=>exact .inl ⟨rfl,rfl⟩
   case round=>
    rcases hrel with ⟨rfl,rfl⟩|⟨rfl,G,I⟩|⟨rfl,G,I⟩
    .rename World=>W
     have ae:=F;obtain⟨Z,U,H,aL,ab⟩:=F;have a6:S<=W.heap.size:=HS.out▸(Ui (X5 HS.out.symm.symm) (HS.out▸ab.size));go_upto_region 10 with fail
     go_wp2_with fail
     refine (az.out _).mono ?_;rintro e w1 ⟨rfl,rfl⟩;go_upto_region 13 with fail
     have f0:=U.frozen 0;have c0:W.cell? ⟨rB,0,none⟩=some (.slice none 0 0):=U.cell 0;have fl:=U.lt;go_wp2_with (at_builtin;refine fN (y:=n) rfl _ _ rfl S _ [] rfl Z rfl s_ a6 ?_;intro v' w4 bo K bY;obtain⟨aX,cX,rfl,_⟩:=id bo.form;have f9:=(U.under K V).frozen 0;have c9:w4.cell? ⟨rB,0,none⟩=some _:=(U.under K V).cell 0)
     refine⟨.inr (.inl ⟨rfl,_,ae.step HS.out ac V bo K⟩),?_⟩;simp [intOf]
    .rename World=>W2
     have a4:=(I.2.2.2.2.cell (p:=⟨g,2,none⟩) (by rw[HS.out];exact b9) (by simpa using a2)).trans a3;obtain⟨aX,cX,rfl,_⟩:=I.1.form;simp only[Uw,Vc,U7] at I;replace F:=I;replace az:=a1;have ae:=F;obtain⟨Z,U,H,aL,ab⟩:=F;have a6:S<=W2.heap.size:=HS.out▸(Ui (X5 HS.out.symm.symm) (HS.out▸ab.size));go_upto_region 10 with fail
     go_wp2_with fail
     refine (az.out _).mono ?_;rintro e w1 ⟨rfl,rfl⟩;go_upto_region 13 with fail
     have f0:=U.frozen 0;have c0:W2.cell? ⟨rB,0,none⟩=some (.slice aX 1 cX):=U.cell 0;have fl:=U.lt;go_wp2_with (at_builtin;refine fN (y:=m) rfl _ _ rfl S _ [n] rfl Z rfl s_ a6 ?_;intro v' w4 bo K bY;obtain⟨aX,cX,rfl,_⟩:=id bo.form;have f9:=(U.under K V).frozen 0;have c9:w4.cell? ⟨rB,0,none⟩=some _:=(U.under K V).cell 0)
     refine⟨.inr (.inr ⟨rfl,_,ae.step HS.out ac V bo K⟩),?_⟩;simp [intOf]
    .rename World=>W3
     obtain⟨Z,U,H,aL,ab⟩:=I;obtain⟨aX,cX,rfl,_⟩:=Z.form;simp only[Uw,Vc,U7] at Z U;obtain⟨c0,c1,c2,c3⟩:=U.q4;obtain⟨d0,d1,d2,d3⟩:=H.q4;have f0:=H.frozen 0;have f1:=H.frozen 1;have f2:=H.frozen 2;have f3:=H.frozen 3;have fl:=H.lt;have k9:=(((H.set 0 (.slice aX 2 cX)).set 1 ()).set 2 ()).set 3 (.string (⟨#[]⟩));have ad:=(((aL.setCell (p:=⟨w.heap.size,0,none⟩) (Ug _) (.slice aX 2 cX)).setCell (p:=⟨w.heap.size,1,none⟩) (Ug _) ()).setCell (p:=⟨w.heap.size,2,none⟩) (Ug _) ()).setCell (p:=⟨w.heap.size,3,none⟩) (Ug _) (.string (⟨#[]⟩));have ax:=((((ah.refl [w.heap.size] W3).setCell (p:=⟨w.heap.size,0,none⟩) (.inr s_) (.slice aX 2 cX)).setCell (p:=⟨w.heap.size,1,none⟩) (.inr s_) ()).setCell (p:=⟨w.heap.size,2,none⟩) (.inr s_) ()).setCell (p:=⟨w.heap.size,3,none⟩) (.inr s_) (.string (⟨#[]⟩));go_wp2;clear c0 c1 c2 c3 d0 d1 d2 d3 f0 f1 f2 f3;generalize World.setCell _ _ _=w9 at ad k9 ax ⊢;obtain⟨q0,q1,q2,q3⟩:=k9.q4;refine Uh (v:=.tuple #[.agg #[.slice aX 2 cX,(),(),.string (⟨#[]⟩)],true]) ms rfl ?_;refine⟨_,_,_,_,rfl,ad,(λ_=>⟨n,m,rfl,rfl,?_⟩),(λk h=>⟨by have:=(U9 Z k h).1;omega,Un (U9 Z k h).2 ax.size⟩),_,_,_,rfl⟩;have h1:aq w9 S (.slice aX 2 cX) [n,m]:=mN Z ax (λk hk hm=>by have:=(U9 Z k hk).1;rw[UD] at hm;omega);exact h1.le o_
abbrev jY(b:Bool)(Q:er)(u:aj)(tl:bV):Prop:=∀g F W,dP g (u::tl) W->tl.length+1<=F->Kp 68 #[.string (ch u),.slice (if F=1 then some ⟨g,0,none⟩ else some ⟨g,1,none⟩) tl.length (F - 1)] W (dX b Q W)
def G9(h:P:=by injection e1 with e1;injection e1 with e1;injection e1 with e1;subst e1;exact h3.lt):=h
def Jm(h:P:=by injection e1 with e1;injection e1 with e1;injection e1 with e1;subst e1;exact h3):=h
def GR(h:P:=by injection e with e;injection e with e;injection e with e;subst e;exact h5):=h
def An(h:P:=by
 refine aD hne [ac,ac,ac,ac,ac,ac,ac,ac,ac,ac,ac,ac,ae] 0 (aI.and (bz _ _ _ _ _ _)) aA ?_;refine cV λWz a7 aX=>?_;exact bp r9 p n c a b T Wz ⟨bs,aX.1,aX.2⟩):=h
def GL(h:P:=by
 intro E hE bv cb;(repeat (first|(refine gB ?_;go_big_quiet_step ((go_at_call 69;exact Calls.quiet_clsS _ (a5.out _)));refine wpQuiet_nil ?_)|refine gA ?_));exact gC rfl):=h
def FK(h:P:=by
 exact An):=h
section
variable {P:Program}{id:Nat}{ops:Array Oper}{b:Bool}{Q:Exit->Act->au}{a:Act}{w:World}
def ja{A:Nat->bT->Nat->Nat->Int->Int->aj->Act}(F:Nat->bT->Nat->Nat->Int->Int->aj->au)(h1:(∀r p n c x y t W1,F r p n c x y t W1->Q .normal (A r p n c x y t) W1)->(Code.region id ops b).wp P Q a w)(h2:∀r p n c x y t W1,F r p n c x y t W1->Q .normal (A r p n c x y t) W1):(Code.region id ops b).wp P Q a w:=h1 h2
end
def cH.txw{w}{G}{v}{xs}(h:cH w G v xs)(hn:xs≠[]):∃g F,v=.slice (some ⟨g,0,none⟩) xs.length F/\xs.length<=F/\dP g xs w/\G<=g:=by
 have h0:=Vi.2 hn;obtain⟨a,F,rfl,hc,hf⟩:=nD h;obtain⟨g,rfl,hg,hb,_,_⟩:=hf 0 h0;refine⟨g,F,rfl,hc,⟨hg,λi hi=>?_⟩,hb⟩;have⟨g',e,_,_,_,K⟩:=hf i hi;injection e with e;injection e with e;subst e;have:=K 0 (.string xs[i]) o_ (by simp [hi]);simpa using this
def fZ(Q:er):Prop:=(∀v a b T,aQ (Q v a b T))/\∀r9 v a b T w w',Q v a b T w->ah [r9] w w'->v.ownBlock≠some r9->Q v a b T w'
def cE(W:World)(ok:Bool)(Q:er)(p:bT)(n c:Nat)(a b:Int)(T:aj)(w':World):Prop:=Below W W w'/\(ok=true->Q (.slice p n c) a b T w')/\∀k,(Value.slice p n c).ownBlock=some k->k<w'.heap.size
def eR(W:World)(ok:Bool)(Q:er)(E:au)(r9:Nat)(v:Value)(w':World):Prop:=
 ∃p n c a b T,v=.tuple #[.agg #[.slice p n c,.int .i64 a,.int .i64 b,.string T],.bool ok]/\cE W ok Q p n c a b T w'/\E w'/\(Value.slice p n c).ownBlock≠some r9
def cE.closed{W}{ok}{Q:er}(hQ:fZ Q)(p)(n c)(a b)(T):aQ (cE W ok Q p n c a b T):=λ_ _ ⟨h2,h3,h4⟩ hb=>⟨af hb h2.size h2,λh=>hQ.1 _ a b T _ _ (h3 h) hb,λk hk=>Un (h4 k hk) hb.size⟩
def cE.over{W w w'}{ok}{Q:er}(hQ:fZ Q){p}{n c}{a b}{T}{r9}(h:cE W ok Q p n c a b T w)(Z:ah [r9] w w')(hr:W.heap.size<=r9)(hn:(Value.slice p n c).ownBlock≠some r9):cE W ok Q p n c a b T w':=
 ⟨Z.belowGe h.1 h.1.size ii,λh1=>hQ.2 r9 _ a b T _ _ (h.2.1 h1) Z hn,λk hk=>Un (h.2.2 k hk) Z.size⟩
def eR.closed{W}{ok}{Q:er}(hQ:fZ Q){E:au}(hE:aQ E)(r9)(v):aQ (eR W ok Q E r9 v):=λ_ _ ⟨p,n,c,a,b,T,h1,h2,h3,h4⟩ hb=>⟨p,n,c,a,b,T,h1,cE.closed hQ _ _ _ _ _ _ _ _ h2 hb,hE _ _ h3 hb,h4⟩
def dX.ln{W w1 w2:World}{ok}{Q:er}{e}{E:au}(hE:aQ E)(he:E w1){r9}(hr:r9<w1.heap.size)(hb:Below W W w1)(h:dX ok Q w1 e w2):∃v,e=.returned v/\ah [] w1 w2/\eR W ok Q E r9 v w2:=by
 obtain⟨G,a,b,T,rfl,U,hq,Z,x,n,c,rfl⟩:=h;exact⟨_,rfl,.of_below U,x,n,c,a,b,T,rfl,⟨af U hb.size hb,hq,λk hk=>(Z k hk).2⟩,hE _ _ he U,λh9=>by have:=(Z r9 h9).1;omega⟩
def eR.get{W}{ok}{Q:er}{E:au}{r9}{w'}{p}{n c}{a b:Int}{T:aj}(h:eR W ok Q E r9 (.tuple #[.agg #[.slice p n c,a,b,T],ok]) w'):cE W ok Q p n c a b T w'/\E w'/\(Value.slice p n c).ownBlock≠some r9:=by
 have⟨p',H,c',a',Z,g,h1,h2⟩:=h;have h3:((p=p'/\n=H/\c=c')/\a=a'/\b=Z/\T=g):=(by simpa[XO] using h1)
 obtain⟨⟨rfl,rfl,rfl⟩,rfl,rfl,rfl⟩:=h3;exact h2
def Pl(r:Nat)(s:CS)(v0 v1 v2:Value)(t:aj)(hs:t.size<=3000)(V:bL t 32≠[])(u:aj)(tl:bV)(K:bL t 32=u::tl)(Q:er)(hQ:fZ Q)
 (a3:jY false Q u tl)
 (w:World)(hk:fs r s v0 v1 v2 w):
 Kp 52 #[.pointer (some ⟨r,0,none⟩),t] w (aH r v0 v1 v2 w (cC,s)):=by
 have U:=h_ (gz t 32 w o_);rw[K] at U;have a5:=h_ (jf u);generalize hm:tl.length=m at *;go_enter Tryz.func52,Tryz.ntmps52;go_wp2_with fail
 refine U.out.mono ?_;rintro e w1 ⟨v,rfl,a1,I⟩;obtain⟨g,F,rfl,bo,H,a6⟩:=a1.txw s_;have q0:w1.cell? ⟨g,0,none⟩=some (.string u):=H.2 0 s_;simp at bo ⊢;go_upto_region 2 with fail
 have bq:=H.1;have b6:0<w1.heap.size:=o_;have bz:=@cE.closed w1 false Q hQ;have bZ:=λ(E:au) (hE:aQ E) r9=>@eR.closed w1 false Q hQ E hE r9;have a4:=h_ (λW (hb:Below w1.heap.size w1 W)=>a3 g F W (H.below hb) o_);clear a3 H;apply ja (λr9 p n c a b T Wz=>w1.heap.size<=r9/\ag r9 #[.slice p n c,.int .i64 a,.int .i64 b,.string T] 98 Wz/\cE w1 false Q p n c a b T Wz)
 .intro bp;refine br [] (λ_=>false) (λ_=>True) (λ_=>True) k_ trivial ?_;apply lc ⟨w1,ah.refl _ _,trivial⟩ [ae,ae,ae,ae,ae,ae] 7 an aA k_ k_ k_ k_ s_
  .exact GL
  refine aR [6,10] (ak.cons ?_ (ak.cons ?_ ak.nil))
  .refine bG (some 20) (λv=>eR w1 false Q (λ_=>True) 0 v) (λv=>bZ _ an 0 v) (λw' hO _=>(a4.out w' hO.below).mono λe w2 h=>dX.ln an trivial (Un b6 hO.size) hO.below h) (λv hne=>?_);obtain⟨w8,b1,p,n,c,a,b,T,rfl,_⟩:=id hne;refine ao ?_;refine aD hne [ac,ac,ac,ac,ac,ac,ac,ae,ae,ae] 3 (bZ _ an 0 _) aA ?_;refine aB 10 ?_;refine bI (some 6) (λv w'=>∃r9,v=.pointer (some ⟨r9,0,none⟩)/\w1.heap.size<=r9/\ag r9 #[.slice none 0 0,(),(),.string ⟨#[]⟩] 98 w'/\cE w1 false Q p n c a b T w'/\(Value.slice p n c).ownBlock≠some r9) r_ r_ r_ (λ_ _ _ ⟨r9,h1,h2,h3,h4,h5⟩ hb=>⟨r9,h1,h2,h3.next hb,bz _ _ _ _ _ _ _ _ h4 hb,h5⟩) (λw' hO hd=>⟨.pointer (some ⟨w'.heap.size,0,none⟩),w'.alloc (.cells #[.slice none 0 0,(),(),.string ⟨#[]⟩] 98),by go_simp,hO.alloc _,w'.heap.size,rfl,hO.size,ag.new w' _ _,bz _ _ _ _ _ _ _ _ hd.get.1 ((Uk _ _).alloc (Ug _) _),λh=>by have:=hd.get.1.2.2 _ h;omega⟩) (λv hne=>?_);obtain⟨w9,ax,r9,rfl,bs,_⟩:=id hne;refine ao ?_;refine aB 11 ?_;refine fm (v:=.agg #[.slice p n c,a,b,T]) r9 #[.slice none 0 0,(),(),.string ⟨#[]⟩] (λw'=>ag r9 #[.slice p n c,a,b,T] 98 w'/\cE w1 false Q p n c a b T w') (.inl bs) (λw' ⟨r',e,_,h,_⟩=>by injection e with e;injection e with e;injection e with e;subst e;exact h) (aI.and (bz _ _ _ _ _ _)) (λw' b7 ⟨r',e,h2,h3,h4,h5⟩ Z hk=>⟨hk,h4.over hQ Z bs GR⟩) (λhne=>?_);exact FK
  .refine bI (some 6) (λv w'=>∃r9,v=.pointer (some ⟨r9,0,none⟩)/\w1.heap.size<=r9/\ag r9 #[.slice none 0 0,(),(),.string ⟨#[]⟩] 98 w') r_ r_ r_ (λ_ _ _ ⟨r9,h1,h2,h3⟩ hb=>⟨r9,h1,h2,h3.next hb⟩) (λw' hO hd=>⟨.pointer (some ⟨w'.heap.size,0,none⟩),w'.alloc (.cells #[.slice none 0 0,(),(),.string ⟨#[]⟩] 98),by go_simp,hO.alloc _,w'.heap.size,rfl,hO.size,ag.new w' _ _⟩) (λv hne=>?_);obtain⟨w9,ax,r9,rfl,bs,_⟩:=id hne;refine ao ?_;refine aB 6 ?_;refine bG (some 20) (λv=>eR w1 false Q (ag r9 #[.slice none 0 0,(),(),.string ⟨#[]⟩] 98) r9 v) (λv=>bZ _ aI r9 v) (λw' hO ⟨r',e1,_,h3⟩=>(a4.out w' hO.below).mono λe w2 h=>dX.ln aI Jm G9 hO.below h) (λv hne=>?_);obtain⟨w8,b1,p,n,c,a,b,T,rfl,_⟩:=id hne;refine ao ?_;refine aD hne [ac,ac,ac,ac,ac,ac,ac,ae,ae,ae] 2 (bZ _ aI r9 _) aA ?_;refine aB 11 ?_;refine fm (v:=.agg #[.slice p n c,a,b,T]) r9 #[.slice none 0 0,(),(),.string ⟨#[]⟩] (λw'=>ag r9 #[.slice p n c,a,b,T] 98 w'/\cE w1 false Q p n c a b T w') (.inl bs) (λw' h=>h.get.2.1) (aI.and (bz _ _ _ _ _ _)) (λw' b7 h Z hk=>⟨hk,h.get.1.over hQ Z bs h.get.2.2⟩) (λhne=>?_);exact FK
 .rintro r9 p n c a b T Wz ⟨bs,k9,aZ,ab,az⟩;have aM:=af aZ I.size I;have HX:Hid (aH r v0 v1 v2 w (cC,s) (.returned cC) Wz):=h_ (by obtain⟨vl,h1,h2⟩:=hk;exact⟨rfl,.of_below aM,vl,h1.below aM,h2.below aM⟩);clear hk;generalize (if F=1 then (some ⟨g,0,none⟩:bT) else some ⟨g,1,none⟩)=ad at *;go_wp2;go_ret;exact HX.out
def Gg(h:P:=by
 try simp only[Value.cells]
 refine aD hne [ac,ac,ac,ac,ac,ac,ac,ac,ac,ac,ac,ac,ac,ac,ae] 0 (KD.closed (bn W) _) aA ?_;refine jc k_ (λWz a7 aX=>?_) _;exact bp G Wz ⟨a7,aX.1,o_,aX.2.head⟩):=h
def K8(h:P:=by
 refine aR [13] ?_;refine ak.cons ?_ ?_
 .refine fk (v:=.agg #[(),(),(),(),()]) [] [] (.inl U) (bn W) (λ_ _ h Z=>Z.belowGe h h.size ii) s_ (λhne=>?_);exact Gg
 exact ak.nil):=h
def J9(h:P:=by
 refine aR [13] ?_;refine ak.cons ?_ ?_
 .refine fk (v:=.agg #[c1,c2,lo,hi,t]) [] [] (.inl U) (bn W) (λ_ _ h Z=>Z.belowGe h h.size ii) s_ (λhne=>?_);exact Gg
 exact ak.nil):=h
def pA(h:P:=by
 go_wp2;go_ret;exact HF.out w1 (af I J.size J)):=h
def aH.same{r:Nat}{v0 v1 v2 vl:Value}{s:CS}{T:aj}{w w':World}(hk:ct r s.A s.B s.X s.Y s.E vl v0 v1 v2 w)(Z:am w (r+1) vl s.L)(hb:Below w.heap.size w w'):aH r v0 v1 v2 w (T,s) (.returned T) w':=
 ⟨rfl,.of_below hb,vl,hk.below hb,Z.below hb⟩
def aH.move{r:Nat}{A B X Y E:Int}{L:aK}{v0 v1 v2 vl:Value}{w w1 w2:World}{e:Ending}{x y z:Int}(Z:am w (r+1) vl L)(hb:Below w.heap.size w w1)(h:fG r (cD eW true) (if true then ct r A B x y z vl v0 v1 v2 else ct r A B X Y E vl v0 v1 v2) w1 e w2):aH r v0 v1 v2 w (cY ⟨A,B,X,Y,E,L⟩ (some (x,y,z))) e w2:=by
 exact vq
def aH.stay{r:Nat}{A B X Y E:Int}{L:aK}{v0 v1 v2 vl:Value}{w w1 w2:World}{e:Ending}{x y z:Int}(Z:am w (r+1) vl L)(hb:Below w.heap.size w w1)(h:fG r (cD eW false) (if false then ct r A B x y z vl v0 v1 v2 else ct r A B X Y E vl v0 v1 v2) w1 e w2):aH r v0 v1 v2 w (cY ⟨A,B,X,Y,E,L⟩ none) e w2:=by
 exact vq
def aH.told{r:Nat}{v0 v1 v2 vl:Value}{s:CS}{t:aj}{b:Bool}{w w':World}(hk:ct r s.A s.B s.X s.Y s.E vl v0 v1 v2 w)(Z:am w (r+1) vl s.L)(hb:Below w.heap.size w w'):aH r v0 v1 v2 w (cf s t b) (.returned (.string (cD t b))) w':=by
 cases b
 .exact aH.same hk Z hb
 .exact aH.same hk Z hb
def aH.keep{r:Nat}{A B X Y E:Int}{L M:aK}{v0 v1 v2 vl v:Value}{w w1 w2:World}{e:Ending}(Z:am w1 w.heap.size v M)(hr:r<w.heap.size)(hb:Below w.heap.size w w1)(h:fG r (cD eW true) (if true then ct r A B X Y E v v0 v1 v2 else ct r A B X Y E vl v0 v1 v2) w1 e w2):aH r v0 v1 v2 w (eY ⟨A,B,X,Y,E,L⟩ (some M)) e w2:=by
 obtain⟨rfl,h2,h3⟩:=h;exact⟨rfl,kf hb h2,v,h3,(Z.le hr).past h2⟩
def aH.turn{r:Nat}{A B X Y E:Int}{L:aK}{v0 v1 v2 vl:Value}{w w1 w2:World}{e:Ending}{x y a b:Int}{f:Bool}(hf:f=true->x=a/\y=b)(Z:am w (r+1) vl L)(hb:Below w.heap.size w w1)(h:fG r (cD eW f) (if f then ct r x y 0 0 0 vl v0 v1 v2 else ct r A B X Y E vl v0 v1 v2) w1 e w2):aH r v0 v1 v2 w (iJ ⟨A,B,X,Y,E,L⟩ f a b) e w2:=by
 exact FM
def OT(r:Nat)(A B X Y E:Int)(L:aK)(vl v0 v1 v2:Value)(p:bT)(n c:Nat)(a b:Int)(T:aj)(aa:CS.ok ⟨A,B,X,Y,E,L⟩)(w:World)(hk:ct r A B X Y E vl v0 v1 v2 w)(Z:am w (r+1) vl L):
 Kp 82 #[.pointer (some ⟨r,0,none⟩),iK,.agg #[.slice p n c,a,b,T]] w (aH r v0 v1 v2 w (gT X Y E,⟨A,B,X,Y,E,L⟩)):=by
 have HT:=h_ (De A B X Y E aa.2.1);have HF:=h_ (λw1 (hb:Below w.heap.size w w1)=>@aH.same r v0 v1 v2 vl ⟨A,B,X,Y,E,L⟩ (gT X Y E) w w1 hk Z hb);generalize gT X Y E=V at *;obtain⟨kW,J⟩:=aw w #[.slice p n c,a,b,T] 98;have ab:=hk.below J;simp only[iK];go_enter Tryz.func82,Tryz.ntmps82;go_upto_region 1 with fail
 generalize w.alloc _=W at *;obtain⟨s0,s1,s2,s3,s4,s5⟩:=ab.q6;have sl:=ab.lt;go_wp2_with fail
 refine ai (HT.out W) λw1 I=>?_;exact pA
def N6(r:Nat)(A B X Y E:Int)(L:aK)(vl v0 v1 v2:Value)(p:bT)(n c:Nat)(a b:Int)(T:aj)(aa:CS.ok ⟨A,B,X,Y,E,L⟩)(w:World)(hk:ct r A B X Y E vl v0 v1 v2 w)(Z:am w (r+1) vl L):
 Kp 82 #[.pointer (some ⟨r,0,none⟩),iE,.agg #[.slice p n c,a,b,T]] w (aH r v0 v1 v2 w (cf ⟨A,B,X,Y,E,L⟩ (aC ((b_ A B (X,Y,E)).getD 0)) (b_ A B (X,Y,E)).isSome)):=by
 obtain⟨hA,hB⟩:=fe aa.1;obtain⟨k,f,hq,aG,hR⟩:∃(k:Int) (f:Bool),io (b_ A B (X,Y,E))=.tuple #[.int .i64 k,.bool f]/\(0<=k/\k<=12)/\cf ⟨A,B,X,Y,E,L⟩ (aC ((b_ A B (X,Y,E)).getD 0)) (b_ A B (X,Y,E)).isSome=cf ⟨A,B,X,Y,E,L⟩ (aC k) f:=by
  exact Fp
 have h1:=λW=>xp A B X Y E hA hB aa.2.1 W;rw[hq] at h1;rw[hR];have HO:=h_ h1;have HT:=h_ (xg k f o_);have HF:=h_ (λw1 (hb:Below w.heap.size w w1)=>@aH.told r v0 v1 v2 vl ⟨A,B,X,Y,E,L⟩ (aC k) f w w1 hk Z hb);clear hR hq h1;generalize cf _ _ _=R at *;generalize cD (aC k) f=V at *;obtain⟨kW,J⟩:=aw w #[.slice p n c,a,b,T] 98;have ab:=hk.below J;simp only[iE];go_enter Tryz.func82,Tryz.ntmps82;go_upto_region 1 with fail
 generalize w.alloc _=W at *;obtain⟨s0,s1,s2,s3,s4,s5⟩:=ab.q6;have sl:=ab.lt;go_upto_region 5 with fail
 (refine bP k_ k_ ?_;(repeat (go_big_quiet_step ((first|(go_at_call 123;exact Calls.quiet_cls an _ (HO.out _))|(go_at_call 122;exact Calls.quiet_cls an _ (HT.out _))))));refine wpQuiet_nil ?_;intro w1 I;obtain⟨aZ,a6⟩:=bf I;have ax:=I.size;(try simp only[Uq] at ax))
 exact pA
def MM(r:Nat)(A B X Y E:Int)(L:aK)(vl v0 v1 v2:Value)(p:bT)(n c:Nat)(a b:Int)(T:aj)(aa:CS.ok ⟨A,B,X,Y,E,L⟩)(w:World)(hk:ct r A B X Y E vl v0 v1 v2 w)(Z:am w (r+1) vl L):
 Kp 82 #[.pointer (some ⟨r,0,none⟩),iy,.agg #[.slice p n c,a,b,T]] w (aH r v0 v1 v2 w (mv A B,⟨A,B,X,Y,E,L⟩)):=by
 have hb:=yT A B;have F:=h_ (LW A B aa.1);rw[show p_ A B=.tuple #[fo A B,fK A B,true] from rfl] at F;have H1:=h_ (nW (fo A B) o_);have H2:=h_ (nW (fK A B) o_);have HF:=h_ (λw1 (hb:Below w.heap.size w w1)=>@aH.same r v0 v1 v2 vl ⟨A,B,X,Y,E,L⟩ (mv A B) w w1 hk Z hb);unfold mv at HF ⊢;have z1:=dS (fo A B) o_;have z2:=dS (fK A B) o_;have e1:(⟨#[44]⟩:aj).size=1:=rfl;have g:=oR (aC (fo A B)) ⟨#[44]⟩ (aC (fK A B)) o_ o_ o_;have a5:=λw=>Up (P:=Tryz.prog) w (aC (fo A B)) ⟨#[44]⟩ o_;have ba:=λw=>Up (P:=Tryz.prog) w (aC (fo A B)++⟨#[44]⟩) (aC (fK A B)) o_;clear g e1 z1 z2;generalize aC (fo A B)=SM at *;generalize aC (fK A B)=SN at *;generalize fo A B=H at *;generalize fK A B=G at *;clear hb;obtain⟨kW,J⟩:=aw w #[.slice p n c,a,b,T] 98;have ab:=hk.below J;simp only[iy];go_enter Tryz.func82,Tryz.ntmps82;go_upto_region 1 with fail
 generalize w.alloc _=W at *;obtain⟨s0,s1,s2,s3,s4,s5⟩:=ab.q6;have sl:=ab.lt;go_upto_region 15 with fail
 go_wp2_with fail
 refine ai (F.out W) λw1 I=>?_;go_wp2_with fail
 refine ai (H1.out w1) λw2 U=>?_;have az:=af U I.size I;go_wp2_with fail
 refine ai (H2.out w2) λw3 aF=>?_;have aG:=af aF az.size az;go_wp2;go_ret;exact HF.out w3 (af aG J.size J)
def M0(r:Nat)(A B X Y E:Int)(L:aK)(vl v0 v1 v2:Value)(p:bT)(n c:Nat)(a b:Int)(T:aj)(aa:CS.ok ⟨A,B,X,Y,E,L⟩)(w:World)(hk:ct r A B X Y E vl v0 v1 v2 w)(Z:am w (r+1) vl L):
 Kp 82 #[.pointer (some ⟨r,0,none⟩),iu,.agg #[.slice p n c,a,b,T]] w (aH r v0 v1 v2 w (aC L.length,⟨A,B,X,Y,E,L⟩)):=by
 have hl:=aa.2.2.2.2;simp only at hl;have H1:=h_ (nW (L.length:Int) o_);have HF:=h_ (λw1 (hb:Below w.heap.size w w1)=>@aH.same r v0 v1 v2 vl ⟨A,B,X,Y,E,L⟩ (aC L.length) w w1 hk Z hb);obtain⟨aL,F,rfl,_,_⟩:=Z.form;generalize aC L.length=V at *;obtain⟨kW,J⟩:=aw w #[.slice p n c,a,b,T] 98;have ab:=hk.below J;simp only[iu];go_enter Tryz.func82,Tryz.ntmps82;go_upto_region 1 with fail
 generalize w.alloc _=W at *;obtain⟨s0,s1,s2,s3,s4,s5⟩:=ab.q6;have sl:=ab.lt;go_upto_region 27 with fail
 go_wp2_with fail
 refine ai (H1.out W) λw1 I=>?_;exact pA
def Pm(r:Nat)(A B X Y E:Int)(L:aK)(vl v0 v1 v2:Value)(p:bT)(n c:Nat)(a b:Int)(T:aj)(aa:CS.ok ⟨A,B,X,Y,E,L⟩)(w:World)(hk:ct r A B X Y E vl v0 v1 v2 w)(Z:am w (r+1) vl L):
 Kp 82 #[.pointer (some ⟨r,0,none⟩),iI,.agg #[.slice p n c,a,b,T]] w (aH r v0 v1 v2 w (km (fA L (A,B)),⟨A,B,X,Y,E,L⟩)):=by
 have HD:=λW (hb:Below w.heap.size w W)=>MW (r+1) vl L A B aa.1 aa.2.2 W (Z.below hb);have V:=λe=>@xH L (A,B) aa.2.2 e;have HF:=h_ (λw1 (hb:Below w.heap.size w w1)=>@aH.same r v0 v1 v2 vl ⟨A,B,X,Y,E,L⟩ (km (fA L (A,B))) w w1 hk Z hb);generalize fA L (A,B)=o at *;obtain⟨aL,F,rfl,_,_⟩:=Z.form;obtain⟨kW,J⟩:=aw w #[.slice p n c,a,b,T] 98;have ab:=hk.below J;simp only[iI];clear Z;rcases o with _|⟨⟨c1,c2⟩,lo,hi,t⟩
 .simp only[km] at HF ⊢;simp only[lJ] at HD;have bb:=h_ HD;clear HD V;go_enter Tryz.func82,Tryz.ntmps82;go_upto_region 1 with fail
  generalize w.alloc _=W at *;obtain⟨s0,s1,s2,s3,s4,s5⟩:=ab.q6;have sl:=ab.lt;go_upto_region 23 with fail
  apply fO (λG Wz=>ah [] W Wz/\(λw'=>Below W.heap.size W w') Wz/\W.heap.size<=G/\ag G #[(),(),(),(),()] 70 Wz)
  .intro bp;refine br [] (λ_=>false) (λ_=>True) (KD (λw'=>Below W.heap.size W w') []) k_ ⟨(bn W) _ _ (Uk _ _) ((Uk _ _).drew),bR.nil _⟩ ?_;refine aD ⟨W,ah.refl _ _,Uk _ _,bR.nil _⟩ [ae,ae,ae,ae,ae,ae,ae,ae] 7 (KD.closed (bn W) _) aA ?_;refine aR [8,12] ?_;refine ak.cons ?_ ?_
   .refine dY (v:=.tuple #[.agg #[(),(),(),(),()],false]) (some 167) (λw'=>Below W.heap.size W w') (bn W) (λ_ _=>by simp) (λw' hC=>(bb.out w' (af hC J.size J)).mono λ_ _ h=>⟨h.1,.of_below h.2,af h.2 hC.size hC⟩) (λhne=>?_);refine ao ?_;refine aD hne [ac,ac,ac,ac,ac,ac,ac,ac,ac,ae,ae,ae] 3 (KD.closed (bn W) _) aA ?_;refine aR [12] ?_;refine ak.cons ?_ ?_
    .refine dm (zs:=#[(),(),(),(),()]) (T:=70) (bn W) (λG U ad hne=>?_);refine ao ?_;exact K8
    exact ak.nil
   refine ak.cons ?_ ?_
   .refine dm (zs:=#[(),(),(),(),()]) (T:=70) (bn W) (λG U ad hne=>?_);refine ao ?_;refine aR [8] ?_;refine ak.cons ?_ ?_
    .refine dY (v:=.tuple #[.agg #[(),(),(),(),()],false]) (some 167) (λw'=>Below W.heap.size W w') (bn W) (λ_ _=>by simp) (λw' hC=>(bb.out w' (af hC J.size J)).mono λ_ _ h=>⟨h.1,.of_below h.2,af h.2 hC.size hC⟩) (λhne=>?_);refine ao ?_;refine aD hne [ac,ac,ac,ac,ac,ac,ac,ac,ac,ae,ae,ae] 2 (KD.closed (bn W) _) aA ?_;exact K8
    exact ak.nil
   exact ak.nil
  try dsimp only
  rintro rM W3 ⟨bi,cv,b4,kM⟩;have aM:=af cv J.size J;clear s0 s1 s2 s3 s4 s5 bi kM;go_wp2;go_ret;exact HF.out W3 aM
 .have bo:=mW (V _ rfl);simp only at bo;simp only[lJ,cq] at HD;simp only[km] at HF ⊢;have H1:=h_ (nW lo o_);have H2:=h_ (nW hi o_);have z1:=dS lo o_;have z2:=dS hi o_;have e1:(⟨#[46,46]⟩:aj).size=2:=rfl;have g:=oR (aC lo) ⟨#[46,46]⟩ (aC hi) o_ o_ o_;have a5:=λw=>Up (P:=Tryz.prog) w (aC lo) ⟨#[46,46]⟩ o_;have ba:=λw=>Up (P:=Tryz.prog) w (aC lo++⟨#[46,46]⟩) (aC hi) o_;clear g e1 z1 z2;generalize aC lo=SM at *;generalize aC hi=SN at *;have bb:=h_ HD;clear HD V bo;go_enter Tryz.func82,Tryz.ntmps82;go_upto_region 1 with fail
  generalize w.alloc _=W at *;obtain⟨s0,s1,s2,s3,s4,s5⟩:=ab.q6;have sl:=ab.lt;go_upto_region 23 with fail
  apply fO (λG Wz=>ah [] W Wz/\(λw'=>Below W.heap.size W w') Wz/\W.heap.size<=G/\ag G #[c1,c2,lo,hi,t] 70 Wz)
  .intro bp;refine br [] (λ_=>false) (λ_=>True) (KD (λw'=>Below W.heap.size W w') []) k_ ⟨(bn W) _ _ (Uk _ _) ((Uk _ _).drew),bR.nil _⟩ ?_;refine aD ⟨W,ah.refl _ _,Uk _ _,bR.nil _⟩ [ae,ae,ae,ae,ae,ae,ae,ae] 7 (KD.closed (bn W) _) aA ?_;refine aR [8,12] ?_;refine ak.cons ?_ ?_
   .refine dY (v:=.tuple #[.agg #[c1,c2,lo,hi,t],true]) (some 167) (λw'=>Below W.heap.size W w') (bn W) (λ_ _=>by simp) (λw' hC=>(bb.out w' (af hC J.size J)).mono λ_ _ h=>⟨h.1,.of_below h.2,af h.2 hC.size hC⟩) (λhne=>?_);refine ao ?_;refine aD hne [ac,ac,ac,ac,ac,ac,ac,ac,ac,ae,ae,ae] 3 (KD.closed (bn W) _) aA ?_;refine aR [12] ?_;refine ak.cons ?_ ?_
    .refine dm (zs:=#[(),(),(),(),()]) (T:=70) (bn W) (λG U ad hne=>?_);refine ao ?_;exact J9
    exact ak.nil
   refine ak.cons ?_ ?_
   .refine dm (zs:=#[(),(),(),(),()]) (T:=70) (bn W) (λG U ad hne=>?_);refine ao ?_;refine aR [8] ?_;refine ak.cons ?_ ?_
    .refine dY (v:=.tuple #[.agg #[c1,c2,lo,hi,t],true]) (some 167) (λw'=>Below W.heap.size W w') (bn W) (λ_ _=>by simp) (λw' hC=>(bb.out w' (af hC J.size J)).mono λ_ _ h=>⟨h.1,.of_below h.2,af h.2 hC.size hC⟩) (λhne=>?_);refine ao ?_;refine aD hne [ac,ac,ac,ac,ac,ac,ac,ac,ac,ae,ae,ae] 2 (KD.closed (bn W) _) aA ?_;exact J9
    exact ak.nil
   exact ak.nil
  try dsimp only
  rintro rM W3 ⟨bi,cv,b4,kM⟩;have aM:=af cv J.size J;clear s0 s1 s2 s3 s4 s5 bi;obtain⟨a8,bx,cu,cF,cQ⟩:=kM.q5;have bX:=kM.lt;go_upto_region 26 with fail
  (refine bP k_ k_ ?_;(repeat (go_big_quiet_step ((go_at_call 93;first|with_reducible exact Calls.quiet_cls an _ (H1.out _)|with_reducible exact Calls.quiet_cls an _ (H2.out _)))));refine wpQuiet_nil ?_;intro w4 K;obtain⟨I,H⟩:=bf K;have b6:=K.size;(try simp only[Uq] at b6))
  go_wp2;go_ret;exact HF.out w4 (af K aM.size aM)
def F0(h:P:=by
 obtain⟨p,c,rfl,hf⟩:=hv.form;obtain⟨g5,rfl,h1,h2,_⟩:=hf 0 s_;exact⟨_,_,_,rfl,g5,rfl,by simp,h2,by simpa using h1⟩):=h
def NW(r)(A B X Y E m)(L)(vl v0 v1 v2 G)(bs)(a b:Int)(T:aj)(aa:CS.ok ⟨A,B,X,Y,E,L⟩)(w)(hk:ct r A B X Y E vl v0 v1 v2 w)(Z:am w (r+1) vl L)(hv:aq w bs G [m]):
 Kp 82 #[.pointer r,ia,.agg #[G,a,b,T]] w (aH r v0 v1 v2 w (cf ⟨A,B,X,Y,E,L⟩ (aC (gk A B m)) (eX A B m))):=by
 have⟨k,f,hq,aG,hR⟩:=xN (A:=A) (B:=B) (p:=m) ⟨A,B,X,Y,E,L⟩;have h1:=λW=>Me A B m aa.1 W;rw[hq] at h1;rw[hR];have HO:=h_ h1;have HT:=h_ (xg k f o_);have HF:=h_ (λw1 (hb:Below w w w1)=>@aH.told r v0 v1 v2 vl ⟨A,B,X,Y,E,L⟩ (aC k) f w w1 hk Z hb);generalize cf _ _ _=R,cD (aC k) f=V at *;obtain⟨p,n,c,rfl,g5,rfl,hn,a9,x0⟩:∃(p:bT) (n c:Nat),G=.slice p n c/\∃g5,p=some ⟨g5,0,none⟩/\0<n/\g5<w.heap.size/\w.cell? ⟨g5,0,none⟩=some (.int .i64 m):=by
  exact F0
 have⟨kW,J⟩:=aw w #[.slice g5 n c,a,b,T] 98;have ab:=hk.below J;have x1:=(J.cell (p:=g5) a9).trans x0;have F:=Un a9 J.size;simp only[ia];go_enter Tryz.func82,Tryz.ntmps82;go_upto_region 1 with fail
 generalize w.alloc _=W at *;have⟨s0,s1,_,_,_,_⟩:=ab.q6;have sl:=ab.lt;have y0:=kW.q1;have yl:=kW.lt;go_upto_region 7 with fail
 (refine bP k_ k_ ?_;(repeat (go_big_quiet_step ((first|(go_at_call 124;exact Calls.quiet_cls an _ (HO.out _))|(go_at_call 122;exact Calls.quiet_cls an _ (HT.out _))))));refine wpQuiet_nil ?_;intro w1 I;have⟨aZ,a6⟩:=bf I;have ax:=I.size;(try simp at ax))
 exact pA
def Oq(r)(A B X Y E m)(L)(vl v0 v1 v2 G)(bs)(a b:Int)(T:aj)(aa:CS.ok ⟨A,B,X,Y,E,L⟩)(w)(hk:ct r A B X Y E vl v0 v1 v2 w)(Z:am w (r+1) vl L)(hv:aq w bs G [m]):
 Kp 82 #[.pointer r,ib,.agg #[G,a,b,T]] w (aH r v0 v1 v2 w (cf ⟨A,B,X,Y,E,L⟩ (aC (jx A B m)) (eX A B m))):=by
 have⟨k,f,hq,aG,hR⟩:=xP (A:=A) (B:=B) (p:=m) ⟨A,B,X,Y,E,L⟩;have h1:=λW=>NQ A B m aa.1 W;rw[hq] at h1;rw[hR];have HO:=h_ h1;have HT:=h_ (xg k f o_);have HF:=h_ (λw1 (hb:Below w w w1)=>@aH.told r v0 v1 v2 vl ⟨A,B,X,Y,E,L⟩ (aC k) f w w1 hk Z hb);generalize cf _ _ _=R,cD (aC k) f=V at *;obtain⟨p,n,c,rfl,g5,rfl,hn,a9,x0⟩:∃(p:bT) (n c:Nat),G=.slice p n c/\∃g5,p=some ⟨g5,0,none⟩/\0<n/\g5<w.heap.size/\w.cell? ⟨g5,0,none⟩=some (.int .i64 m):=by
  exact F0
 have⟨kW,J⟩:=aw w #[.slice g5 n c,a,b,T] 98;have ab:=hk.below J;have x1:=(J.cell (p:=g5) a9).trans x0;have F:=Un a9 J.size;simp only[ib];go_enter Tryz.func82,Tryz.ntmps82;go_upto_region 1 with fail
 generalize w.alloc _=W at *;have⟨s0,s1,_,_,_,_⟩:=ab.q6;have sl:=ab.lt;have y0:=kW.q1;have yl:=kW.lt;go_upto_region 9 with fail
 (refine bP k_ k_ ?_;(repeat (go_big_quiet_step ((first|(go_at_call 125;exact Calls.quiet_cls an _ (HO.out _))|(go_at_call 122;exact Calls.quiet_cls an _ (HT.out _))))));refine wpQuiet_nil ?_;intro w1 I;have⟨aZ,a6⟩:=bf I;have ax:=I.size;(try simp at ax))
 exact pA
def KJ(h:P:=by
 refine aR [17] ?_;refine ak.cons ?_ ?_
 .refine fk (v:=.agg #[na,da,nb,db]) [] [] (.inl H) an (λ_ _ h _=>h) s_ (λhne=>?_)
  try simp only[Value.cells]
  refine aD hne [ac,ac,ac,ac,ac,ac,ac,ac,ac,ac,ac,ac,ac,ac,ac,ac,ac,ac,ae] 0 (KD.closed an _) aA ?_;refine jc k_ (λWz a7 aX=>?_) _;exact bp d4 Wz ⟨a7,aX.1,o_,aX.2.head⟩
 exact ak.nil):=h
def OS(r:Nat)(A B X Y E m m2:Int)(L:aK)(vl v0 v1 v2 G:Value)(bs:Nat)(a b:Int)(T:aj)(w)(ht:TabI w)(hk:ct r A B X Y E vl v0 v1 v2 w)(Z:am w (r+1) vl L)(hv:aq w bs G [m,m2]):
 Kp 82 #[.pointer r,gV,.agg #[G,a,b,T]] w (aH r v0 v1 v2 w (cf ⟨A,B,X,Y,E,L⟩ (jW m m2) (kK m m2))):=by
 have HO:=h_ (λW (hb:Below w w W)=>(D5 m m2).1 W (ht.below hb));have HT:=h_ (tH (jW m m2) (kK m m2));have HF:=h_ (λw1 (hb:Below w w w1)=>@aH.told r v0 v1 v2 vl ⟨A,B,X,Y,E,L⟩ (jW m m2) (kK m m2) w w1 hk Z hb);generalize cf _ _ _=R,cD _ _=V,jW m m2=S,kK m m2=f at *;obtain⟨p,c,rfl,hf⟩:=hv.form;obtain⟨g5,rfl,x0,a9,_⟩:=hf 0 s_;have x0:=by simpa using x0
 simp;have⟨kW,J⟩:=aw w #[.slice g5 2 c,a,b,T] 98;have ab:=hk.below J;have x1:=(J.cell (p:=g5) a9).trans x0;have F:=Un a9 J.size;have⟨g6,e6,z0,_,_⟩:=hf 1 s_;injection e6 with e6;injection e6 with e6;subst e6;have z0:=by simpa using z0
 have z1:=(J.cell (p:=⟨g5,1,none⟩) a9).trans z0;simp only[gV];go_enter Tryz.func82,Tryz.ntmps82;go_upto_region 1 with fail
 generalize w.alloc _=W at *;have⟨_,_,_,_,_,_⟩:=ab.q6;have y0:=kW.q1;have yl:=kW.lt;go_upto_region 21 with fail
 (refine bP k_ k_ ?_;(repeat (go_big_quiet_step ((first|(go_at_call 132;exact Calls.quiet_cls an _ (HO.out _ (af (aU.over _).below J.size J)))|(go_at_call 128;exact Calls.quiet_clsS _ (HT.out _))))));refine wpQuiet_nil ?_;intro w1 I)
 exact pA
def Pd(r:Nat)(A B X Y E m:Int)(L:aK)(vl v0 v1 v2 G:Value)(bs:Nat)(a b:Int)(T:aj)(aa:CS.ok ⟨A,B,X,Y,E,L⟩)(w:World)(hk:ct r A B X Y E vl v0 v1 v2 w)(Z:am w (r+1) vl L)(hv:aq w bs G [m]):
 Kp 82 #[.pointer (some ⟨r,0,none⟩),ig,.agg #[G,a,b,T]] w (aH r v0 v1 v2 w (cf ⟨A,B,X,Y,E,L⟩ (vH A B m) (fj m))):=by
 obtain⟨K,S2,f,hS,hT,bz,ad,hR⟩:=xR (p:=m) aa.1 ⟨A,B,X,Y,E,L⟩;have h1:=λW=>LI A B m aa.1 W;have h2:=λW=>LT A B m aa.1 W;rw[hS] at h1;rw[hT] at h2;rw[hR];have H1:=h_ h1;have H2:=h_ h2;have H3:=h_ (tH (K++⟨#[44]⟩++S2) f);have HF:=h_ (λw1 (hb:Below w.heap.size w w1)=>@aH.told r v0 v1 v2 vl ⟨A,B,X,Y,E,L⟩ (K++⟨#[44]⟩++S2) f w w1 hk Z hb);have e1:(⟨#[44]⟩:aj).size=1:=rfl;have g:=oR K ⟨#[44]⟩ S2 o_ o_ o_;have a5:=λw=>Up (P:=Tryz.prog) w K ⟨#[44]⟩ o_;have ba:=λw=>Up (P:=Tryz.prog) w (K++⟨#[44]⟩) S2 o_;clear g e1 hR hS hT bz ad h1 h2;generalize cf _ _ _=R at *;generalize cD (K++⟨#[44]⟩++S2) f=V at *;obtain⟨p,c,rfl,hf⟩:=hv.form;obtain⟨g5,rfl,x0,a9,_⟩:=hf 0 s_;have x0:=by simpa using x0
 simp;have⟨kW,J⟩:=aw w #[.slice g5 1 c,a,b,T] 98;have ab:=hk.below J;have x1:=(J.cell (p:=g5) a9).trans x0;have F:=Un a9 J.size;simp only[ig];cases f
 all_goals
  go_enter Tryz.func82,Tryz.ntmps82;go_upto_region 1 with fail
  generalize w.alloc _=W at *;have⟨s0,s1,s2,s3,s4,s5⟩:=ab.q6;have sl:=ab.lt;have y0:=kW.q1;have yl:=kW.lt;go_upto_region 11 with fail
  (refine bP k_ k_ ?_;(repeat (go_big_quiet_step ((go_at_call 126;exact Calls.quiet_cls an _ (H1.out _)))));refine wpQuiet_nil ?_;intro w1 I;obtain⟨aZ,a6⟩:=bf I)
  have H:=af I J.size J;replace kW:=kW.next I
  replace ab:=ab.below I;have ac:=Un F I.size;have⟨s0,s1,_,_,_,_⟩:=ab.q6;have sl:=ab.lt;have y0:=kW.q1;have yl:=kW.lt;go_upto_region 12 with fail
  (refine bP k_ k_ ?_;(repeat (go_big_quiet_step ((go_at_call 127;exact Calls.quiet_cls an _ (H2.out _)))));refine wpQuiet_nil ?_;intro w2 U)
  have az:=af U H.size H;exact Iz
def Nh(r:Nat)(A B X Y E m:Int)(L:aK)(vl v0 v1 v2 G:Value)(bs:Nat)(a b:Int)(T:aj)(aa:CS.ok ⟨A,B,X,Y,E,L⟩)(w:World)(hk:ct r A B X Y E vl v0 v1 v2 w)(Z:am w (r+1) vl L)(hv:aq w bs G [m]):
 Kp 82 #[.pointer (some ⟨r,0,none⟩),gZ,.agg #[G,a,b,T]] w (aH r v0 v1 v2 w (cf ⟨A,B,X,Y,E,L⟩ (wi (iq A B X E m)) (iq A B X E m).isSome)):=by
 obtain⟨na,da,nb,db,f,hV,b5,ad,hR⟩:=xy (n:=m) aa.1 aa.2.1 ⟨A,B,X,Y,E,L⟩;have h1:=λW=>NC A B X Y E m aa.1 aa.2.1 W;rw[hV] at h1;rw[hR];have H1:=h_ h1;have H2:=h_ (QT na da nb db b5 ad);have H3:=h_ (tH (gP na da nb db) f);have HF:=h_ (λw1 (hb:Below w.heap.size w w1)=>@aH.told r v0 v1 v2 vl ⟨A,B,X,Y,E,L⟩ (gP na da nb db) f w w1 hk Z hb);clear hR hV b5 ad h1;generalize cf _ _ _=R at *;generalize cD (gP na da nb db) f=V at *;generalize gP na da nb db=U at *;obtain⟨p,c,rfl,hf⟩:=hv.form;obtain⟨g5,rfl,x0,a9,_⟩:=hf 0 s_;have x0:w.cell? ⟨g5,0,none⟩=some (.int .i64 m):=by simpa using x0
 simp;obtain⟨kW,J⟩:=aw w #[.slice (some ⟨g5,0,none⟩) 1 c,a,b,T] 98;have ab:=hk.below J;have x1:=(J.cell (p:=⟨g5,0,none⟩) a9).trans x0;have F:=Un a9 J.size;clear x0 hf hv;simp only[gZ];go_enter Tryz.func82,Tryz.ntmps82;go_upto_region 1 with fail
 generalize w.alloc _=W at *;obtain⟨s0,s1,s2,s3,s4,s5⟩:=ab.q6;have sl:=ab.lt;have y0:W.cell? ⟨w.heap.size,0,none⟩=some _:=kW.cell 0;have yl:=kW.lt;go_upto_region 18 with fail
 apply fO (λd4 Wz=>ah [] W Wz/\(λ_=>True) Wz/\W.heap.size<=d4/\ag d4 #[na,da,nb,db] 145 Wz)
 .intro bp;refine br [] (λ_=>false) (λ_=>True) (KD (λ_=>True) []) k_ ⟨trivial,bR.nil _⟩ ?_;refine aD ⟨W,ah.refl _ _,trivial,bR.nil _⟩ [ae,ae,ae,ae,ae,ae,ae,ae,ae,ae,ae,ae] 7 (KD.closed an _) aA ?_;refine aR [12,16] ?_;refine ak.cons ?_ ?_
  .refine dY (v:=.tuple #[.agg #[na,da,nb,db],f]) (some 135) (λ_=>True) an (λ_ _=>by simp) (λw' hC=>(H1.out w').mono λ_ _ h=>⟨h.1,.of_below h.2,trivial⟩) (λhne=>?_);refine ao ?_;refine aD hne [ac,ac,ac,ac,ac,ac,ac,ac,ac,ac,ac,ac,ac,ae,ae,ae] 3 (KD.closed an _) aA ?_;refine aR [16] ?_;refine ak.cons ?_ ?_
   .refine dm (zs:=#[(),(),(),()]) (T:=145) an (λd4 H I hne=>?_);refine ao ?_;exact KJ
   exact ak.nil
  refine ak.cons ?_ ?_
  .refine dm (zs:=#[(),(),(),()]) (T:=145) an (λd4 H I hne=>?_);refine ao ?_;refine aR [12] ?_;refine ak.cons ?_ ?_
   .refine dY (v:=.tuple #[.agg #[na,da,nb,db],f]) (some 135) (λ_=>True) an (λ_ _=>by simp) (λw' hC=>(H1.out w').mono λ_ _ h=>⟨h.1,.of_below h.2,trivial⟩) (λhne=>?_);refine ao ?_;refine aD hne [ac,ac,ac,ac,ac,ac,ac,ac,ac,ac,ac,ac,ac,ae,ae,ae] 2 (KD.closed an _) aA ?_;exact KJ
   exact ak.nil
  exact ak.nil
 rintro rM W3 ⟨bi,_,b4,kM⟩;have aM:=af bi.below J.size J;obtain⟨a8,bx,cu,cF⟩:=kM.q4;have bX:=kM.lt;clear s0 s1 s2 s3 s4 s5 bi;go_wp2_with fail
 refine ai (H2.out W3) λw4 K=>?_;exact Gy
def uQ(h:P:=by
 intro bp;refine br [] (λ_=>false) (λ_=>True) (λ_=>True) k_ trivial ?_;apply lc ⟨w1,ah.refl _ _,trivial⟩ [ae,ae,ae,ae,ae,ae] 7 an aA k_ k_ k_ k_ s_
 .exact GL
 refine aR [6,10] (ak.cons ?_ (ak.cons ?_ ak.nil))
 .refine bG (some 20) (λv=>eR w1 true Q (λ_=>True) 0 v) (λv=>bZ _ an 0 v) (λw' hO _=>(a4.out w' hO.below).mono λe w2 h=>dX.ln an trivial (Un b6 hO.size) hO.below h) (λv hne=>?_);obtain⟨w8,b1,p,n,c,a,b,T,rfl,_⟩:=id hne;refine ao ?_;refine aD hne [ac,ac,ac,ac,ac,ac,ac,ae,ae,ae] 3 (bZ _ an 0 _) aA ?_;refine aB 10 ?_;refine bI (some 6) (λv w'=>∃r9,v=.pointer (some ⟨r9,0,none⟩)/\w1.heap.size<=r9/\ag r9 #[.slice none 0 0,(),(),.string ⟨#[]⟩] 98 w'/\cE w1 true Q p n c a b T w'/\(Value.slice p n c).ownBlock≠some r9) r_ r_ r_ (λ_ _ _ ⟨r9,h1,h2,h3,h4,h5⟩ hb=>⟨r9,h1,h2,h3.next hb,bz _ _ _ _ _ _ _ _ h4 hb,h5⟩) (λw' hO hd=>⟨.pointer (some ⟨w'.heap.size,0,none⟩),w'.alloc (.cells #[.slice none 0 0,(),(),.string ⟨#[]⟩] 98),by go_simp,hO.alloc _,w'.heap.size,rfl,hO.size,ag.new w' _ _,bz _ _ _ _ _ _ _ _ hd.get.1 ((Uk _ _).alloc (Ug _) _),λh=>by have:=hd.get.1.2.2 _ h;omega⟩) (λv hne=>?_);obtain⟨w9,ax,r9,rfl,bs,_⟩:=id hne;refine ao ?_;refine aB 11 ?_;refine fm (v:=.agg #[.slice p n c,a,b,T]) r9 #[.slice none 0 0,(),(),.string ⟨#[]⟩] (λw'=>ag r9 #[.slice p n c,a,b,T] 98 w'/\cE w1 true Q p n c a b T w') (.inl bs) (λw' ⟨r',e,_,h,_⟩=>by injection e with e;injection e with e;injection e with e;subst e;exact h) (aI.and (bz _ _ _ _ _ _)) (λw' b7 ⟨r',e,h2,h3,h4,h5⟩ Z hk=>⟨hk,h4.over hQ Z bs GR⟩) (λhne=>?_);exact An
 .refine bI (some 6) (λv w'=>∃r9,v=.pointer (some ⟨r9,0,none⟩)/\w1.heap.size<=r9/\ag r9 #[.slice none 0 0,(),(),.string ⟨#[]⟩] 98 w') r_ r_ r_ (λ_ _ _ ⟨r9,h1,h2,h3⟩ hb=>⟨r9,h1,h2,h3.next hb⟩) (λw' hO hd=>⟨.pointer (some ⟨w'.heap.size,0,none⟩),w'.alloc (.cells #[.slice none 0 0,(),(),.string ⟨#[]⟩] 98),by go_simp,hO.alloc _,w'.heap.size,rfl,hO.size,ag.new w' _ _⟩) (λv hne=>?_);obtain⟨w9,ax,r9,rfl,bs,_⟩:=id hne;refine ao ?_;refine aB 6 ?_;refine bG (some 20) (λv=>eR w1 true Q (ag r9 #[.slice none 0 0,(),(),.string ⟨#[]⟩] 98) r9 v) (λv=>bZ _ aI r9 v) (λw' hO ⟨r',e1,_,h3⟩=>(a4.out w' hO.below).mono λe w2 h=>dX.ln aI Jm G9 hO.below h) (λv hne=>?_);obtain⟨w8,b1,p,n,c,a,b,T,rfl,_⟩:=id hne;refine ao ?_;refine aD hne [ac,ac,ac,ac,ac,ac,ac,ae,ae,ae] 2 (bZ _ aI r9 _) aA ?_;refine aB 11 ?_;refine fm (v:=.agg #[.slice p n c,a,b,T]) r9 #[.slice none 0 0,(),(),.string ⟨#[]⟩] (λw'=>ag r9 #[.slice p n c,a,b,T] 98 w'/\cE w1 true Q p n c a b T w') (.inl bs) (λw' h=>h.get.2.1) (aI.and (bz _ _ _ _ _ _)) (λw' b7 h Z hk=>⟨hk,h.get.1.over hQ Z bs h.get.2.2⟩) (λhne=>?_);exact An):=h
def mA(h:P:=by
 exact uQ):=h
def aH.closed(r)(v0 v1 v2)(w)(o:fd)(e):aQ (aH r v0 v1 v2 w o e):=λ_ _ ⟨h1,h2,vl,h3,h4⟩ hb=>⟨h1,h2.next hb,vl,h3.below hb,h4.below hb⟩
def aH.ahead{r}{v0 v1 v2}{w w1 w2}{o:fd}{e}(hb:Below w.heap.size w w1)(h:aH r v0 v1 v2 w1 o e w2):∃v,e=.returned v/\ah [r] w1 w2/\aH r v0 v1 v2 w o (.returned v) w2:=
 ⟨_,h.1,h.2.1,rfl,kf hb h.2.1,h.2.2⟩
def ld(r)(s:CS)(v0 v1 v2)(t)(hs:t.size<=3000)(u)(tl)(K:bL t 32=u::tl)(Q:er)(hQ:fZ Q)
 (a3:jY true Q u tl)
 (n0:u≠ie)(n1:u≠g_)(n2:u≠wPoint)(n3:u≠wAt)(n4:u≠iF)(n5:u≠iC)(n6:u≠ic)(n7:u≠gX)(n8:u≠iG)
 (w)(hk:fs r s v0 v1 v2 w)(R:fd)
 (G:∀p n c a b T W,Below w w W->Q (.slice p n c) a b T W->Kp 82 #[.pointer r,.string u,.agg #[.slice p n c,.int .i64 a,.int .i64 b,.string T]] W (aH r v0 v1 v2 W R)):
 Kp 52 #[.pointer r,t] w (aH r v0 v1 v2 w R):=by
 have g0:=bg n0;have g1:=bg n1;have g2:=bg n2;have g3:=bg n3;have g4:=bg n4;have g5:=bg n5;have g6:=bg n6;have g7:=bg n7;have g8:=bg n8;have HK:=h_ G;have U:=h_ (gz t 32 w o_);rw[K] at U;have a5:=h_ (jf u);generalize hm:tl.length=m at *;go_enter Tryz.func52,Tryz.ntmps52;go_wp2_with fail
 refine U.out.mono ?_;rintro e w1 ⟨v,rfl,a1,I⟩;obtain⟨g,F,rfl,bo,H,a6⟩:=a1.txw s_;have q0:w1.cell? g=some (.string u):=H.2 0 s_;simp at bo ⊢;go_upto_region 2 with fail
 have bq:=H.1;have b6:0<w1.heap.size:=o_;have bz:=@cE.closed w1 true Q hQ;have bZ:=λ(E:au) (hE:aQ E) r9=>@eR.closed w1 true Q hQ E hE r9;have a4:=h_ (λW (hb:Below w1 w1 W)=>a3 g F W (H.below hb) o_);apply ja (λr9 p n c a b T Wz=>w1.heap.size<=r9/\ag r9 #[.slice p n c,.int .i64 a,.int .i64 b,.string T] 98 Wz/\cE w1 true Q p n c a b T Wz)
 .exact mA
 .rintro r9 p n c a b T Wz ⟨bs,k9,aZ,ab,az⟩;have aM:=af aZ I.size I;have bY:r<w.heap.size:=by obtain⟨vl,h1,_⟩:=hk;exact h1.lt
  have HC:=h_ (λW (hb:Below Wz Wz W)=>HK.out p n c a b T W (af hb aM.size aM) (hQ.1 _ _ _ _ _ _ (ab rfl) hb));have HX:Hid (∀o e w2,aH r v0 v1 v2 Wz o e w2->aH r v0 v1 v2 w o e w2):=h_ (λo e w2 ⟨h1,h2,h3⟩=>⟨h1,kf aM h2,h3⟩);have co:=Un bq aZ.size;have b3:=(aZ.cell (p:=g) bq).trans q0;have b9:g≠r:=o_;have b0:r9≠r:=by have:=I.size;omega
  have⟨c0,c1,c2,c3⟩:=k9.q4;have b8:=k9.lt;generalize (if F=1 then (some ⟨g,0,none⟩:bT) else some ⟨g,1,none⟩)=ad at *;go_upto_region 28 with fail
  refine br [r] (λ_=>false) (λ_=>True) (λw'=>Below Wz.heap.size Wz w') k_ ((Uk _ _).drew) (aD ⟨Wz.drew,(ah.refl _ _).drew,(Uk _ _).drew⟩ [ae,ae,ae,ae,ae] 2 (bn Wz) aA ?_);refine aB 5 (bG (some 187) (λv=>λw'=>aH r v0 v1 v2 Wz R (.returned v) w') (λv=>aH.closed _ _ _ _ _ _ _) (λw' hO hD=>(HC.out w' hD).mono λe w2 h=>aH.ahead hD h) (λv hne=>?_));refine ao ?_;refine aD hne [ac,ac,ac,ac,ac,ac,ae] 0 (aH.closed _ _ _ _ _ _ _) aA ?_;refine cV λWz a7 aX=>?_;go_wp2;go_ret;exact (h_ (HX.out _ _ _ aX)).out
def cS(h:P:=by rw[hu];decide):=h
def GH(h:P:=by
 refine cV λWq b5 ca=>?_;have HY:=h_ ca;clear ca hne b5;go_wp2;go_ret;exact HY.out):=h
def G0(h:P:=by
 refine ao ?_;refine aD hne [ac,ac,ac,ac,ac,ac,ac,ac,ac,ac,ac,ac,ac,ac,ac,ac,ac,ae] 0 (aH.closed _ _ _ _ _ _ _) aA ?_;exact GH):=h
def vt(h:P:=by
 exact GH):=h
def Lp(h:P:=by
 clear hc aa V;generalize cY _ _=R at *;have U:=h_ (gz t 32 w o_);rw[K] at U;have a5:=h_ (jf u);generalize hm:tl.length=m at *;go_enter Tryz.func52,Tryz.ntmps52;go_wp2_with fail
 refine U.out.mono ?_;rintro e w1 ⟨v,rfl,a1,I⟩;obtain⟨g,F,rfl,bo,H,a6⟩:=a1.txw s_;have q0:w1.cell? ⟨g,0,none⟩=some (.string u):=H.2 0 s_;simp only[Uw,hm] at bo ⊢;go_upto_region 2 with fail
 have bq:=H.1;have b6:0<w1.heap.size:=o_;have bz:=@cE.closed w1 true Q hQ;have bZ:=λ(E:au) (hE:aQ E) r9=>@eR.closed w1 true Q hQ E hE r9;have a4:=h_ (λW (hb:Below w1.heap.size w1 W)=>a3 g F W (H.below hb) o_);clear a3 H;apply ja (λr9 p n c a b T Wz=>w1.heap.size<=r9/\ag r9 #[.slice p n c,.int .i64 a,.int .i64 b,.string T] 98 Wz/\cE w1 true Q p n c a b T Wz)
 .exact uQ
 .rintro r9 p n c a b T Wz ⟨bs,k9,aZ,ab,az⟩
  try dsimp only
  have aM:=af aZ I.size I;have bY:=aG.lt;have J:=aG.below aM;have ba:=Un bY aM.size;have co:g<Wz.heap.size:=Un bq aZ.size;have b3:=(aZ.cell (p:=⟨g,0,none⟩) bq).trans q0;have b9:g≠r:=o_;have b0:r9≠r:=by have:=I.size;omega
  obtain⟨c0,c1,c2,c3⟩:=k9.q4;have b8:=k9.lt;generalize (if F=1 then (some ⟨g,0,none⟩:bT) else some ⟨g,1,none⟩)=ad at *;have hv:=aL _ _ _ _ _ (ab rfl);obtain⟨p',c',e5,hf⟩:=hv.form;injection e5 with e1 e2 e3;subst e1 e2 e3;obtain⟨gq,rfl,x0,a9,_⟩:=hf 0 s_;have b2:=hv.neS J;have x0:Wz.cell? ⟨gq,0,none⟩=some (.int .i64 num):=by simpa using x0
  simp only[Uw,Vc,U7,Nat.reduceAdd] at c0;clear ab az q0 U a5 a4;go_upto_region 23 with fail
  refine br [r] (λj=>j==16) (λw'=>Below Wz.heap.size Wz w') (λw'=>Below Wz.heap.size Wz w') k_ ((Uk _ _).drew) ?_;apply jE ⟨Wz,ah.refl _ _,Uk _ _⟩ [ae,ae,ae,ae,ae,ae,ae,ae,ae,ae,ae,ae,ae,ae,ae,ae] 2 (bn Wz) (λ_ h=>h) k_ k_ k_ k_ s_
  .intro E hE bv cb;have s0:∀c:aU [r] Wz E,c.wd.cell? ⟨r,0,none⟩=some (.int .i64 A):=λc=>((bv _ c.more).cell (p:=⟨r,0,none⟩) ba).trans (J.cell 0);have s1:∀c:aU [r] Wz E,c.wd.cell? ⟨r,1,none⟩=some (.int .i64 B):=λc=>((bv _ c.more).cell (p:=⟨r,1,none⟩) ba).trans (J.cell 1);have s2:∀c:aU [r] Wz E,c.wd.cell? ⟨r,2,none⟩=some (.int .i64 X):=λc=>((bv _ c.more).cell (p:=⟨r,2,none⟩) ba).trans (J.cell 2);have s3:∀c:aU [r] Wz E,c.wd.cell? ⟨r,3,none⟩=some (.int .i64 Y):=λc=>((bv _ c.more).cell (p:=⟨r,3,none⟩) ba).trans (J.cell 3);have s4:∀c:aU [r] Wz E,c.wd.cell? ⟨r,4,none⟩=some (.int .i64 EE):=λc=>((bv _ c.more).cell (p:=⟨r,4,none⟩) ba).trans (J.cell 4);have s5:∀c:aU [r] Wz E,c.wd.cell? ⟨r,5,none⟩=some vl:=λc=>((bv _ c.more).cell (p:=⟨r,5,none⟩) ba).trans (J.cell 5)
   (repeat (first|(refine gB ?_;go_big_quiet_step ((go_at_call 78;exact Calls.quiet_cls hE _ (H1.out _)));refine wpQuiet_nil ?_)|refine gA ?_));exact gC rfl
  refine aB 16 ?_;refine iR (some 142) (λ_=>True) (λv w'=>aH r v0 v1 v2 w R (.returned v) w') (λv=>aH.closed _ _ _ _ _ _ _) (λ_ _ _=>trivial) (λh=>by simp at h) (λw' hO hd=>(HM.out w' (af hd aM.size aM)).mono λe w2 h=>aH.fin h (HF.out w' e w2 (af hd aM.size aM) h)) (λv hne=>?_);exact G0):=h
def Lj(h:P:=by
 clear hc aa V;generalize cY _ _=R at *;have U:=h_ (gz t 32 w o_);rw[K] at U;have a5:=h_ (jf u);generalize hm:tl.length=m at *;go_enter Tryz.func52,Tryz.ntmps52;go_wp2_with fail
 refine U.out.mono ?_;rintro e w1 ⟨v,rfl,a1,I⟩;obtain⟨g,F,rfl,bo,H,a6⟩:=a1.txw s_;have q0:w1.cell? ⟨g,0,none⟩=some (.string u):=H.2 0 s_;simp only[Uw,hm] at bo ⊢;go_upto_region 2 with fail
 have bq:=H.1;have b6:0<w1.heap.size:=o_;have bz:=@cE.closed w1 true Q hQ;have bZ:=λ(E:au) (hE:aQ E) r9=>@eR.closed w1 true Q hQ E hE r9;have a4:=h_ (λW (hb:Below w1.heap.size w1 W)=>a3 g F W (H.below hb) o_);clear a3 H;apply ja (λr9 p n c a b T Wz=>w1.heap.size<=r9/\ag r9 #[.slice p n c,.int .i64 a,.int .i64 b,.string T] 98 Wz/\cE w1 true Q p n c a b T Wz)
 .exact uQ
 .rintro r9 p n c a b T Wz ⟨bs,k9,aZ,ab,az⟩
  try dsimp only
  have aM:=af aZ I.size I;have bY:=aG.lt;have J:=aG.below aM;have ba:=Un bY aM.size;have co:g<Wz.heap.size:=Un bq aZ.size;have b3:=(aZ.cell (p:=⟨g,0,none⟩) bq).trans q0;have b9:g≠r:=o_;have b0:r9≠r:=by have:=I.size;omega
  obtain⟨c0,c1,c2,c3⟩:=k9.q4;have b8:=k9.lt;generalize (if F=1 then (some ⟨g,0,none⟩:bT) else some ⟨g,1,none⟩)=ad at *
  skip
  clear ab az q0 U a5 a4;go_upto_region 21 with fail
  refine br [r] (λj=>j==16) (λw'=>Below Wz.heap.size Wz w') (λw'=>Below Wz.heap.size Wz w') k_ ((Uk _ _).drew) ?_;apply jE ⟨Wz,ah.refl _ _,Uk _ _⟩ [ae,ae,ae,ae,ae,ae,ae,ae,ae,ae,ae,ae,ae,ae,ae,ae] 2 (bn Wz) (λ_ h=>h) k_ k_ k_ k_ s_
  .intro E hE bv cb;have s0:∀c:aU [r] Wz E,c.wd.cell? ⟨r,0,none⟩=some (.int .i64 A):=λc=>((bv _ c.more).cell (p:=⟨r,0,none⟩) ba).trans (J.cell 0);have s1:∀c:aU [r] Wz E,c.wd.cell? ⟨r,1,none⟩=some (.int .i64 B):=λc=>((bv _ c.more).cell (p:=⟨r,1,none⟩) ba).trans (J.cell 1);have s2:∀c:aU [r] Wz E,c.wd.cell? ⟨r,2,none⟩=some (.int .i64 X):=λc=>((bv _ c.more).cell (p:=⟨r,2,none⟩) ba).trans (J.cell 2);have s3:∀c:aU [r] Wz E,c.wd.cell? ⟨r,3,none⟩=some (.int .i64 Y):=λc=>((bv _ c.more).cell (p:=⟨r,3,none⟩) ba).trans (J.cell 3);have s4:∀c:aU [r] Wz E,c.wd.cell? ⟨r,4,none⟩=some (.int .i64 EE):=λc=>((bv _ c.more).cell (p:=⟨r,4,none⟩) ba).trans (J.cell 4);have s5:∀c:aU [r] Wz E,c.wd.cell? ⟨r,5,none⟩=some vl:=λc=>((bv _ c.more).cell (p:=⟨r,5,none⟩) ba).trans (J.cell 5)
   (repeat (first|(refine gB ?_;go_big_quiet_step ((go_at_call 77;exact Calls.quiet_cls hE _ (H1.out _)));refine wpQuiet_nil ?_)|refine gA ?_));exact gC rfl
  refine aB 16 ?_;refine iR (some 123) (λ_=>True) (λv w'=>aH r v0 v1 v2 w R (.returned v) w') (λv=>aH.closed _ _ _ _ _ _ _) (λ_ _ _=>trivial) (λh=>by simp at h) (λw' hO hd=>(HM.out w' (af hd aM.size aM)).mono λe w2 h=>aH.fin h (HF.out w' e w2 (af hd aM.size aM) h)) (λv hne=>?_);exact G0):=h
def Lm(h:P:=by
 clear hc aa V;generalize cY _ _=R at *;have U:=h_ (gz t 32 w o_);rw[K] at U;have a5:=h_ (jf u);generalize hm:tl.length=m at *;go_enter Tryz.func52,Tryz.ntmps52;go_wp2_with fail
 refine U.out.mono ?_;rintro e w1 ⟨v,rfl,a1,I⟩;obtain⟨g,F,rfl,bo,H,a6⟩:=a1.txw s_;have q0:w1.cell? ⟨g,0,none⟩=some (.string u):=H.2 0 s_;simp only[Uw,hm] at bo ⊢;go_upto_region 2 with fail
 have bq:=H.1;have b6:0<w1.heap.size:=o_;have bz:=@cE.closed w1 true Q hQ;have bZ:=λ(E:au) (hE:aQ E) r9=>@eR.closed w1 true Q hQ E hE r9;have a4:=h_ (λW (hb:Below w1.heap.size w1 W)=>a3 g F W (H.below hb) o_);clear a3 H;apply ja (λr9 p n c a b T Wz=>w1.heap.size<=r9/\ag r9 #[.slice p n c,.int .i64 a,.int .i64 b,.string T] 98 Wz/\cE w1 true Q p n c a b T Wz)
 .exact uQ
 .rintro r9 p n c a b T Wz ⟨bs,k9,aZ,ab,az⟩
  try dsimp only
  have aM:=af aZ I.size I;have bY:=aG.lt;have J:=aG.below aM;have ba:=Un bY aM.size;have co:g<Wz.heap.size:=Un bq aZ.size;have b3:=(aZ.cell (p:=⟨g,0,none⟩) bq).trans q0;have b9:g≠r:=o_;have b0:r9≠r:=by have:=I.size;omega
  obtain⟨c0,c1,c2,c3⟩:=k9.q4;have b8:=k9.lt;generalize (if F=1 then (some ⟨g,0,none⟩:bT) else some ⟨g,1,none⟩)=ad at *;have hT:=aL _ _ _ _ _ (ab rfl);subst hT;clear ab az q0 U a5 a4;go_upto_region 12 with fail
  refine br [r] (λj=>j==10) (λw'=>Below Wz.heap.size Wz w') (λw'=>Below Wz.heap.size Wz w') k_ ((Uk _ _).drew) ?_;apply jE ⟨Wz,ah.refl _ _,Uk _ _⟩ [ae,ae,ae,ae,ae,ae,ae,ae,ae,ae] 2 (bn Wz) (λ_ h=>h) k_ k_ k_ k_ s_
  .intro E hE bv cb;have s0:∀c:aU [r] Wz E,c.wd.cell? ⟨r,0,none⟩=some (.int .i64 A):=λc=>((bv _ c.more).cell (p:=⟨r,0,none⟩) ba).trans (J.cell 0);have s1:∀c:aU [r] Wz E,c.wd.cell? ⟨r,1,none⟩=some (.int .i64 B):=λc=>((bv _ c.more).cell (p:=⟨r,1,none⟩) ba).trans (J.cell 1);have s2:∀c:aU [r] Wz E,c.wd.cell? ⟨r,2,none⟩=some (.int .i64 X):=λc=>((bv _ c.more).cell (p:=⟨r,2,none⟩) ba).trans (J.cell 2);have s3:∀c:aU [r] Wz E,c.wd.cell? ⟨r,3,none⟩=some (.int .i64 Y):=λc=>((bv _ c.more).cell (p:=⟨r,3,none⟩) ba).trans (J.cell 3);have s4:∀c:aU [r] Wz E,c.wd.cell? ⟨r,4,none⟩=some (.int .i64 EE):=λc=>((bv _ c.more).cell (p:=⟨r,4,none⟩) ba).trans (J.cell 4);have s5:∀c:aU [r] Wz E,c.wd.cell? ⟨r,5,none⟩=some vl:=λc=>((bv _ c.more).cell (p:=⟨r,5,none⟩) ba).trans (J.cell 5)
   (repeat (first|(refine gB ?_;go_big_quiet_step ((go_at_call 74;exact Calls.quiet_cls hE _ (H1.out _)));refine wpQuiet_nil ?_)|refine gA ?_));exact gC rfl
  refine aB 10 ?_;refine iR (some 71) (λ_=>True) (λv w'=>aH r v0 v1 v2 w R (.returned v) w') (λv=>aH.closed _ _ _ _ _ _ _) (λ_ _ _=>trivial) (λh=>by simp at h) (λw' hO hd=>(HM.out w' (af hd aM.size aM)).mono λe w2 h=>aH.fin h (HF.out w' e w2 (af hd aM.size aM) h)) (λv hne=>?_);refine ao ?_;refine aD hne [ac,ac,ac,ac,ac,ac,ac,ac,ac,ac,ac,ae] 0 (aH.closed _ _ _ _ _ _ _) aA ?_;exact vt):=h
def Aj(h:P:=by
 refine ao ?_;refine aD hne [ac,ac,ac,ac,ac,ac,ac,ac,ac,ac,ac,ac,ac,ae] 0 (aH.closed _ _ _ _ _ _ _) aA ?_;exact vt):=h
def mj{t u:aj}{l:List UInt8}(h:t=u)(hu:u.data.toList=l):(t.toList==l)=true:=by
 rw[h,Uy,VC];exact hu
def aH.fin{r:Nat}{v0 v1 v2:Value}{w w1 w2:World}{R:fd}{e:Ending}{T:aj}{P:au}(h:fG r T P w1 e w2)(hc:aH r v0 v1 v2 w R e w2):∃v,e=.returned v/\ah [r] w1 w2/\aH r v0 v1 v2 w R (.returned v) w2:=by
 obtain⟨rfl,h2,_⟩:=h;exact⟨_,rfl,h2,hc⟩
def aq.neS{w:World}{G g n F r:Nat}{xs:List Int}{I:Array Value}(h:aq w G (.slice (some ⟨g,0,none⟩) n F) xs)(hb:ag r I 61 w):g≠r:=by
 rintro rfl;rcases h.2 with ⟨h0,_⟩|⟨g',ae,aM,hv,hg,hh,_⟩
 .cases h0
 .injection hv with e1 _ _;injection e1 with e1;injection e1 with e1;subst e1;unfold ag at hb;rw[hb] at hh;simp at hh
def Ny(r:Nat)(A B X Y EE:Int)(L:aK)(v0 v1 v2:Value)(t:aj)(hs:t.size<=3000)(u:aj)(tl:bV)(K:bL t 32=u::tl)(Q:er)(hQ:fZ Q)
 (a3:jY true Q u tl)
 (hu:u=ic)(num:Int)(aL:∀v a b T W,Q v a b T W->aq W 0 v [num])(aa:CS.ok ⟨A,B,X,Y,EE,L⟩)(w:World)(hk:fs r ⟨A,B,X,Y,EE,L⟩ v0 v1 v2 w):
 Kp 52 #[.pointer (some ⟨r,0,none⟩),t] w (aH r v0 v1 v2 w (cY ⟨A,B,X,Y,EE,L⟩ (if av num (-12) 12 then gy A B (X,Y,EE) num else none))):=by
 obtain⟨vl,aG,V⟩:=hk;have g0:(u.toList==[99,117,114,118,101])=false:=bg cS;have g1:(u.toList==[115,99,97,108,101])=false:=bg cS;have g2:(u.toList==[112,111,105,110,116])=false:=bg cS;have g3:(u.toList==[97,116])=false:=bg cS;have g4:(u.toList==[109,105,110,117,115])=false:=bg cS;have g5:(u.toList==[100,111,117,98,108,101])=false:=bg cS;have gY:(u.toList==[116,105,109,101,115])=true:=mj hu rfl;clear hu;have hc:=λW=>NK A B X Y EE num aa.1 aa.2.1 W;generalize (if av num (-12) 12 then gy A B (X,Y,EE) num else none)=o at *;rcases o with _|⟨x,y,z⟩
 .simp only[cj] at hc;have H1:=h_ hc;have HM:=h_ (λW (hb:Below w.heap.size w W)=>mM r A B X Y EE 0 0 0 vl v0 v1 v2 false W (aG.below hb));have HF:=h_ (λw1 e w2 (hb:Below w.heap.size w w1) h=>@aH.stay r A B X Y EE L v0 v1 v2 vl w w1 w2 e 0 0 0 V hb h);exact Lp
 .simp only[cj] at hc;have H1:=h_ hc;have HM:=h_ (λW (hb:Below w.heap.size w W)=>mM r A B X Y EE x y z vl v0 v1 v2 true W (aG.below hb));have HF:=h_ (λw1 e w2 (hb:Below w.heap.size w w1) h=>@aH.move r A B X Y EE L v0 v1 v2 vl w w1 w2 e x y z V hb h);exact Lp
def MA(r:Nat)(A B X Y EE:Int)(L:aK)(v0 v1 v2:Value)(t:aj)(hs:t.size<=3000)(u:aj)(tl:bV)(K:bL t 32=u::tl)(Q:er)(hQ:fZ Q)
 (a3:jY true Q u tl)
 (hu:u=iC)(aa:CS.ok ⟨A,B,X,Y,EE,L⟩)(w:World)(hk:fs r ⟨A,B,X,Y,EE,L⟩ v0 v1 v2 w):
 Kp 52 #[.pointer (some ⟨r,0,none⟩),t] w (aH r v0 v1 v2 w (cY ⟨A,B,X,Y,EE,L⟩ (dZ A B (X,Y,EE) (X,Y,EE)))):=by
 obtain⟨vl,aG,V⟩:=hk;have g0:(u.toList==[99,117,114,118,101])=false:=bg cS;have g1:(u.toList==[115,99,97,108,101])=false:=bg cS;have g2:(u.toList==[112,111,105,110,116])=false:=bg cS;have g3:(u.toList==[97,116])=false:=bg cS;have g4:(u.toList==[109,105,110,117,115])=false:=bg cS;have gY:(u.toList==[100,111,117,98,108,101])=true:=mj hu rfl;clear hu;obtain⟨hA,hB⟩:=fe aa.1;have hc:=λW=>Eb A B (X,Y,EE) (X,Y,EE) hA hB aa.2.1 aa.2.1 W;simp only at hc;clear hA hB;generalize dZ A B (X,Y,EE) (X,Y,EE)=o at *;rcases o with _|⟨x,y,z⟩
 .simp only[cj] at hc;have H1:=h_ hc;have HM:=h_ (λW (hb:Below w.heap.size w W)=>mM r A B X Y EE 0 0 0 vl v0 v1 v2 false W (aG.below hb));have HF:=h_ (λw1 e w2 (hb:Below w.heap.size w w1) h=>@aH.stay r A B X Y EE L v0 v1 v2 vl w w1 w2 e 0 0 0 V hb h);exact Lj
 .simp only[cj] at hc;have H1:=h_ hc;have HM:=h_ (λW (hb:Below w.heap.size w W)=>mM r A B X Y EE x y z vl v0 v1 v2 true W (aG.below hb));have HF:=h_ (λw1 e w2 (hb:Below w.heap.size w w1) h=>@aH.move r A B X Y EE L v0 v1 v2 vl w w1 w2 e x y z V hb h);exact Lj
def Na(r:Nat)(A B X Y EE:Int)(L:aK)(v0 v1 v2:Value)(t:aj)(hs:t.size<=3000)(u:aj)(tl:bV)(K:bL t 32=u::tl)(Q:er)(hQ:fZ Q)
 (a3:jY true Q u tl)
 (hu:u=wPoint)(x1:aj)(a9:x1.size<=10000)(aL:∀v a b T W,Q v a b T W->T=x1)(aa:CS.ok ⟨A,B,X,Y,EE,L⟩)(w:World)(hk:fs r ⟨A,B,X,Y,EE,L⟩ v0 v1 v2 w):
 Kp 52 #[.pointer (some ⟨r,0,none⟩),t] w (aH r v0 v1 v2 w (cY ⟨A,B,X,Y,EE,L⟩ (dM A B x1.data.toList))):=by
 obtain⟨vl,aG,V⟩:=hk;have g0:(u.toList==[99,117,114,118,101])=false:=bg cS;have g1:(u.toList==[115,99,97,108,101])=false:=bg cS;have gY:(u.toList==[112,111,105,110,116])=true:=mj hu rfl;clear hu;obtain⟨hA,hB⟩:=fe aa.1;have hc:=λW=>PF A B hA hB x1 o_ W;clear hA hB;generalize dM A B x1.data.toList=o at *;rcases o with _|⟨x,y,z⟩
 .simp only[cj] at hc;have H1:=h_ hc;have HM:=h_ (λW (hb:Below w.heap.size w W)=>mM r A B X Y EE 0 0 0 vl v0 v1 v2 false W (aG.below hb));have HF:=h_ (λw1 e w2 (hb:Below w.heap.size w w1) h=>@aH.stay r A B X Y EE L v0 v1 v2 vl w w1 w2 e 0 0 0 V hb h);exact Lm
 .simp only[cj] at hc;have H1:=h_ hc;have HM:=h_ (λW (hb:Below w.heap.size w W)=>mM r A B X Y EE x y z vl v0 v1 v2 true W (aG.below hb));have HF:=h_ (λw1 e w2 (hb:Below w.heap.size w w1) h=>@aH.move r A B X Y EE L v0 v1 v2 vl w w1 w2 e x y z V hb h);exact Lm
def Nv(r:Nat)(A B X Y EE:Int)(L:aK)(v0 v1 v2:Value)(t:aj)(hs:t.size<=3000)(u:aj)(tl:bV)(K:bL t 32=u::tl)(Q:er)(hQ:fZ Q)
 (a3:jY true Q u tl)
 (hu:u=g_)(num:Int)(aL:∀v a b T W,Q v a b T W->aq W 0 v [num])(aa:CS.ok ⟨A,B,X,Y,EE,L⟩)(w:World)(hk:fs r ⟨A,B,X,Y,EE,L⟩ v0 v1 v2 w):
 Kp 52 #[.pointer (some ⟨r,0,none⟩),t] w (aH r v0 v1 v2 w (iJ ⟨A,B,X,Y,EE,L⟩ (fL A B num) (A*num*num*num*num) (B*num*num*num*num*num*num))):=by
 obtain⟨vl,aG,V⟩:=hk;have g0:(u.toList==[99,117,114,118,101])=false:=bg cS;have gY:(u.toList==[115,99,97,108,101])=true:=mj hu rfl;clear hu;have hc:=λW=>M2 A B num aa.1 W;unfold qc at hc;have HF:=h_ (λw1 e w2 (hb:Below w.heap.size w w1) h=>@aH.turn r A B X Y EE L v0 v1 v2 vl w w1 w2 e (rs (fL A B num) (A*num*num*num*num)) (rs (fL A B num) (B*num*num*num*num*num*num)) (A*num*num*num*num) (B*num*num*num*num*num*num) (fL A B num) (λh=>by rw[h];exact⟨rfl,rfl⟩) V hb h);generalize iJ _ _ _ _=R at *;generalize rs (fL A B num) (A*num*num*num*num)=x at *;generalize rs (fL A B num) (B*num*num*num*num*num*num)=y at *;generalize fL A B num=f at *;have H1:=h_ hc;have HM:=h_ (λW (hb:Below w.heap.size w W)=>Dq r A B X Y EE x y vl v0 v1 v2 f W (aG.below hb));clear hc aa V;have U:=h_ (gz t 32 w o_);rw[K] at U;have a5:=h_ (jf u);generalize hm:tl.length=m at *;go_enter Tryz.func52,Tryz.ntmps52;go_wp2_with fail
 refine U.out.mono ?_;rintro e w1 ⟨v,rfl,a1,I⟩;obtain⟨g,F,rfl,bo,H,a6⟩:=a1.txw s_;have q0:w1.cell? ⟨g,0,none⟩=some (.string u):=H.2 0 s_;simp only[Uw,hm] at bo ⊢;go_upto_region 2 with fail
 have bq:=H.1;have b6:0<w1.heap.size:=o_;have bz:=@cE.closed w1 true Q hQ;have bZ:=λ(E:au) (hE:aQ E) r9=>@eR.closed w1 true Q hQ E hE r9;have a4:=h_ (λW (hb:Below w1.heap.size w1 W)=>a3 g F W (H.below hb) o_);clear a3 H;apply ja (λr9 p n c a b T Wz=>w1.heap.size<=r9/\ag r9 #[.slice p n c,.int .i64 a,.int .i64 b,.string T] 98 Wz/\cE w1 true Q p n c a b T Wz)
 .exact mA
 .rintro r9 p n c a b T Wz ⟨bs,k9,aZ,ab,az⟩
  try dsimp only
  have aM:=af aZ I.size I;have bY:=aG.lt;have J:=aG.below aM;have ba:=Un bY aM.size;have co:g<Wz.heap.size:=Un bq aZ.size;have b3:=(aZ.cell (p:=⟨g,0,none⟩) bq).trans q0;have b9:g≠r:=o_;have b0:r9≠r:=by have:=I.size;omega
  obtain⟨c0,c1,c2,c3⟩:=k9.q4;have b8:=k9.lt;generalize (if F=1 then (some ⟨g,0,none⟩:bT) else some ⟨g,1,none⟩)=ad at *;have hv:=aL _ _ _ _ _ (ab rfl);obtain⟨p',c',e5,hf⟩:=hv.form;injection e5 with e1 e2 e3;subst e1 e2 e3;obtain⟨gq,rfl,x0,a9,_⟩:=hf 0 s_;have b2:=hv.neS J;have x0:Wz.cell? ⟨gq,0,none⟩=some (.int .i64 num):=by simpa using x0
  simp only[Uw,Vc,U7,Nat.reduceAdd] at c0;clear ab az q0 U a5 a4;go_upto_region 10 with fail
  refine br [r] (λj=>j==12) (λw'=>Below Wz.heap.size Wz w') (λw'=>Below Wz.heap.size Wz w') k_ ((Uk _ _).drew) ?_;apply jE ⟨Wz,ah.refl _ _,Uk _ _⟩ [ae,ae,ae,ae,ae,ae,ae,ae,ae,ae,ae,ae] 2 (bn Wz) (λ_ h=>h) k_ k_ k_ k_ s_
  .intro E hE bv cb;have s0:∀c:aU [r] Wz E,c.wd.cell? ⟨r,0,none⟩=some (.int .i64 A):=λc=>((bv _ c.more).cell (p:=⟨r,0,none⟩) ba).trans (J.cell 0);have s1:∀c:aU [r] Wz E,c.wd.cell? ⟨r,1,none⟩=some (.int .i64 B):=λc=>((bv _ c.more).cell (p:=⟨r,1,none⟩) ba).trans (J.cell 1);have s2:∀c:aU [r] Wz E,c.wd.cell? ⟨r,2,none⟩=some (.int .i64 X):=λc=>((bv _ c.more).cell (p:=⟨r,2,none⟩) ba).trans (J.cell 2);have s3:∀c:aU [r] Wz E,c.wd.cell? ⟨r,3,none⟩=some (.int .i64 Y):=λc=>((bv _ c.more).cell (p:=⟨r,3,none⟩) ba).trans (J.cell 3);have s4:∀c:aU [r] Wz E,c.wd.cell? ⟨r,4,none⟩=some (.int .i64 EE):=λc=>((bv _ c.more).cell (p:=⟨r,4,none⟩) ba).trans (J.cell 4);have s5:∀c:aU [r] Wz E,c.wd.cell? ⟨r,5,none⟩=some vl:=λc=>((bv _ c.more).cell (p:=⟨r,5,none⟩) ba).trans (J.cell 5)
   (repeat (first|(refine gB ?_;go_big_quiet_step ((go_at_call 72;exact Calls.quiet_cls hE _ (H1.out _)));refine wpQuiet_nil ?_)|refine gA ?_));exact gC rfl
  refine aB 12 ?_;refine iR (some 58) (λ_=>True) (λv w'=>aH r v0 v1 v2 w R (.returned v) w') (λv=>aH.closed _ _ _ _ _ _ _) (λ_ _ _=>trivial) (λh=>by simp at h) (λw' hO hd=>(HM.out w' (af hd aM.size aM)).mono λe w2 h=>aH.fin h (HF.out w' e w2 (af hd aM.size aM) h)) (λv hne=>?_);exact Aj
def Nl(r:Nat)(A B X Y EE:Int)(L:aK)(v0 v1 v2:Value)(t:aj)(hs:t.size<=3000)(u:aj)(tl:bV)(K:bL t 32=u::tl)(Q:er)(hQ:fZ Q)
 (a3:jY true Q u tl)
 (hu:u=iF)(aa:CS.ok ⟨A,B,X,Y,EE,L⟩)(w:World)(hk:fs r ⟨A,B,X,Y,EE,L⟩ v0 v1 v2 w):
 Kp 52 #[.pointer (some ⟨r,0,none⟩),t] w (aH r v0 v1 v2 w (cY ⟨A,B,X,Y,EE,L⟩ (some (X,-Y,EE)))):=by
 obtain⟨vl,aG,V⟩:=hk;have g0:(u.toList==[99,117,114,118,101])=false:=bg cS;have g1:(u.toList==[115,99,97,108,101])=false:=bg cS;have g2:(u.toList==[112,111,105,110,116])=false:=bg cS;have g3:(u.toList==[97,116])=false:=bg cS;have gY:(u.toList==[109,105,110,117,115])=true:=mj hu rfl;clear hu;have b5:=aa.2.1.bd;simp only at b5;have H1:=h_ (Co X Y EE o_);have HF:=h_ (λw1 e w2 (hb:Below w.heap.size w w1) h=>@aH.move r A B X Y EE L v0 v1 v2 vl w w1 w2 e X (-Y) EE V hb h);have HM:=h_ (λW (hb:Below w.heap.size w W)=>mM r A B X Y EE X (-Y) EE vl v0 v1 v2 true W (aG.below hb));generalize cY _ _=R at *;generalize a2:-Y=NY at *;clear a2 aa V b5;have U:=h_ (gz t 32 w o_);rw[K] at U;have a5:=h_ (jf u);generalize hm:tl.length=m at *;go_enter Tryz.func52,Tryz.ntmps52;go_wp2_with fail
 refine U.out.mono ?_;rintro e w1 ⟨v,rfl,a1,I⟩;obtain⟨g,F,rfl,bo,H,a6⟩:=a1.txw s_;have q0:w1.cell? ⟨g,0,none⟩=some (.string u):=H.2 0 s_;simp only[Uw,hm] at bo ⊢;go_upto_region 2 with fail
 have bq:=H.1;have b6:0<w1.heap.size:=o_;have bz:=@cE.closed w1 true Q hQ;have bZ:=λ(E:au) (hE:aQ E) r9=>@eR.closed w1 true Q hQ E hE r9;have a4:=h_ (λW (hb:Below w1.heap.size w1 W)=>a3 g F W (H.below hb) o_);clear a3 H;apply ja (λr9 p n c a b T Wz=>w1.heap.size<=r9/\ag r9 #[.slice p n c,.int .i64 a,.int .i64 b,.string T] 98 Wz/\cE w1 true Q p n c a b T Wz)
 .exact mA
 .rintro r9 p n c a b T Wz ⟨bs,k9,aZ,ab,az⟩
  try dsimp only
  have aM:=af aZ I.size I;have bY:=aG.lt;have J:=aG.below aM;have ba:=Un bY aM.size;have co:g<Wz.heap.size:=Un bq aZ.size;have b3:=(aZ.cell (p:=⟨g,0,none⟩) bq).trans q0;have b9:g≠r:=o_;have b0:r9≠r:=by have:=I.size;omega
  obtain⟨c0,c1,c2,c3⟩:=k9.q4;have b8:=k9.lt;generalize (if F=1 then (some ⟨g,0,none⟩:bT) else some ⟨g,1,none⟩)=ad at *;clear ab az q0 U a5 a4;have s2:Wz.cell? ⟨r,2,none⟩=some (.int .i64 X):=J.cell 2;have s3:Wz.cell? ⟨r,3,none⟩=some (.int .i64 Y):=J.cell 3;have s4:Wz.cell? ⟨r,4,none⟩=some (.int .i64 EE):=J.cell 4;go_upto_region 19 with fail
  go_wp2_with fail
  refine ai (H1.out _) λw3 aF=>?_;have aL:=af aF aM.size aM;go_wp2_with fail
  refine (HM.out _ aL).mono ?_;intro e w9 G;have HP:=h_ (HF.out _ e w9 aL G);exact zE
def vW(h:P:=by
 intro E hE bv cb;have s0:∀c:aU [r] Wz E,c.wd.cell? ⟨r,0,none⟩=some (.int .i64 A):=λc=>((bv _ c.more).cell (p:=⟨r,0,none⟩) ba).trans (J.cell 0);have s1:∀c:aU [r] Wz E,c.wd.cell? ⟨r,1,none⟩=some (.int .i64 B):=λc=>((bv _ c.more).cell (p:=⟨r,1,none⟩) ba).trans (J.cell 1);have s2:∀c:aU [r] Wz E,c.wd.cell? ⟨r,2,none⟩=some (.int .i64 X):=λc=>((bv _ c.more).cell (p:=⟨r,2,none⟩) ba).trans (J.cell 2);have s3:∀c:aU [r] Wz E,c.wd.cell? ⟨r,3,none⟩=some (.int .i64 Y):=λc=>((bv _ c.more).cell (p:=⟨r,3,none⟩) ba).trans (J.cell 3);have s4:∀c:aU [r] Wz E,c.wd.cell? ⟨r,4,none⟩=some (.int .i64 EE):=λc=>((bv _ c.more).cell (p:=⟨r,4,none⟩) ba).trans (J.cell 4);have s5:∀c:aU [r] Wz E,c.wd.cell? ⟨r,5,none⟩=some vl:=λc=>((bv _ c.more).cell (p:=⟨r,5,none⟩) ba).trans (J.cell 5)
 (repeat (first|(refine gB ?_;go_big_quiet_step (fail);refine wpQuiet_nil ?_)|refine gA ?_));exact gC rfl):=h
def Kg(h:P:=by
 refine ao ?_;refine aD hne [ac,ac,ac,ac,ac,ac,ac,ac,ac,ac,ac,ac,ac,ac,ac,ac,ac,ac,ac,ac,ac,ac,ae] 0 (aH.closed _ _ _ _ _ _ _) aA ?_;exact vt):=h
def mF(Wz:World)(v:Value)(w':World):Prop:=Below Wz.heap.size Wz w'/\∃x,v=.tuple #[x,false]
def ky(Wz:World)(M:aK)(v:Value)(w':World):Prop:=Below Wz.heap.size Wz w'/\∃x c,v=.tuple #[.slice x M.length c,true]/\am w' Wz.heap.size (.slice x M.length c) M
def mF.closed(Wz:World)(v:Value):aQ (mF Wz v):=λ_ _ ⟨h1,h2⟩ hb=>⟨af hb h1.size h1,h2⟩
def ky.closed(Wz:World)(M:aK)(v:Value):aQ (ky Wz M v):=λ_ _ ⟨h1,x,c,h2,h3⟩ hb=>⟨af hb h1.size h1,x,c,h2,h3.below hb⟩
def eQ.kpN{Wz w' w2:World}{e:Ending}(hb:Below Wz.heap.size Wz w')(h:eQ Option.none w' e w2)(r:Nat):∃v,e=.returned v/\ah [r] w' w2/\mF Wz v w2:=by
 obtain⟨x,h1,_,h3⟩:=h;exact⟨_,h1,.of_below h3,af h3 hb.size hb,x,rfl⟩
def eQ.kpY{Wz w' w2:World}{e:Ending}{M:aK}(hb:Below Wz.heap.size Wz w')(h:eQ (Option.some M) w' e w2)(r:Nat):∃v,e=.returned v/\ah [r] w' w2/\ky Wz M v w2:=by
 obtain⟨x,h1,h2,h3⟩:=h;obtain⟨y,c,rfl,_,_⟩:=(h2 M rfl).form;exact⟨_,h1,.of_below h3,af h3 hb.size hb,y,c,rfl,(h2 M rfl).le hb.size⟩
def ky.get{Wz w':World}{M:aK}{x:bT}{c:Nat}(h:ky Wz M (.tuple #[.slice x M.length c,true]) w'):Below Wz.heap.size Wz w'/\am w' Wz.heap.size (.slice x M.length c) M:=by
 obtain⟨h1,g,c',h2,h3⟩:=h;have h4:x=g/\c=c':=by simpa using h2
 rw[h4.1,h4.2];exact⟨h1,h3⟩
def Ot(r:Nat)(A B X Y EE:Int)(L:aK)(v0 v1 v2:Value)(t:aj)(hs:t.size<=3000)(u:aj)(tl:bV)(K:bL t 32=u::tl)(Q:er)(hQ:fZ Q)
 (a3:jY true Q u tl)
 (hu:u=iG)(aa:CS.ok ⟨A,B,X,Y,EE,L⟩)(w:World)(hk:fs r ⟨A,B,X,Y,EE,L⟩ v0 v1 v2 w):
 Kp 52 #[.pointer (some ⟨r,0,none⟩),t] w (aH r v0 v1 v2 w (eY ⟨A,B,X,Y,EE,L⟩ (iH L (A,B)))):=by
 obtain⟨vl,aG,V⟩:=hk;have g0:(u.toList==[99,117,114,118,101])=false:=bg cS;have g1:(u.toList==[115,99,97,108,101])=false:=bg cS;have g2:(u.toList==[112,111,105,110,116])=false:=bg cS;have g3:(u.toList==[97,116])=false:=bg cS;have g4:(u.toList==[109,105,110,117,115])=false:=bg cS;have g5:(u.toList==[100,111,117,98,108,101])=false:=bg cS;have g6:(u.toList==[116,105,109,101,115])=false:=bg cS;have g7:(u.toList==[114,101,99,111,114,100])=false:=bg cS;have gY:(u.toList==[100,114,111,112])=true:=mj hu rfl;clear hu;have HD:=λW (hb:Below w.heap.size w W)=>SE (r+1) vl L A B aa.1 aa.2.2 W (V.below hb);generalize iH L (A,B)=o at *;have aF:=aG.lt;rcases o with _|M
 .have HM:=h_ (λv W (hb:Below w.heap.size w W)=>BH r A B X Y EE vl v0 v1 v2 v W (aG.below hb));have HF:=h_ (λw1 e w2 (hb:Below w.heap.size w w1) h=>@aH.stay r A B X Y EE L v0 v1 v2 vl w w1 w2 e 0 0 0 V hb h);rw[show cY ⟨A,B,X,Y,EE,L⟩ none=eY ⟨A,B,X,Y,EE,L⟩ none from rfl] at HF;generalize eY ⟨A,B,X,Y,EE,L⟩ none=R at *;have bb:=h_ HD;clear HD aa V aF;have U:=h_ (gz t 32 w o_);rw[K] at U;have a5:=h_ (jf u);generalize hm:tl.length=m at *;go_enter Tryz.func52,Tryz.ntmps52;go_wp2_with fail
  refine U.out.mono ?_;rintro e w1 ⟨v,rfl,a1,I⟩;obtain⟨g,F,rfl,bo,H,a6⟩:=a1.txw s_;have q0:w1.cell? ⟨g,0,none⟩=some (.string u):=H.2 0 s_;simp only[Uw,hm] at bo ⊢;go_upto_region 2 with fail
  have bq:=H.1;have b6:0<w1.heap.size:=o_;have bz:=@cE.closed w1 true Q hQ;have bZ:=λ(E:au) (hE:aQ E) r9=>@eR.closed w1 true Q hQ E hE r9;have a4:=h_ (λW (hb:Below w1.heap.size w1 W)=>a3 g F W (H.below hb) o_);clear a3 H;apply ja (λr9 p n c a b T Wz=>w1.heap.size<=r9/\ag r9 #[.slice p n c,.int .i64 a,.int .i64 b,.string T] 98 Wz/\cE w1 true Q p n c a b T Wz)
  .exact mA
  .rintro r9 p n c a b T Wz ⟨bs,k9,aZ,ab,az⟩
   try dsimp only
   have aM:=af aZ I.size I;have bY:=aG.lt;have J:=aG.below aM;have ba:=Un bY aM.size;have co:g<Wz.heap.size:=Un bq aZ.size;have b3:=(aZ.cell (p:=⟨g,0,none⟩) bq).trans q0;have b9:g≠r:=o_;have b0:r9≠r:=by have:=I.size;omega
   obtain⟨c0,c1,c2,c3⟩:=k9.q4;have b8:=k9.lt;generalize (if F=1 then (some ⟨g,0,none⟩:bT) else some ⟨g,1,none⟩)=ad at *
   skip
   clear ab az q0 U a5 a4;go_upto_region 27 with fail
   refine br [r] (λj=>j==12) (λw'=>Below Wz.heap.size Wz w') (λw'=>Below Wz.heap.size Wz w') k_ ((Uk _ _).drew) ?_;apply jE ⟨Wz,ah.refl _ _,Uk _ _⟩ [ae,ae,ae,ae,ae,ae,ae,ae,ae] 5 (bn Wz) (λ_ h=>h) k_ k_ k_ k_ s_
   .exact vW
   refine aB 9 ?_;refine iR (some 178) (λw'=>Below Wz.heap.size Wz w') (mF Wz) (mF.closed Wz) (λv u h=>h.1) (λ_=>rfl) (λw' hO hd=>(bb.out w' (af hd aM.size aM)).mono λe w2 h=>h.kpN hd r) (λv hne=>?_);obtain⟨w8,b1,_,x,rfl⟩:=id hne;refine ao ?_;refine wk hne [ac,ac,ac,ac,ac,ac,ac,ac,ac,ac,ae,ae] 2 (mF.closed _ _) (λ_ h=>h.1) ?_;refine aB 12 ?_;refine iR (some 181) (λ_=>True) (λv w'=>aH r v0 v1 v2 w R (.returned v) w') (λv=>aH.closed _ _ _ _ _ _ _) (λ_ _ _=>trivial) (λh=>by simp at h) (λw' hO hd=>(HM.out x w' (af hd.1 aM.size aM)).mono λe w2 h=>aH.fin h (HF.out w' e w2 (af hd.1 aM.size aM) h)) (λv hne=>?_);exact Aj
 .have HM:=h_ (λa2 n2 c2 W (hb:Below w.heap.size w W)=>C0 r A B X Y EE vl v0 v1 v2 a2 n2 c2 true W (aG.below hb));have HF:=h_ (λv w1 e w2 (h0:am w1 w.heap.size v M) (hb:Below w.heap.size w w1) h=>@aH.keep r A B X Y EE L M v0 v1 v2 vl v w w1 w2 e h0 aF hb h);generalize eY ⟨A,B,X,Y,EE,L⟩ (some M)=R at *;have bb:=h_ HD;clear HD aa V aF;have U:=h_ (gz t 32 w o_);rw[K] at U;have a5:=h_ (jf u);generalize hm:tl.length=m at *;go_enter Tryz.func52,Tryz.ntmps52;go_wp2_with fail
  refine U.out.mono ?_;rintro e w1 ⟨v,rfl,a1,I⟩;obtain⟨g,F,rfl,bo,H,a6⟩:=a1.txw s_;have q0:w1.cell? ⟨g,0,none⟩=some (.string u):=H.2 0 s_;simp only[Uw,hm] at bo ⊢;go_upto_region 2 with fail
  have bq:=H.1;have b6:0<w1.heap.size:=o_;have bz:=@cE.closed w1 true Q hQ;have bZ:=λ(E:au) (hE:aQ E) r9=>@eR.closed w1 true Q hQ E hE r9;have a4:=h_ (λW (hb:Below w1.heap.size w1 W)=>a3 g F W (H.below hb) o_);clear a3 H;apply ja (λr9 p n c a b T Wz=>w1.heap.size<=r9/\ag r9 #[.slice p n c,.int .i64 a,.int .i64 b,.string T] 98 Wz/\cE w1 true Q p n c a b T Wz)
  .exact mA
  .rintro r9 p n c a b T Wz ⟨bs,k9,aZ,ab,az⟩
   try dsimp only
   have aM:=af aZ I.size I;have bY:=aG.lt;have J:=aG.below aM;have ba:=Un bY aM.size;have co:g<Wz.heap.size:=Un bq aZ.size;have b3:=(aZ.cell (p:=⟨g,0,none⟩) bq).trans q0;have b9:g≠r:=o_;have b0:r9≠r:=by have:=I.size;omega
   obtain⟨c0,c1,c2,c3⟩:=k9.q4;have b8:=k9.lt;generalize (if F=1 then (some ⟨g,0,none⟩:bT) else some ⟨g,1,none⟩)=ad at *
   skip
   clear ab az q0 U a5 a4;go_upto_region 27 with fail
   refine br [r] (λj=>j==12) (λw'=>Below Wz.heap.size Wz w') (λw'=>Below Wz.heap.size Wz w') k_ ((Uk _ _).drew) ?_;apply jE ⟨Wz,ah.refl _ _,Uk _ _⟩ [ae,ae,ae,ae,ae,ae,ae,ae,ae] 5 (bn Wz) (λ_ h=>h) k_ k_ k_ k_ s_
   .exact vW
   refine aB 9 ?_;refine iR (some 178) (λw'=>Below Wz.heap.size Wz w') (ky Wz M) (ky.closed Wz M) (λv u h=>h.1) (λ_=>rfl) (λw' hO hd=>(bb.out w' (af hd aM.size aM)).mono λe w2 h=>h.kpY hd r) (λv hne=>?_);obtain⟨w8,b1,_,x,cx,rfl,_⟩:=id hne;refine ao ?_;refine wk hne [ac,ac,ac,ac,ac,ac,ac,ac,ac,ac,ae,ae] 2 (ky.closed _ _ _) (λ_ h=>h.1) ?_;refine aB 12 ?_;refine iR (some 181) (λ_=>True) (λv w'=>aH r v0 v1 v2 w R (.returned v) w') (λv=>aH.closed _ _ _ _ _ _ _) (λ_ _ _=>trivial) (λh=>by simp at h) (λw' hO hd=>(HM.out x M.length cx w' (af hd.get.1 aM.size aM)).mono λe w2 h=>aH.fin h (HF.out _ w' e w2 (hd.get.2.le aM.size) (af hd.get.1 aM.size aM) h)) (λv hne=>?_);exact Aj
def MH(r:Nat)(A B X Y EE:Int)(L:aK)(v0 v1 v2:Value)(t:aj)(hs:t.size<=3000)(u:aj)(tl:bV)(K:bL t 32=u::tl)(Q:er)(hQ:fZ Q)
 (a3:jY true Q u tl)
 (hu:u=gX)(num G:Int)(aL:∀v a b T W,Q v a b T W->aq W 0 v [num,G])(aa:CS.ok ⟨A,B,X,Y,EE,L⟩)(w:World)(hk:fs r ⟨A,B,X,Y,EE,L⟩ v0 v1 v2 w):
 Kp 52 #[.pointer (some ⟨r,0,none⟩),t] w (aH r v0 v1 v2 w (eY ⟨A,B,X,Y,EE,L⟩ (js L ((A,B),num,G,0)))):=by
 obtain⟨vl,aG,V⟩:=hk;have g0:(u.toList==[99,117,114,118,101])=false:=bg cS;have g1:(u.toList==[115,99,97,108,101])=false:=bg cS;have g2:(u.toList==[112,111,105,110,116])=false:=bg cS;have g3:(u.toList==[97,116])=false:=bg cS;have g4:(u.toList==[109,105,110,117,115])=false:=bg cS;have g5:(u.toList==[100,111,117,98,108,101])=false:=bg cS;have g6:(u.toList==[116,105,109,101,115])=false:=bg cS;have gY:(u.toList==[114,101,99,111,114,100])=true:=mj hu rfl;clear hu;have HD:=λW (hb:Below w.heap.size w W)=>OA (r+1) vl L ((A,B),num,G,0) aa.2.2 W (V.below hb);simp only[cq] at HD;generalize js L ((A,B),num,G,0)=o at *;have aF:=aG.lt;rcases o with _|M
 .have HM:=h_ (λv W (hb:Below w.heap.size w W)=>BH r A B X Y EE vl v0 v1 v2 v W (aG.below hb));have HF:=h_ (λw1 e w2 (hb:Below w.heap.size w w1) h=>@aH.stay r A B X Y EE L v0 v1 v2 vl w w1 w2 e 0 0 0 V hb h);rw[show cY ⟨A,B,X,Y,EE,L⟩ none=eY ⟨A,B,X,Y,EE,L⟩ none from rfl] at HF;generalize eY ⟨A,B,X,Y,EE,L⟩ none=R at *;have bb:=h_ HD;clear HD aa V aF;have U:=h_ (gz t 32 w o_);rw[K] at U;have a5:=h_ (jf u);generalize hm:tl.length=m at *;go_enter Tryz.func52,Tryz.ntmps52;go_wp2_with fail
  refine U.out.mono ?_;rintro e w1 ⟨v,rfl,a1,I⟩;obtain⟨g,F,rfl,bo,H,a6⟩:=a1.txw s_;have q0:w1.cell? ⟨g,0,none⟩=some (.string u):=H.2 0 s_;simp only[Uw,hm] at bo ⊢;go_upto_region 2 with fail
  have bq:=H.1;have b6:0<w1.heap.size:=o_;have bz:=@cE.closed w1 true Q hQ;have bZ:=λ(E:au) (hE:aQ E) r9=>@eR.closed w1 true Q hQ E hE r9;have a4:=h_ (λW (hb:Below w1.heap.size w1 W)=>a3 g F W (H.below hb) o_);clear a3 H;apply ja (λr9 p n c a b T Wz=>w1.heap.size<=r9/\ag r9 #[.slice p n c,.int .i64 a,.int .i64 b,.string T] 98 Wz/\cE w1 true Q p n c a b T Wz)
  .exact mA
  .rintro r9 p n c a b T Wz ⟨bs,k9,aZ,ab,az⟩
   try dsimp only
   have aM:=af aZ I.size I;have bY:=aG.lt;have J:=aG.below aM;have ba:=Un bY aM.size;have co:g<Wz.heap.size:=Un bq aZ.size;have b3:=(aZ.cell (p:=⟨g,0,none⟩) bq).trans q0;have b9:g≠r:=o_;have b0:r9≠r:=by have:=I.size;omega
   obtain⟨c0,c1,c2,c3⟩:=k9.q4;have b8:=k9.lt;generalize (if F=1 then (some ⟨g,0,none⟩:bT) else some ⟨g,1,none⟩)=ad at *;have hv:=aL _ _ _ _ _ (ab rfl);obtain⟨p',c',e5,hf⟩:=hv.form;injection e5 with e1 e2 e3;subst e1 e2 e3;obtain⟨gq,rfl,x0,a9,_⟩:=hf 0 s_;obtain⟨cm,e6,x1,_,_⟩:=hf 1 s_;injection e6 with e6;injection e6 with e6;subst e6;have b2:=hv.neS J;have x0:Wz.cell? ⟨gq,0,none⟩=some (.int .i64 num):=by simpa using x0
   have x1:Wz.cell? ⟨gq,1,none⟩=some (.int .i64 G):=by simpa using x1
   simp only[Uw,Vc,U7,Nat.reduceAdd] at c0;clear ab az q0 U a5 a4;go_upto_region 25 with fail
   refine br [r] (λj=>j==21) (λw'=>Below Wz.heap.size Wz w') (λw'=>Below Wz.heap.size Wz w') k_ ((Uk _ _).drew) ?_;apply jE ⟨Wz,ah.refl _ _,Uk _ _⟩ [ae,ae,ae,ae,ae,ae,ae,ae,ae,ae,ae,ae,ae,ae,ae,ae,ae,ae] 5 (bn Wz) (λ_ h=>h) k_ k_ k_ k_ s_
   .exact vW
   refine aB 18 ?_;refine iR (some 163) (λw'=>Below Wz.heap.size Wz w') (mF Wz) (mF.closed Wz) (λv u h=>h.1) (λ_=>rfl) (λw' hO hd=>(bb.out w' (af hd aM.size aM)).mono λe w2 h=>h.kpN hd r) (λv hne=>?_);obtain⟨w8,b1,_,x,rfl⟩:=id hne;refine ao ?_;refine wk hne [ac,ac,ac,ac,ac,ac,ac,ac,ac,ac,ac,ac,ac,ac,ac,ac,ac,ac,ac,ae,ae] 2 (mF.closed _ _) (λ_ h=>h.1) ?_;refine aB 21 ?_;refine iR (some 166) (λ_=>True) (λv w'=>aH r v0 v1 v2 w R (.returned v) w') (λv=>aH.closed _ _ _ _ _ _ _) (λ_ _ _=>trivial) (λh=>by simp at h) (λw' hO hd=>(HM.out x w' (af hd.1 aM.size aM)).mono λe w2 h=>aH.fin h (HF.out w' e w2 (af hd.1 aM.size aM) h)) (λv hne=>?_);exact Kg
 .have HM:=h_ (λa2 n2 c2 W (hb:Below w.heap.size w W)=>C0 r A B X Y EE vl v0 v1 v2 a2 n2 c2 true W (aG.below hb));have HF:=h_ (λv w1 e w2 (h0:am w1 w.heap.size v M) (hb:Below w.heap.size w w1) h=>@aH.keep r A B X Y EE L M v0 v1 v2 vl v w w1 w2 e h0 aF hb h);generalize eY ⟨A,B,X,Y,EE,L⟩ (some M)=R at *;have bb:=h_ HD;clear HD aa V aF;have U:=h_ (gz t 32 w o_);rw[K] at U;have a5:=h_ (jf u);generalize hm:tl.length=m at *;go_enter Tryz.func52,Tryz.ntmps52;go_wp2_with fail
  refine U.out.mono ?_;rintro e w1 ⟨v,rfl,a1,I⟩;obtain⟨g,F,rfl,bo,H,a6⟩:=a1.txw s_;have q0:w1.cell? ⟨g,0,none⟩=some (.string u):=H.2 0 s_;simp only[Uw,hm] at bo ⊢;go_upto_region 2 with fail
  have bq:=H.1;have b6:0<w1.heap.size:=o_;have bz:=@cE.closed w1 true Q hQ;have bZ:=λ(E:au) (hE:aQ E) r9=>@eR.closed w1 true Q hQ E hE r9;have a4:=h_ (λW (hb:Below w1.heap.size w1 W)=>a3 g F W (H.below hb) o_);clear a3 H;apply ja (λr9 p n c a b T Wz=>w1.heap.size<=r9/\ag r9 #[.slice p n c,.int .i64 a,.int .i64 b,.string T] 98 Wz/\cE w1 true Q p n c a b T Wz)
  .exact mA
  .rintro r9 p n c a b T Wz ⟨bs,k9,aZ,ab,az⟩
   try dsimp only
   have aM:=af aZ I.size I;have bY:=aG.lt;have J:=aG.below aM;have ba:=Un bY aM.size;have co:g<Wz.heap.size:=Un bq aZ.size;have b3:=(aZ.cell (p:=⟨g,0,none⟩) bq).trans q0;have b9:g≠r:=o_;have b0:r9≠r:=by have:=I.size;omega
   obtain⟨c0,c1,c2,c3⟩:=k9.q4;have b8:=k9.lt;generalize (if F=1 then (some ⟨g,0,none⟩:bT) else some ⟨g,1,none⟩)=ad at *;have hv:=aL _ _ _ _ _ (ab rfl);obtain⟨p',c',e5,hf⟩:=hv.form;injection e5 with e1 e2 e3;subst e1 e2 e3;obtain⟨gq,rfl,x0,a9,_⟩:=hf 0 s_;obtain⟨cm,e6,x1,_,_⟩:=hf 1 s_;injection e6 with e6;injection e6 with e6;subst e6;have b2:=hv.neS J;have x0:Wz.cell? ⟨gq,0,none⟩=some (.int .i64 num):=by simpa using x0
   have x1:Wz.cell? ⟨gq,1,none⟩=some (.int .i64 G):=by simpa using x1
   simp only[Uw,Vc,U7,Nat.reduceAdd] at c0;clear ab az q0 U a5 a4;go_upto_region 25 with fail
   refine br [r] (λj=>j==21) (λw'=>Below Wz.heap.size Wz w') (λw'=>Below Wz.heap.size Wz w') k_ ((Uk _ _).drew) ?_;apply jE ⟨Wz,ah.refl _ _,Uk _ _⟩ [ae,ae,ae,ae,ae,ae,ae,ae,ae,ae,ae,ae,ae,ae,ae,ae,ae,ae] 5 (bn Wz) (λ_ h=>h) k_ k_ k_ k_ s_
   .exact vW
   refine aB 18 ?_;refine iR (some 163) (λw'=>Below Wz.heap.size Wz w') (ky Wz M) (ky.closed Wz M) (λv u h=>h.1) (λ_=>rfl) (λw' hO hd=>(bb.out w' (af hd aM.size aM)).mono λe w2 h=>h.kpY hd r) (λv hne=>?_);obtain⟨w8,b1,_,x,cx,rfl,_⟩:=id hne;refine ao ?_;refine wk hne [ac,ac,ac,ac,ac,ac,ac,ac,ac,ac,ac,ac,ac,ac,ac,ac,ac,ac,ac,ae,ae] 2 (ky.closed _ _ _) (λ_ h=>h.1) ?_;refine aB 21 ?_;refine iR (some 166) (λ_=>True) (λv w'=>aH r v0 v1 v2 w R (.returned v) w') (λv=>aH.closed _ _ _ _ _ _ _) (λ_ _ _=>trivial) (λh=>by simp at h) (λw' hO hd=>(HM.out x M.length cx w' (af hd.get.1 aM.size aM)).mono λe w2 h=>aH.fin h (HF.out _ w' e w2 (hd.get.2.le aM.size) (af hd.get.1 aM.size aM) h)) (λv hne=>?_);exact Kg
def NL(r:Nat)(A B X Y EE:Int)(L:aK)(v0 v1 v2:Value)(t:aj)(hs:t.size<=3000)(u:aj)(tl:bV)(K:bL t 32=u::tl)(Q:er)(hQ:fZ Q)
 (a3:jY true Q u tl)
 (hu:u=ie)(num G:Int)(aL:∀v a b T W,Q v a b T W->aq W 0 v [num,G])(aa:CS.ok ⟨A,B,X,Y,EE,L⟩)(w:World)(hk:fs r ⟨A,B,X,Y,EE,L⟩ v0 v1 v2 w):
 Kp 52 #[.pointer (some ⟨r,0,none⟩),t] w (aH r v0 v1 v2 w (iJ ⟨A,B,X,Y,EE,L⟩ (be num G) num G)):=by
 obtain⟨vl,aG,V⟩:=hk;have gY:(u.toList==[99,117,114,118,101])=true:=mj hu rfl;clear hu;have HF:=h_ (λw1 e w2 (hb:Below w.heap.size w w1) h=>@aH.turn r A B X Y EE L v0 v1 v2 vl w w1 w2 e num G num G (be num G) (λ_=>⟨rfl,rfl⟩) V hb h);have H1:=h_ (fP num G);generalize iJ _ _ _ _=R at *;generalize be num G=f at *;have HM:=h_ (λW (hb:Below w.heap.size w W)=>Dq r A B X Y EE num G vl v0 v1 v2 f W (aG.below hb));clear aa V;have U:=h_ (gz t 32 w o_);rw[K] at U;have a5:=h_ (jf u);generalize hm:tl.length=m at *;go_enter Tryz.func52,Tryz.ntmps52;go_wp2_with fail
 refine U.out.mono ?_;rintro e w1 ⟨v,rfl,a1,I⟩;obtain⟨g,F,rfl,bo,H,a6⟩:=a1.txw s_;have q0:w1.cell? ⟨g,0,none⟩=some (.string u):=H.2 0 s_;simp only[Uw,hm] at bo ⊢;go_upto_region 2 with fail
 have bq:=H.1;have b6:0<w1.heap.size:=o_;have bz:=@cE.closed w1 true Q hQ;have bZ:=λ(E:au) (hE:aQ E) r9=>@eR.closed w1 true Q hQ E hE r9;have a4:=h_ (λW (hb:Below w1.heap.size w1 W)=>a3 g F W (H.below hb) o_);clear a3 H;apply ja (λr9 p n c a b T Wz=>w1.heap.size<=r9/\ag r9 #[.slice p n c,.int .i64 a,.int .i64 b,.string T] 98 Wz/\cE w1 true Q p n c a b T Wz)
 .exact mA
 .rintro r9 p n c a b T Wz ⟨bs,k9,aZ,ab,az⟩
  try dsimp only
  have aM:=af aZ I.size I;have bY:=aG.lt;have J:=aG.below aM;have ba:=Un bY aM.size;have co:g<Wz.heap.size:=Un bq aZ.size;have b3:=(aZ.cell (p:=⟨g,0,none⟩) bq).trans q0;have b9:g≠r:=o_;have b0:r9≠r:=by have:=I.size;omega
  obtain⟨c0,c1,c2,c3⟩:=k9.q4;have b8:=k9.lt;generalize (if F=1 then (some ⟨g,0,none⟩:bT) else some ⟨g,1,none⟩)=ad at *;have hv:=aL _ _ _ _ _ (ab rfl);obtain⟨p',c',e5,hf⟩:=hv.form;injection e5 with e1 e2 e3;subst e1 e2 e3;obtain⟨gq,rfl,x0,a9,_⟩:=hf 0 s_;obtain⟨cm,e6,x1,_,_⟩:=hf 1 s_;injection e6 with e6;injection e6 with e6;subst e6;have b2:=hv.neS J;have x0:Wz.cell? ⟨gq,0,none⟩=some (.int .i64 num):=by simpa using x0
  have x1:Wz.cell? ⟨gq,1,none⟩=some (.int .i64 G):=by simpa using x1
  simp only[Uw,Vc,U7,Nat.reduceAdd] at c0;clear ab az q0 U a5 a4;go_upto_region 7 with fail
  obtain⟨W2,cu⟩:∃W2,W2=Wz:=⟨_,rfl⟩
  subst cu;apply fO (λr8 Wz=>ah [] W2 Wz/\(λw'=>Below W2.heap.size W2 w') Wz/\W2.heap.size<=r8/\ag r8 #[num,G] 42 Wz)
  .intro bp;refine br [] (λ_=>false) (λ_=>True) (KD (λw'=>Below W2.heap.size W2 w') []) k_ ⟨(bn W2) _ _ (Uk _ _) ((Uk _ _).drew),bR.nil _⟩ ?_;refine aD ⟨W2,ah.refl _ _,Uk _ _,bR.nil _⟩ [ae,ae,ae,ae,ae,ae,ae,ae,ae] 2 (KD.closed (bn W2) _) aA ?_;refine aR [9] ?_;refine ak.cons ?_ ?_
   .refine dm (zs:=#[(),()]) (T:=42) (bn W2) (λr8 cc c7 hne=>?_);refine ao ?_;refine aR [10] ?_;refine ak.cons ?_ ?_
    .refine fk (v:=.agg #[num,G]) [] [] (.inl cc) (bn W2) (λ_ _ h Z=>Z.belowGe h h.size ii) s_ (λhne=>?_)
     try simp only[Value.cells]
     exact Jd
    exact ak.nil
   exact ak.nil
  try dsimp only
  rintro rM W3 ⟨bi,cv,b4,kM⟩;replace aM:=af cv aM.size aM;replace J:=J.below cv;replace ba:=Un ba cv.size;have aF:rM≠r:=o_;obtain⟨a8,bx⟩:=kM.q2;have bX:=kM.lt;clear c0 c1 c2 c3 x0 x1 b3 bi;go_upto_region 8 with fail
  refine br [r] (λj=>j==4) (λw'=>Below W3.heap.size W3 w') (λw'=>Below W3.heap.size W3 w') k_ ((Uk _ _).drew) ?_;apply jE ⟨W3,ah.refl _ _,Uk _ _⟩ [ae,ae,ae,ae] 2 (bn W3) (λ_ h=>h) k_ k_ k_ k_ s_
  .intro E hE bv cb;have s0:∀c:aU [r] W3 E,c.wd.cell? ⟨r,0,none⟩=some (.int .i64 A):=λc=>((bv _ c.more).cell (p:=⟨r,0,none⟩) ba).trans (J.cell 0);have s1:∀c:aU [r] W3 E,c.wd.cell? ⟨r,1,none⟩=some (.int .i64 B):=λc=>((bv _ c.more).cell (p:=⟨r,1,none⟩) ba).trans (J.cell 1);have s2:∀c:aU [r] W3 E,c.wd.cell? ⟨r,2,none⟩=some (.int .i64 X):=λc=>((bv _ c.more).cell (p:=⟨r,2,none⟩) ba).trans (J.cell 2);have s3:∀c:aU [r] W3 E,c.wd.cell? ⟨r,3,none⟩=some (.int .i64 Y):=λc=>((bv _ c.more).cell (p:=⟨r,3,none⟩) ba).trans (J.cell 3);have s4:∀c:aU [r] W3 E,c.wd.cell? ⟨r,4,none⟩=some (.int .i64 EE):=λc=>((bv _ c.more).cell (p:=⟨r,4,none⟩) ba).trans (J.cell 4);have s5:∀c:aU [r] W3 E,c.wd.cell? ⟨r,5,none⟩=some vl:=λc=>((bv _ c.more).cell (p:=⟨r,5,none⟩) ba).trans (J.cell 5)
   (repeat (first|(refine gB ?_;go_big_quiet_step ((go_at_call 71;exact Calls.quiet_cls hE _ (H1.out _)));refine wpQuiet_nil ?_)|refine gA ?_));exact gC rfl
  refine aB 4 ?_;refine iR (some 43) (λ_=>True) (λv w'=>aH r v0 v1 v2 w R (.returned v) w') (λv=>aH.closed _ _ _ _ _ _ _) (λ_ _ _=>trivial) (λh=>by simp at h) (λw' hO hd=>(HM.out w' (af hd aM.size aM)).mono λe w2 h=>aH.fin h (HF.out w' e w2 (af hd aM.size aM) h)) (λv hne=>?_);refine ao ?_;refine aD hne [ac,ac,ac,ac,ac,ae] 0 (aH.closed _ _ _ _ _ _ _) aA ?_;exact vt
def Sc{A B a b:Int}(h:jt A B a b≠[]):kb a b=true:=by
 unfold jt at h;cases G:kb a b
 .rw[G] at h;simp at h
 .rfl
def QF(r:Nat)(A B X Y EE:Int)(L:aK)(v0 v1 v2:Value)(t:aj)(hs:t.size<=3000)(u:aj)(tl:bV)(K:bL t 32=u::tl)(Q:er)(hQ:fZ Q)
 (a3:jY true Q u tl)
 (hu:u=wAt)(x1:aj)(aL:∀v a b T W,Q v a b T W->bu x1.data.toList=some (a,b))(aa:CS.ok ⟨A,B,X,Y,EE,L⟩)(w:World)(hk:fs r ⟨A,B,X,Y,EE,L⟩ v0 v1 v2 w):
 Kp 52 #[.pointer (some ⟨r,0,none⟩),t] w (aH r v0 v1 v2 w (ir x1 ⟨A,B,X,Y,EE,L⟩)):=by
 obtain⟨vl,aG,V⟩:=hk;have g0:(u.toList==[99,117,114,118,101])=false:=bg cS;have g1:(u.toList==[115,99,97,108,101])=false:=bg cS;have g2:(u.toList==[112,111,105,110,116])=false:=bg cS;have gY:(u.toList==[97,116])=true:=mj hu rfl;clear hu;obtain⟨R,hR⟩:∃R,ir x1 ⟨A,B,X,Y,EE,L⟩=R:=⟨_,rfl⟩
 rw[hR];have HR:=h_ hR;have HS:=h_ (λw1 (hb:Below w.heap.size w w1)=>@aH.same r v0 v1 v2 vl ⟨A,B,X,Y,EE,L⟩ np w w1 aG V hb);have HM:=h_ (λx y z W (hb:Below w.heap.size w W)=>mM r A B X Y EE x y z vl v0 v1 v2 true W (aG.below hb));have HF:=h_ (λx y z w1 e w2 (hb:Below w.heap.size w w1) h=>@aH.move r A B X Y EE L v0 v1 v2 vl w w1 w2 e x y z V hb h);have hC:=aa.1;clear hR aa V;have U:=h_ (gz t 32 w o_);rw[K] at U;have a5:=h_ (jf u);generalize hm:tl.length=m at *;go_enter Tryz.func52,Tryz.ntmps52;go_wp2_with fail
 refine U.out.mono ?_;rintro e w1 ⟨v,rfl,a1,I⟩;obtain⟨g,F,rfl,bo,H,a6⟩:=a1.txw s_;have q0:w1.cell? ⟨g,0,none⟩=some (.string u):=H.2 0 s_;simp only[Uw,hm] at bo ⊢;go_upto_region 2 with fail
 have bq:=H.1;have b6:0<w1.heap.size:=o_;have bz:=@cE.closed w1 true Q hQ;have bZ:=λ(E:au) (hE:aQ E) r9=>@eR.closed w1 true Q hQ E hE r9;have a4:=h_ (λW (hb:Below w1.heap.size w1 W)=>a3 g F W (H.below hb) o_);clear a3 H;apply ja (λr9 p n c a b T Wz=>w1.heap.size<=r9/\ag r9 #[.slice p n c,.int .i64 a,.int .i64 b,.string T] 98 Wz/\cE w1 true Q p n c a b T Wz)
 .exact mA
 .rintro r9 p n c a b T Wz ⟨bs,k9,aZ,ab,az⟩
  try dsimp only
  have aM:=af aZ I.size I;have bY:=aG.lt;have J:=aG.below aM;have ba:=Un bY aM.size;have co:g<Wz.heap.size:=Un bq aZ.size;have b3:=(aZ.cell (p:=⟨g,0,none⟩) bq).trans q0;have b9:g≠r:=o_;have b0:r9≠r:=by have:=I.size;omega
  obtain⟨c0,c1,c2,c3⟩:=k9.q4;have b8:=k9.lt;generalize (if F=1 then (some ⟨g,0,none⟩:bT) else some ⟨g,1,none⟩)=ad at *;have b2:=aL _ _ _ _ _ (ab rfl);have bx:Hid (R=cY ⟨A,B,X,Y,EE,L⟩ (jt A B a b).head?):=h_ (by rw[<-HR.out];unfold ir;rw[b2]);have H1:=h_ (MX A B a b hC (yr b2));have aF:=@Sc A B a b;obtain⟨s0,s1⟩:=J.q2;clear ab az q0 U a5 a4;clear hC b2 aL hQ aG bz bZ k9 HR;obtain⟨W2,cu⟩:∃W2,W2=Wz:=⟨_,rfl⟩
  subst cu;generalize jt A B a b=PL at *;generalize kb a b=pb at *;rcases PL with _|⟨⟨x,y,z⟩,rest⟩
  .clear aF;go_upto_region 14 with fail
   refine br [] (λ_=>false) (λ_=>True) (λ_=>True) k_ (trivial) ?_;refine aD ⟨W2,ah.refl _ _,trivial⟩ [ae,ae,ae,ae,ae,ae] 6 an aA ?_;refine aB 6 ?_;refine bG (some 81) (λv=>λw'=>∃c:bT×Nat,v=.tuple #[.slice c.1 0 c.2,pb]) (λv=>λ_ _ h _=>h) (λw' hO _=>(H1.out w').mono λe w2 ⟨v,h1,h2,h3⟩=>by obtain⟨x,c,rfl,_⟩:=h2.form;exact⟨_,h1,.of_below h3,(x,c),rfl⟩) (λv hne=>?_);refine ao ?_;obtain⟨w8,b1,⟨x8,c8⟩,rfl⟩:=id hne;refine aD hne [ac,ac,ac,ac,ac,ac,ac,ae,ae,ae,ae,ae] 0 (λ_ _ h _=>h) aA ?_;refine cV λWz a7 aX=>?_
   try dsimp only
   have bi:=af a7.below aM.size aM;clear aX hne b1 a7 s0 s1 c0 c1 c2 c3 b3;cases pb
   all_goals
    go_wp2;go_ret;rw[bx.out];exact HS.out _ bi
  .obtain rfl:=aF s_;clear aF;generalize b4:(x,y,z)::rest=PL at *;have ca:(0:Int)<(PL.length:Int):=by rw[<-b4];simp
   have c6:((PL.length:Int)==0)=false:=by rw[Uz];omega
   go_upto_region 14 with fail
   refine br [] (λ_=>false) (λ_=>True) (λ_=>True) k_ (trivial) ?_;refine aD ⟨W2,ah.refl _ _,trivial⟩ [ae,ae,ae,ae,ae,ae] 6 an aA ?_;refine aB 6 ?_;refine bG (some 81) (λv=>λw'=>∃c:bT×Nat,v=.tuple #[.slice c.1 PL.length c.2,true]/\bD w' W2.heap.size (.slice c.1 PL.length c.2) PL) (λv=>λ_ _ ⟨c,h1,h2⟩ hb=>⟨c,h1,h2.below hb⟩) (λw' hO _=>(H1.out w').mono λe w2 ⟨v,h1,h2,h3⟩=>by obtain⟨x,c,rfl,_⟩:=h2.form;exact⟨_,h1,.of_below h3,(x,c),rfl,h2.le hO.size⟩) (λv hne=>?_);refine ao ?_;obtain⟨w8,b1,⟨x8,c8⟩,rfl,_⟩:=id hne;refine aD hne [ac,ac,ac,ac,ac,ac,ac,ae,ae,ae,ae,ae] 0 (λ_ _ ⟨c,h1,h2⟩ hb=>⟨c,h1,h2.below hb⟩) aA ?_;refine cV λWz a7 aX=>?_
   try dsimp only
   have bi:=af a7.below aM.size aM;obtain⟨c',bb,bX⟩:=aX;have h3:x8=c'.1/\c8=c'.2:=by simpa using bb
   rw[<-h3.1,<-h3.2] at bX;obtain⟨a9,c9,e9,a8⟩:=bX.form;injection e9 with e9 _ cm;subst e9 cm;subst b4;obtain⟨g9,rfl,y0,y1,y2,cZ,_⟩:=a8 0 s_;simp only[Ws,Nat.zero_mul,U7] at y0 y1 y2;clear hne b1 a7 s0 s1 c0 c1 c2 c3 b3 a8 bX bb h3;go_wp2_with fail
   refine (HM.out x y z _ bi).mono ?_;intro e w9 G;have HP:=h_ (HF.out x y z _ e w9 bi G);obtain⟨rfl,_,_⟩:=G;go_wp2;go_ret;rw[bx.out];exact HP.out
def pB(h:P:=by rintro rfl;exact h d_):=h
def ri(h:P:=by simp at hc;omega):=h
def Gk(h:P:=by
 rw[Uj pB];rw[Uj pB];rw[Uj pB]):=h
def oM(u):(ch u=⟨#[]⟩/\(u=iF\/u=iC\/u=iK\/u=iE\/u=iy\/u=iG\/u=iI\/u=iu))\/(ch u=⟨#[110]⟩/\(u=ic\/u=g_\/u=ia\/u=ib\/u=ig\/u=gZ))\/(ch u=⟨#[110,110]⟩/\(u=ie\/u=gV\/u=gX))\/(ch u=⟨#[102]⟩/\u=wAt)\/(ch u=⟨#[119]⟩/\u=wPoint)\/ch u=⟨#[63]⟩:=by
 by_cases h0:u=iF
 .subst h0;exact .inl ⟨by decide,by simp⟩
 by_cases h1:u=iC
 .subst h1;exact .inl ⟨by decide,by simp⟩
 by_cases h2:u=iK
 .subst h2;exact .inl ⟨by decide,by simp⟩
 by_cases h3:u=iE
 .subst h3;exact .inl ⟨by decide,by simp⟩
 by_cases h4:u=iy
 .subst h4;exact .inl ⟨by decide,by simp⟩
 by_cases h5:u=iG
 .subst h5;exact .inl ⟨by decide,by simp⟩
 by_cases h6:u=iI
 .subst h6;exact .inl ⟨by decide,by simp⟩
 by_cases h7:u=iu
 .subst h7;exact .inl ⟨by decide,by simp⟩
 by_cases h8:u=ic
 .subst h8;exact .inr (.inl ⟨by decide,by simp⟩)
 by_cases h9:u=g_
 .subst h9;exact .inr (.inl ⟨by decide,by simp⟩)
 by_cases F:u=ia
 .subst F;exact .inr (.inl ⟨by decide,by simp⟩)
 by_cases U:u=ib
 .subst U;exact .inr (.inl ⟨by decide,by simp⟩)
 by_cases H:u=ig
 .subst H;exact .inr (.inl ⟨by decide,by simp⟩)
 by_cases K:u=gZ
 .subst K;exact .inr (.inl ⟨by decide,by simp⟩)
 by_cases J:u=ie
 .subst J;exact .inr (.inr (.inl ⟨by decide,by simp⟩))
 by_cases I:u=gV
 .subst I;exact .inr (.inr (.inl ⟨by decide,by simp⟩))
 by_cases V:u=gX
 .subst V;exact .inr (.inr (.inl ⟨by decide,by simp⟩))
 by_cases g:u=wAt
 .subst g;exact .inr (.inr (.inr (.inl ⟨by decide,rfl⟩)))
 by_cases G:u=wPoint
 .subst G;exact .inr (.inr (.inr (.inr (.inl ⟨by decide,rfl⟩))))
 refine .inr (.inr (.inr (.inr (.inr ?_))));unfold ch;rw[Uj h0,Uj h1,Uj h2,Uj h3,Uj h4,Uj h5,Uj h6,Uj h7,Uj h8,Uj h9,Uj F,Uj U,Uj H,Uj K,Uj J,Uj I,Uj V,Uj g,Uj G]
def Dc(u):(ch u).size<=2:=by
 rcases oM u with ⟨h,_⟩|⟨h,_⟩|⟨h,_⟩|⟨h,_⟩|⟨h,_⟩|h<;>rw[h]<;>decide
def e_(xs:List Int):er:=λv _ _ _ w=>aq w 0 v xs
def e_.ok(xs):fZ (e_ xs):=⟨λ_ _ _ _ _ _ h hb=>aq.below h hb,λ_ _ _ _ _ _ _ h Z hn=>aq.over h Z (λg hg hm=>by rw[UD] at hm;subst hm;exact hn hg)⟩
def et:er:=λ_ _ _ _ _=>True
def et.ok:fZ et:=⟨λ_ _ _ _ _ _ _ _=>trivial,λ_ _ _ _ _ _ _ _ _ _=>trivial⟩
def se(x:aj):er:=λ_ _ _ T _=>T=x
def se.ok(x):fZ (se x):=⟨λ_ _ _ _ _ _ h _=>h,λ_ _ _ _ _ _ _ h _ _=>h⟩
def sp(l:List UInt8):er:=λ_ a b _ _=>bu l=some (a,b)
def sp.ok(l):fZ (sp l):=⟨λ_ _ _ _ _ _ h _=>h,λ_ _ _ _ _ _ _ h _ _=>h⟩
def dX.weak{ok}{Q g:er}{w}{e}{w'}(h:dX ok Q w e w')(hq:∀v a b T,Q v a b T w'->g v a b T w'):dX ok g w e w':=by
 have⟨G,a,b,T,h1,h2,h3,h4⟩:=h;exact⟨G,a,b,T,h1,h2,λhk=>hq _ _ _ _ (h3 hk),h4⟩
def ud{u}{tl}(h:(ch u).size≠tl.length)(hn:tl.length<=3000)(g F)(W)(_:dP g (u::tl) W)(_:tl.length+1<=F):
 Kp 68 #[.string (ch u),.slice (if F=1 then some ⟨g,0,none⟩ else some ⟨g,1,none⟩) tl.length (F - 1)] W (dX false et W):=
 Nc (ch u) _ _ _ h (Dc u) hn W
def nk{u}(h:ch u=⟨#[]⟩)(g F)(W)(_:dP g [u] W)(_:([]:bV).length+1<=F):
 Kp 68 #[.string (ch u),.slice (if F=1 then some ⟨g,0,none⟩ else some ⟨g,1,none⟩) ([]:bV).length (F - 1)] W (dX true et W):=by
 rw[h];exact PZ _ _ W
def T7{u x}(h:ch u=⟨#[63]⟩)(g F)(W)(ht:dP g [u,x] W)(hc:[x].length+1<=F):
 Kp 68 #[.string (ch u),.slice (if F=1 then some ⟨g,0,none⟩ else some ⟨g,1,none⟩) [x].length (F - 1)] W (dX false et W):=by
 rw[h,Uj ri];exact Po g _ x W ht.1 (ht.2 1 s_)
def T_{u x}(h:ch u=⟨#[119]⟩)(g F)(W)(ht:dP g [u,x] W)(hc:[x].length+1<=F):
 Kp 68 #[.string (ch u),.slice (if F=1 then some ⟨g,0,none⟩ else some ⟨g,1,none⟩) [x].length (F - 1)] W (dX true (se x) W):=by
 rw[h,Uj ri];exact OQ g _ x W ht.1 (ht.2 1 s_)
def Ub{u x}(h:ch u=⟨#[102]⟩)(hx:x.size<=10000)(g F)(W)(ht:dP g [u,x] W)(hc:[x].length+1<=F):
 Kp 68 #[.string (ch u),.slice (if F=1 then some ⟨g,0,none⟩ else some ⟨g,1,none⟩) [x].length (F - 1)] W (dX (bu x.data.toList).isSome (sp x.data.toList) W):=by
 rw[h,Uj ri];exact O6 g _ x hx W ht.1 (ht.2 1 s_)
def Ld{u x}(h:ch u=⟨#[110]⟩)(hx:x.size<=10000)(g F)(W)(ht:dP g [u,x] W)(hc:[x].length+1<=F):
 Kp 68 #[.string (ch u),.slice (if F=1 then some ⟨g,0,none⟩ else some ⟨g,1,none⟩) [x].length (F - 1)] W (dX (cg x).isSome (λv _ _ _ w=>∃n,cg x=some n/\aq w 0 v [n]) W):=by
 rw[h,Uj ri];exact (PD g _ x hx W ht.1 (ht.2 1 s_)).mono λe w' G=>G.weak λv a b T ⟨n,h1,h2⟩=>⟨n,h1,h2.le (UB _)⟩
def GB{u x y}(h:ch u=⟨#[110,110]⟩)(hx:x.size<=10000)(hy:y.size<=10000)(g F)(W)(ht:dP g [u,x,y] W)(hc:[x,y].length+1<=F):
 Kp 68 #[.string (ch u),.slice (if F=1 then some ⟨g,0,none⟩ else some ⟨g,1,none⟩) [x,y].length (F - 1)] W (dX ((cg x).isSome&&(cg y).isSome) (λv _ _ _ w=>∃n m,cg x=some n/\cg y=some m/\aq w 0 v [n,m]) W):=by
 rw[h,Uj ri];exact (OK g _ x y hx hy W ht.1 (ht.2 1 s_) (ht.2 2 s_)).mono λe w' G=>G.weak λv a b T ⟨n,m,h1,h2,h3⟩=>⟨n,m,h1,h2,h3.le (UB _)⟩
def Tp{u x}{n}(hn:cg x=some n)(h:ch u=⟨#[110]⟩)(hx:x.size<=10000)(g F)(W)(ht:dP g [u,x] W)(hc:[x].length+1<=F):
 Kp 68 #[.string (ch u),.slice (if F=1 then some ⟨g,0,none⟩ else some ⟨g,1,none⟩) [x].length (F - 1)] W (dX true (e_ [n]) W):=by
 have:=Ld h hx g F W ht hc;rw[hn] at this;exact this.mono λe w' G=>G.weak λv a b T ⟨m,h1,h2⟩=>by injection h1 with h1;subst h1;exact h2
def Rs{u x y}{n m}(hn:cg x=some n)(hm:cg y=some m)(h:ch u=⟨#[110,110]⟩)(hx:x.size<=10000)(hy:y.size<=10000)(g F)(W)(ht:dP g [u,x,y] W)(hc:[x,y].length+1<=F):
 Kp 68 #[.string (ch u),.slice (if F=1 then some ⟨g,0,none⟩ else some ⟨g,1,none⟩) [x,y].length (F - 1)] W (dX true (e_ [n,m]) W):=by
 have:=GB h hx hy g F W ht hc;rw[hn,hm] at this;exact this.mono λe w' G=>G.weak λv a b T ⟨k,l,h1,h2,h3⟩=>by injection h1 with h1;injection h2 with h2;subst h1 h2;exact h3
def Rg{u x}(hn:cg x=none)(h:ch u=⟨#[110]⟩)(hx:x.size<=10000)(g F)(W)(ht:dP g [u,x] W)(hc:[x].length+1<=F):
 Kp 68 #[.string (ch u),.slice (if F=1 then some ⟨g,0,none⟩ else some ⟨g,1,none⟩) [x].length (F - 1)] W (dX false et W):=by
 have:=Ld h hx g F W ht hc;rw[hn] at this;exact this.mono λe w' G=>G.weak λ_ _ _ _ _=>trivial
def Pc{u x y}(hn:((cg x).isSome&&(cg y).isSome)=false)(h:ch u=⟨#[110,110]⟩)(hx:x.size<=10000)(hy:y.size<=10000)(g F)(W)(ht:dP g [u,x,y] W)(hc:[x,y].length+1<=F):
 Kp 68 #[.string (ch u),.slice (if F=1 then some ⟨g,0,none⟩ else some ⟨g,1,none⟩) [x,y].length (F - 1)] W (dX false et W):=by
 have:=GB h hx hy g F W ht hc;rw[hn] at this;exact this.mono λe w' G=>G.weak λ_ _ _ _ _=>trivial
def mG(r)(s:CS)(v0 v1 v2)(t)(hs:t.size<=3000)(u)(tl)(K:bL t 32=u::tl)(hl:eF (u::tl) s=(cC,s))
 (a3:jY false et u tl)
 (w)(hk:fs r s v0 v1 v2 w):Kp 52 #[.pointer r,t] w (aH r v0 v1 v2 w (eF (u::tl) s)):=by
 rw[hl];exact Pl r s v0 v1 v2 t hs (by rw[K];simp) u tl K et et.ok a3 w hk
def Rz(r)(A B X Y E)(L)(v0 v1 v2)(t)(hs:t.size<=3000)(aa:CS.ok ⟨A,B,X,Y,E,L⟩)(w)(ht:TabI w)(hk:fs r ⟨A,B,X,Y,E,L⟩ v0 v1 v2 w)(u)(K:bL t 32=[u]):Kp 52 #[.pointer r,t] w (aH r v0 v1 v2 w (eF [u] ⟨A,B,X,Y,E,L⟩)):=by
 show Kp 52 #[.pointer r,t] w (aH r v0 v1 v2 w (jh u ⟨A,B,X,Y,E,L⟩));have bi:=K;unfold jh;by_cases h0:u=iF
 .rw[Um h0];subst h0;exact Nl r A B X Y E L v0 v1 v2 t hs iF [] K et et.ok (nk d_) rfl aa w hk
 rw[Uj h0];by_cases h1:u=iC
 .rw[Um h1];subst h1;exact MA r A B X Y E L v0 v1 v2 t hs iC [] K et et.ok (nk d_) rfl aa w hk
 rw[Uj h1];by_cases h2:u=iK
 .rw[Um h2];subst h2;exact ld r _ v0 v1 v2 t hs iK [] K et et.ok (nk d_) d_ d_ d_ d_ d_ d_ d_ d_ d_ w hk _ (λp n c a b T W hb _=>by obtain⟨vl,g1,g2⟩:=hk;exact OT r A B X Y E L vl v0 v1 v2 p n c a b T aa W (g1.below hb) (g2.below hb))
 rw[Uj h2];by_cases h3:u=iE
 .rw[Um h3];subst h3;exact ld r _ v0 v1 v2 t hs iE [] K et et.ok (nk d_) d_ d_ d_ d_ d_ d_ d_ d_ d_ w hk _ (λp n c a b T W hb _=>by obtain⟨vl,g1,g2⟩:=hk;exact N6 r A B X Y E L vl v0 v1 v2 p n c a b T aa W (g1.below hb) (g2.below hb))
 rw[Uj h3];by_cases h4:u=iy
 .rw[Um h4];subst h4;exact ld r _ v0 v1 v2 t hs iy [] K et et.ok (nk d_) d_ d_ d_ d_ d_ d_ d_ d_ d_ w hk _ (λp n c a b T W hb _=>by obtain⟨vl,g1,g2⟩:=hk;exact MM r A B X Y E L vl v0 v1 v2 p n c a b T aa W (g1.below hb) (g2.below hb))
 rw[Uj h4];by_cases h5:u=iG
 .rw[Um h5];subst h5;exact Ot r A B X Y E L v0 v1 v2 t hs iG [] K et et.ok (nk d_) rfl aa w hk
 rw[Uj h5];by_cases h6:u=iI
 .rw[Um h6];subst h6;exact ld r _ v0 v1 v2 t hs iI [] K et et.ok (nk d_) d_ d_ d_ d_ d_ d_ d_ d_ d_ w hk _ (λp n c a b T W hb _=>by obtain⟨vl,g1,g2⟩:=hk;exact Pm r A B X Y E L vl v0 v1 v2 p n c a b T aa W (g1.below hb) (g2.below hb))
 rw[Uj h6];by_cases h7:u=iu
 .rw[Um h7];subst h7;exact ld r _ v0 v1 v2 t hs iu [] K et et.ok (nk d_) d_ d_ d_ d_ d_ d_ d_ d_ d_ w hk _ (λp n c a b T W hb _=>by obtain⟨vl,g1,g2⟩:=hk;exact M0 r A B X Y E L vl v0 v1 v2 p n c a b T aa W (g1.below hb) (g2.below hb))
 rw[Uj h7];have G:eF [u] (⟨A,B,X,Y,E,L⟩:CS)=(cC,⟨A,B,X,Y,E,L⟩):=by show jh u _=_;unfold jh;rw[Uj h0,Uj h1,Uj h2,Uj h3,Uj h4,Uj h5,Uj h6,Uj h7]
 have h9:=mG r _ v0 v1 v2 t hs u [] K G (ud (by
  rcases oM u with ⟨_,h⟩|⟨h,_⟩|⟨h,_⟩|⟨h,_⟩|⟨h,_⟩|h
  .exfalso;rcases h with h|h|h|h|h|h|h|h
   .exact h0 h
   .exact h1 h
   .exact h2 h
   .exact h3 h
   .exact h4 h
   .exact h5 h
   .exact h6 h
   .exact h7 h
  all_goals rw[h];decide) (UB _)) w hk
 rw[G] at h9;exact h9
def uL(u x)(s:CS)(h1:u≠wPoint)(h2:u≠wAt):eF [u,x] s=match cg x with|some n=>iz u n s|none=>(cC,s):=(Uj h1).trans (Uj h2)
def BA{u}(n)(s:CS)(h:ch u≠⟨#[110]⟩):iz u n s=(cC,s):=by
 unfold iz;rw[Uj pB,Uj pB,Uj pB];exact Gk
def M6{u}(n m)(s:CS)(h:ch u≠⟨#[110,110]⟩):iA u n m s=(cC,s):=by
 unfold iA;exact Gk
def TC{u}(h:ch u=⟨#[110]⟩):u=ic\/u=g_\/u=ia\/u=ib\/u=ig\/u=gZ:=by
 rcases oM u with ⟨h2,_⟩|⟨_,h2⟩|⟨h2,_⟩|⟨h2,_⟩|⟨h2,_⟩|h2
 rotate_left
 .exact h2
 all_goals exact absurd (h.symm.trans h2) d_
def SK{u}(h:ch u=⟨#[110,110]⟩):u=ie\/u=gV\/u=gX:=by
 rcases oM u with ⟨h2,_⟩|⟨h2,_⟩|⟨_,h2⟩|⟨h2,_⟩|⟨h2,_⟩|h2
 rotate_left 2
 .exact h2
 all_goals exact absurd (h.symm.trans h2) d_
def Sy{u}(h:(ch u).size=1)(h1:u≠wPoint)(h2:u≠wAt):ch u=⟨#[110]⟩\/ch u=⟨#[63]⟩:=by
 rcases oM u with ⟨h3,_⟩|⟨h3,_⟩|⟨h3,_⟩|⟨_,h3⟩|⟨_,h3⟩|h3
 .rw[h3] at h;exact absurd h d_
 .exact .inl h3
 .rw[h3] at h;exact absurd h d_
 .exact absurd h3 h2
 .exact absurd h3 h1
 .exact .inr h3
def Sg{u}(h:(ch u).size=2):ch u=⟨#[110,110]⟩:=by
 rcases oM u with ⟨h3,_⟩|⟨h3,_⟩|⟨h3,_⟩|⟨h3,_⟩|⟨h3,_⟩|h3
 rotate_left 2
 .exact h3
 all_goals (rw[h3] at h;exact absurd h d_)
def RR(r)(A B X Y E)(L)(v0 v1 v2)(t)(hs:t.size<=3000)(aa:CS.ok ⟨A,B,X,Y,E,L⟩)(w)(ht:TabI w)(hk:fs r ⟨A,B,X,Y,E,L⟩ v0 v1 v2 w)(u x)(K:bL t 32=[u,x])(hx:x.size<=10000):Kp 52 #[.pointer r,t] w (aH r v0 v1 v2 w (eF [u,x] ⟨A,B,X,Y,E,L⟩)):=by
 by_cases h1:u=wPoint
 .subst h1;exact Na r A B X Y E L v0 v1 v2 t hs wPoint [x] K (se x) (se.ok x) (T_ d_) rfl x hx (λ_ _ _ _ _ h=>h) aa w hk
 by_cases h2:u=wAt
 .subst h2;have hr:=@Ub wAt x d_ hx;cases hf:bu x.data.toList with
  |none=>
   rw[hf] at hr;refine mG r _ v0 v1 v2 t hs wAt [x] K ?_ (λg F W q1 q2=>(hr g F W q1 q2).mono λe w' G=>G.weak λ_ _ _ _ _=>trivial) w hk;show ir x _=_;unfold ir;rw[hf]
  |some q=>
   rw[hf] at hr;exact QF r A B X Y E L v0 v1 v2 t hs wAt [x] K (sp x.data.toList) (sp.ok _) hr rfl x (λ_ _ _ _ _ h=>h) aa w hk
 by_cases hz:(ch u).size=1
 .rcases Sy hz h1 h2 with a8|a8
  .cases hn:cg x with
   |none=>exact mG r _ v0 v1 v2 t hs u [x] K (by rw[uL u x _ h1 h2,hn]) (Rg hn a8 hx) w hk
   |some n=>
    rw[uL u x _ h1 h2,hn];have hr:=Tp hn a8 hx;show Kp 52 #[.pointer r,t] w (aH r v0 v1 v2 w (iz u n ⟨A,B,X,Y,E,L⟩));unfold iz;by_cases g0:u=ic
    .rw[Um g0];subst g0;exact Ny r A B X Y E L v0 v1 v2 t hs ic [x] K (e_ [n]) (e_.ok _) hr rfl n (λ_ _ _ _ _ h=>h) aa w hk
    rw[Uj g0];by_cases g1:u=g_
    .rw[Um g1];subst g1;exact Nv r A B X Y E L v0 v1 v2 t hs g_ [x] K (e_ [n]) (e_.ok _) hr rfl n (λ_ _ _ _ _ h=>h) aa w hk
    rw[Uj g1];by_cases g2:u=ia
    .rw[Um g2];subst g2;exact ld r _ v0 v1 v2 t hs ia [x] K (e_ [n]) (e_.ok _) hr d_ d_ d_ d_ d_ d_ d_ d_ d_ w hk _ (λp n2 c a b T W hb hq=>by obtain⟨vl,g1,g2⟩:=hk;exact NW r A B X Y E n L vl v0 v1 v2 _ 0 a b T aa W (g1.below hb) (g2.below hb) hq)
    rw[Uj g2];by_cases g3:u=ib
    .rw[Um g3];subst g3;exact ld r _ v0 v1 v2 t hs ib [x] K (e_ [n]) (e_.ok _) hr d_ d_ d_ d_ d_ d_ d_ d_ d_ w hk _ (λp n2 c a b T W hb hq=>by obtain⟨vl,g1,g2⟩:=hk;exact Oq r A B X Y E n L vl v0 v1 v2 _ 0 a b T aa W (g1.below hb) (g2.below hb) hq)
    rw[Uj g3];by_cases g4:u=ig
    .rw[Um g4];subst g4;exact ld r _ v0 v1 v2 t hs ig [x] K (e_ [n]) (e_.ok _) hr d_ d_ d_ d_ d_ d_ d_ d_ d_ w hk _ (λp n2 c a b T W hb hq=>by obtain⟨vl,g1,g2⟩:=hk;exact Pd r A B X Y E n L vl v0 v1 v2 _ 0 a b T aa W (g1.below hb) (g2.below hb) hq)
    rw[Uj g4];by_cases g5:u=gZ
    .rw[Um g5];subst g5;exact ld r _ v0 v1 v2 t hs gZ [x] K (e_ [n]) (e_.ok _) hr d_ d_ d_ d_ d_ d_ d_ d_ d_ w hk _ (λp n2 c a b T W hb hq=>by obtain⟨vl,g1,g2⟩:=hk;exact Nh r A B X Y E n L vl v0 v1 v2 _ 0 a b T aa W (g1.below hb) (g2.below hb) hq)
    rw[Uj g5];exfalso;rcases TC a8 with h|h|h|h|h|h
    .exact g0 h
    .exact g1 h
    .exact g2 h
    .exact g3 h
    .exact g4 h
    .exact g5 h
  .refine mG r _ v0 v1 v2 t hs u [x] K ?_ (T7 a8) w hk;rw[uL u x _ h1 h2];cases cg x with
   |none=>rfl
   |some n=>exact BA n _ (by rw[a8];decide)
 .refine mG r _ v0 v1 v2 t hs u [x] K ?_ (ud hz s_) w hk;rw[uL u x _ h1 h2];cases cg x with
  |none=>rfl
  |some n=>exact BA n _ (by intro h9;apply hz;rw[h9];rfl)
def FP(u x y)(s:CS):eF [u,x,y] s=match cg x,cg y with|some a,some b=>iA u a b s|_,_=>(cC,s):=rfl
def RQ(r)(A B X Y E)(L)(v0 v1 v2)(t)(hs:t.size<=3000)(aa:CS.ok ⟨A,B,X,Y,E,L⟩)(w)(ht:TabI w)(hk:fs r ⟨A,B,X,Y,E,L⟩ v0 v1 v2 w)(u x y)(K:bL t 32=[u,x,y])(hx:x.size<=10000)(hy:y.size<=10000):Kp 52 #[.pointer r,t] w (aH r v0 v1 v2 w (eF [u,x,y] ⟨A,B,X,Y,E,L⟩)):=by
 have g:ch u≠⟨#[110,110]⟩\/((cg x).isSome&&(cg y).isSome)=false->eF [u,x,y] (⟨A,B,X,Y,E,L⟩:CS)=(cC,⟨A,B,X,Y,E,L⟩):=by
  intro h;rw[FP];cases hx:cg x with
  |none=>rfl
  |some a=>
   cases hy:cg y with
   |none=>rfl
   |some b=>
    rcases h with h|h
    .exact M6 a b _ h
    .rw[hx,hy] at h;simp at h
 by_cases hz:(ch u).size=2
 .have a8:=Sg hz;cases hb:((cg x).isSome&&(cg y).isSome)
  .exact mG r _ v0 v1 v2 t hs u [x,y] K (g (.inr hb)) (Pc hb a8 hx hy) w hk
  .simp only[Ux,VV] at hb;have⟨⟨n,hn⟩,⟨m,hm⟩⟩:=hb;rw[FP,hn,hm];have hr:=Rs hn hm a8 hx hy;show Kp 52 #[.pointer r,t] w (aH r v0 v1 v2 w (iA u n m ⟨A,B,X,Y,E,L⟩));unfold iA;by_cases g0:u=ie
   .rw[Um g0];subst g0;exact NL r A B X Y E L v0 v1 v2 t hs ie [x,y] K (e_ [n,m]) (e_.ok _) hr rfl n m (λ_ _ _ _ _ h=>h) aa w hk
   rw[Uj g0];by_cases g1:u=gV
   .rw[Um g1];subst g1;exact ld r _ v0 v1 v2 t hs gV [x,y] K (e_ [n,m]) (e_.ok _) hr d_ d_ d_ d_ d_ d_ d_ d_ d_ w hk _ (λp n2 c a b T W hb hq=>by obtain⟨vl,g1,g2⟩:=hk;exact OS r A B X Y E n m L vl v0 v1 v2 _ 0 a b T W (ht.below hb) (g1.below hb) (g2.below hb) hq)
   rw[Uj g1];by_cases g2:u=gX
   .rw[Um g2];subst g2;exact MH r A B X Y E L v0 v1 v2 t hs gX [x,y] K (e_ [n,m]) (e_.ok _) hr rfl n m (λ_ _ _ _ _ h=>h) aa w hk
   rw[Uj g2];exfalso;rcases SK a8 with h|h|h
   .exact g0 h
   .exact g1 h
   .exact g2 h
 .exact mG r _ v0 v1 v2 t hs u [x,y] K (g (.inl (by intro h9;apply hz;rw[h9];rfl))) (ud hz s_) w hk
def SY(r)(s:CS)(v0 v1 v2)(t:aj)(hs:t.size<=2900)(aa:s.ok)(w)(ht:TabI w)(hk:fs r s v0 v1 v2 w):
 Kp 52 #[.pointer r,t] w (aH r v0 v1 v2 w (eF (bL t 32) s)):=by
 have⟨A,B,X,Y,E,L⟩:=s;have hl:=xE t 32;have hz:=xi t 32;obtain⟨ws,V⟩:∃ws,bL t 32=ws:=⟨_,rfl⟩
 rw[V] at hl hz ⊢
 match ws,V,hl,hz with
 |[],_,hl,_=>simp at hl
 |[u],V,_,_=>exact Rz r A B X Y E L v0 v1 v2 t o_ aa w ht hk u V
 |[u,x],V,_,hz=>exact RR r A B X Y E L v0 v1 v2 t o_ aa w ht hk u x V (by have:=hz x s_;omega)
 |[u,x,y],V,_,hz=>exact RQ r A B X Y E L v0 v1 v2 t o_ aa w ht hk u x y V (by have:=hz x s_;omega) (by have:=hz y s_;omega)
 |u::x::y::z::tl,V,hl,_=>
  refine mG r _ v0 v1 v2 t o_ u (x::y::z::tl) V rfl (ud (by have:=Dc u;simp;omega) (by simp at hl ⊢;omega)) w hk
def Al(h:P:=by intro k hk;rw[UD] at hk;exact .inl hk):=h
def Kx(h:P:=by
 rw[HB.out];by_cases g:az s<=40
 .rw[show decide ((az s:Int)<=40)=true from V2 o_];go_enter Tryz.func48,Tryz.ntmps48;go_wp2_with fail
  refine HC.out.mono ?_;rintro e w1 ⟨a,F,rfl,bo,I,V⟩;go_wp2;go_ret2;exact vX.mk V I
 .rw[show decide ((az s:Int)<=40)=false from Vb o_];go_enter Tryz.func48,Tryz.ntmps48;go_wp2_with fail
  refine HC.out.mono ?_;rintro e w1 ⟨a,F,rfl,bo,I,V⟩;go_wp2;go_ret2;exact⟨_,_,_,rfl,I,λh=>by cases h⟩):=h
def IA(h:P:=by
 go_enter Tryz.func48,Tryz.ntmps48;go_wp2_with fail
 go_ret2;exact⟨none,0,0,rfl,Uk _ _,λh=>by cases h⟩):=h
def Hg(h:P:=by
 exact bo.over F (λg hg hm=>by have:=(fH bo g hg).1;rw[UD] at hm;omega)):=h
def vX(w:World)(b:Bool)(L:bV)(e:Ending)(w':World):Prop:=
 ∃a n F,e=.returned (.tuple #[.slice a n F,b])/\Below w w w'/\(b=true->n=L.length/\∀i (_:i<L.length),∃g,a=some ⟨g,0,none⟩/\g<w'.heap.size/\w.heap.size<=g/\w'.cell? ⟨g,i,none⟩=some (.string L[i]))
def vX.mk{w w1}{s}{a}{F}(h:cH w1 w.heap.size (.slice a (az s+1) F) (bL s 10))(hb:Below w.heap.size w w1):vX w true (dW s) (.returned (.tuple #[.slice a (az s) F,true])) w1:=by
 refine⟨a,_,F,rfl,hb,λ_=>⟨by rw[yg];rfl,λi hi=>?_⟩⟩;have b8:i<(bL s 10).length:=by unfold dW at hi;rw[List.length_dropLast] at hi;omega
 have⟨a',c',e1,_,hf⟩:=h.form;injection e1 with e1;subst e1;obtain⟨g,rfl,h1,_,h3,h4⟩:=hf i b8;refine⟨g,rfl,h3,h4,?_⟩;have e2:(dW s)[i]=(bL s 10)[i]:=by simp [dW]
 rw[h1,e2]
def P9(s:aj)(w)(hs:s.size<=2000):
 Kp 61 #[s,.int .u8 10] w λe w'=>∃a F,e=.returned (.slice a (az s+1) F)/\az s+1<=F/\Below w w w'/\cH w' w (.slice a (az s+1) F) (bL s 10):=by
 refine (gz s 10 w o_).mono ?_;rintro e w' ⟨v,rfl,Z,hb⟩;obtain⟨a,F,rfl,hc,_⟩:=id Z.form;have hl:(bL s 10).length=az s+1:=wQ s 10;rw[hl] at Z hc ⊢;exact⟨a,F,rfl,hc,hb,Z⟩
def BM(s:aj)(w)(hs:s.size<=100000000):
 Kp 48 #[s] w (vX w (bO s) (dW s)):=by
 have hl:s.toList.length=s.size:=by rw[Uy];exact UC
 by_cases h2:s.size<=2000
 rotate_left
 .have HB:Hid (bO s=false):=by show _=_;unfold bO;simp;intro h9;omega
  rw[HB.out];exact IA
 have hc:=DA s;have HC:=h_ (P9 s w h2);have good:(s.toList.isEmpty||kt s)=true->bO s=decide ((az s:Int)<=40):=by
  intro h9;unfold bO;rw[h9];have:(s.size:Int)<=2000:=by omega
  simp [this]
 have HG:=h_ good;cases h0:s.toList.isEmpty
 .have G:0<s.size:=by
   rcases Nat.eq_zero_or_pos s.size with h|h
   .rw[h] at hl;have:=UX.1 hl;rw[this] at h0;simp at h0
   .exact h
  have aL:s.size - 1<s.size:=o_;have H:=Pg s aL;have K:¬s.toList=[]:=by intro h9;rw[h9] at h0;simp at h0
  cases h1:((s[s.size - 1].toNat:Int)==10)
  .have HB:Hid (bO s=false):=by
    show _=_;have:kt s=false:=by
     rw[H,Bool.eq_false_iff];intro h9;have h8:=by simpa using h9
     rw[h8] at h1;simp at h1
    unfold bO;rw[this,h0];simp
   rw[HB.out];have ab:((s[s.size - 1].toNat:Int) != 10)=true:=by simp [bne,h1]
   exact IA
  .have bz:kt s=true:=by
    rw[H];have h9:=by simpa using h1
    have h8:s[s.size - 1].toNat=(10:UInt8).toNat:=by show s[s.size - 1].toNat=10;omega
    rw[(Wn.1 h8)];rfl
   have HB:Hid (bO s=decide ((az s:Int)<=40)):=HG.out (by rw[bz];simp);have ab:((s[s.size - 1].toNat:Int) != 10)=false:=by simp [bne,h1]
   exact Kx
 .have HB:Hid (bO s=decide ((az s:Int)<=40)):=HG.out (by rw[h0];rfl);have K:=by simpa using h0
  exact Kx
def B4(w):Kp 51 #[] w λe w'=>e=.returned (.pointer w)/\ct w (-16) 16 0 4 1 (.slice none 0 0) (.slice none 0 0) (.slice none 0 0) () w'/\Below w w w':=by
 go_enter Tryz.func51,Tryz.ntmps51;go_wp2;go_ret;exact⟨rfl,ag.new _ _ _,(Uk _ _).alloc (Ug _) _⟩
def Ba{ops}{rest}{o}{a}{Q}{wr:World}{y:Int}(aa:o.guard=none)(s x)
 (Z:o.op=.call {callee:=.builtin .append,args:=#[s,x],argTypes:=#[22,22]})
 (G)(v)(xs)(hs:a.eval s=v)(V:aq wr G v xs)(hx:a.eval x=.slice wr 1 1)
 (ac:xs.length<1000000)(U:G<=wr.heap.size)
 (h:∀v' w1,aq w1 G v' (xs++[y])->ah v.ownBlock.toList wr w1->(v'.ownBlock=v.ownBlock\/∃k,v'.ownBlock=some k/\wr.heap.size<=k)->wpList Tryz.prog ops Q rest (a.put o.dst v') w1):
 wpList Tryz.prog ops Q (o::rest) a (wr.alloc (.cells #[y] 3)):=by
 refine Bw 3 22 1 8 () aa s x Z Tryz.infoI Tryz.underlying22 rfl d_ d_ G v xs.length (xs.map (Value.int .i64)) hs V [.int .i64 y] rfl (by intro u hu;simp at hu;subst hu;rfl) hx ac U ?_;intro v' w1 h1 h2 _ h4;refine h v' w1 ?_ h2 h4;unfold aq;rw[UE,VN];exact h1
def cp(t:aj):Bool:=t.toList==[110,111]
def cN(t:aj):Bool:=t.toList==[119,104,97,116]
def qe(K:bV)(w:World)(e:Ending)(w':World):Prop:=
 ∃r A B X Y E L reps vl v0 v1,e=.returned (.tuple #[.pointer (some ⟨r,0,none⟩),.string (gm reps),true])/\cJ K dA=(reps,(⟨A,B,X,Y,E,L⟩:CS))/\ct r A B X Y E vl v0 v1 (.int .i64 reps.length) w'/\am w' (r+1) vl L/\aq w' (r+1) v0 (bK cp reps)/\aq w' (r+1) v1 (bK cN reps)/\w.heap.size<=r/\Below w w w'
structure fJ (w:World)(S r:Nat)(s:CS)(reps:List ByteArray)(v0 v1:Value)(wr:World):Prop where
 below:Below w w wr
 st:fs r s v0 v1 () wr
 no:aq wr S v0 (bK cp reps)
 what:aq wr S v1 (bK cN reps)
 size:S<=wr.heap.size
 apart:∀k,v0.ownBlock=some k->v1.ownBlock≠some k
def je{v:Value}{k}(hm:k∈v.ownBlock.toList):v.ownBlock=some k:=by
 exact Gc
def aq.neE{w}{b Z k}{v v'}{xs}{L}(h:aq w b v xs)(J:am w Z v' L)(hk:v'.ownBlock=some k):k∉v.ownBlock.toList:=by
 intro hm;have⟨c1,h1⟩:=qM h k (je hm);have⟨c2,h2⟩:=qM J k hk;unfold ag at h1 h2;rw[h1] at h2;simp at h2
def C4{T}(h:cp T=true):cN T=false:=by
 unfold cp at h;unfold cN;have h2:=by simpa using h
 rw[h2];rfl
section
variable {w wr w3 w4:World}{S r:Nat}{sk s9:CS}{reps:bV}{T:aj}{v0 v1 v':Value}
def fJ.next3(hI:fJ w S r sk reps v0 v1 wr)(b0:r<S)(aF:w.heap.size<=r)(ab:ah [r] wr w3):Below w w w3/\aq w3 S v0 (bK cp reps)/\aq w3 S v1 (bK cN reps)/\S<=w3.heap.size:=
 ⟨ab.belowGe hI.below hI.below.size ii,
  hI.no.over ab (λg hg hm=>by have:=(fH hI.no g hg).1;rw[UD] at hm;omega),
  hI.what.over ab (λg hg hm=>by have:=(fH hI.what g hg).1;rw[UD] at hm;omega),
  Ui hI.size ab.size⟩
def fJ.elseStep(hI:fJ w S r sk reps v0 v1 wr)(b0:r<S)(aF:w.heap.size<=r)(ab:ah [r] wr w3)(aM:fs r s9 v0 v1 () w3)(hn:cp T=false)(G:cN T=false):fJ w S r s9 (reps++[T]) v0 v1 w3:=by
 have⟨h1,h2,h3,h4⟩:=hI.next3 b0 aF ab;refine⟨h1,aM,?_,?_,h4,hI.apart⟩
 .rw[ma,hn];exact h2
 .rw[ma,G];exact h3
def fJ.blk4(h:aq w3 S v0 (bK cp reps))(b0:r<S){A B X Y E}{vl g u1 u2}(bq:ah v0.ownBlock.toList w3 w4)(hk:ct r A B X Y E vl g u1 u2 w3):ct r A B X Y E vl g u1 u2 w4:=
 ag.over hk bq (λhm=>by have:=(fH h r (je hm)).1;omega)
def fJ.blk5(h:aq w3 S v0 (bK cN reps))(b0:r<S){A B X Y E}{vl g u1 u2}(bq:ah v0.ownBlock.toList w3 w4)(hk:ct r A B X Y E vl g u1 u2 w3):ct r A B X Y E vl g u1 u2 w4:=
 ag.over hk bq (λhm=>by have:=(fH h r (je hm)).1;omega)
def fJ.noStep(hI:fJ w S r sk reps v0 v1 wr)(b0:r<S)(aF:w.heap.size<=r)(ab:ah [r] wr w3)(aM:fs r s9 v0 v1 () w3)
 (bo:aq w4 S v' (bK cp reps++[(reps.length:Int)+1]))(bq:ah v0.ownBlock.toList w3 w4)(bp:v'.ownBlock=v0.ownBlock\/∃k,v'.ownBlock=some k/\w3.heap.size<=k)(hn:cp T=true):
 fJ w S r s9 (reps++[T]) v' v1 (w4.setCell ⟨r,6,none⟩ v'):=by
 have⟨h1,h2,h3,h4⟩:=hI.next3 b0 aF ab;have F:ah [r] w4 (w4.setCell ⟨r,6,none⟩ v'):=(ah.refl [r] w4).setCell (.inr s_) v';have K:=bq.belowGe h1 h1.size (by intro k hk;have:=(fH h2 k (je hk)).1;omega);have dp:=F.size;have⟨vl,hk,Z⟩:=aM;refine⟨F.belowGe K K.size ii,⟨vl,(fJ.blk4 h2 b0 bq hk).set 6 v',(Z.over bq (λk hk=>h2.neE Z hk)).past F⟩,?_,?_,by have:=bq.size;omega,?_⟩
 .rw[ma,hn];exact Hg
 .rw[ma,C4 hn];exact (h3.over bq (λg hg hm=>hI.apart g (je hm) hg)).over F (λg hg hm=>by have:=(fH h3 g hg).1;rw[UD] at hm;omega)
 .intro k hk h9;rcases bp with h|⟨k',h,J⟩
  .exact hI.apart k (h▸hk) h9
  .rw[h] at hk;injection hk with hk;have:=(fH h3 k h9).2;omega
def fJ.whatStep(hI:fJ w S r sk reps v0 v1 wr)(b0:r<S)(aF:w.heap.size<=r)(ab:ah [r] wr w3)(aM:fs r s9 v0 v1 () w3)
 (bo:aq w4 S v' (bK cN reps++[(reps.length:Int)+1]))(bq:ah v1.ownBlock.toList w3 w4)(bp:v'.ownBlock=v1.ownBlock\/∃k,v'.ownBlock=some k/\w3.heap.size<=k)(hn:cp T=false)(G:cN T=true):
 fJ w S r s9 (reps++[T]) v0 v' (w4.setCell ⟨r,7,none⟩ v'):=by
 have⟨h1,h2,h3,h4⟩:=hI.next3 b0 aF ab;have F:ah [r] w4 (w4.setCell ⟨r,7,none⟩ v'):=(ah.refl [r] w4).setCell (.inr s_) v';have K:=bq.belowGe h1 h1.size (by intro k hk;have:=(fH h3 k (je hk)).1;omega);have dp:=F.size;have⟨vl,hk,Z⟩:=aM;refine⟨F.belowGe K K.size ii,⟨vl,(fJ.blk5 h3 b0 bq hk).set 7 v',(Z.over bq (λk hk=>h3.neE Z hk)).past F⟩,?_,?_,by have:=bq.size;omega,?_⟩
 .rw[ma,hn];exact (h2.over bq (λg hg hm=>hI.apart g hg (je hm))).over F (λg hg hm=>by have:=(fH h2 g hg).1;rw[UD] at hm;omega)
 .rw[ma,G];exact Hg
 .intro k hk h9;rcases bp with h|⟨k',h,J⟩
  .exact hI.apart k hk (h▸h9)
  .rw[h] at h9;injection h9 with h9;have:=(fH h2 k hk).2;omega
def sr(S r:Nat)(a:bT)(K:bV)(w:World):Prop:=∀i (_:i<K.length),∃g,a=some ⟨g,0,none⟩/\g<S/\r<g/\w.cell? ⟨g,i,none⟩=some (.string K[i])
def sr.over{a}{K}{ex:List Nat}(h:sr S r a K wr)(Z:ah ex wr w3)(hz:S<=wr.heap.size)(hx:∀k∈ex,k=r\/S<=k):sr S r a K w3:=λi hi=>by
 have⟨g,h1,h2,h3,h4⟩:=h i hi;exact⟨g,h1,h2,h3,(Z.cell (p:=⟨g,i,none⟩) (by show g<_;omega) (λhm=>by rcases hx g hm with h|h<;>omega)).trans h4⟩
end
def pg(s)(hs:s.size<=1048576)(aF:bO s=true)(w)(ht:TabI w):
 Kp 39 #[s] w (qe (dW s) w):=by
 have a6:s.size<=2000:=by
  exact FH
 have b7:(dW s).length<=40:=by
  exact IG
 have hH:=λW=>BM s W o_;rw[aF] at hH;have bx:=CV s;generalize dW s=K at *;go_enter Tryz.func39,Tryz.ntmps39;go_wp2_with fail
 refine (h_ (B4 w)).out.mono ?_;rintro e w1 ⟨rfl,k1,I⟩;have b4:=k1.lt;go_wp2_with fail
 refine ((h_ hH).out w1).mono ?_;rintro e w2 ⟨a,n,F,rfl,U,b8⟩;obtain⟨rfl,a7⟩:=b8 rfl;replace k1:=k1.below U;have aL:=af U I.size I;have bs:=Un b4 U.size;have cA:∀i (_:i<K.length),∃g,a=some ⟨g,0,none⟩/\g<w2.heap.size/\w.heap.size<g/\w2.cell? ⟨g,i,none⟩=some (.string K[i]):=λi hi=>by
  have⟨g,h1,h2,h3,h4⟩:=a7 i hi;exact⟨g,h1,h2,by omega,h4⟩
 have bZ:fJ w w2 w dA [] (.slice none 0 0) (.slice none 0 0) w2:=⟨aL,⟨.slice none 0 0,k1,am.nil _ _⟩,aq.nil _ _,aq.nil _ _,Ug _,λk hk=>by cases hk⟩
 have b0:=bs;generalize a8:w2.heap.size=S at *;go_wp2_with fail
 have cA:sr S w a K w2:=cA;go_loopw [8,23] (λov iv wr=>∃(k:Nat) (v0 v1:Value),ov=.string (gm (cJ (K.take k) dA).1)/\iv=.int .i64 k/\k<=K.length/\fJ w S w (cJ (K.take k) dA).2 (cJ (K.take k) dA).1 v0 v1 wr/\sr S w a K wr) (λ_ iv _=>K.length - (intOf iv).toNat)
 case atStart=>exact⟨0,.slice none 0 0,.slice none 0 0,rfl,rfl,UB _,bZ,cA⟩
 case round=>
  obtain⟨k,v0,v1,rfl,rfl,b3,hI,hL⟩:=hrel;by_cases aG:k<K.length
  .obtain⟨g,rfl,b9,bi,q0⟩:=hL k aG;have a4:=h_ (Cn K k aG dA);have aa:=qV pk (K.take k);have a3:=qI dA (K.take k);have bX:=Qp pk (K.take k) nV;have hT:=BD aa (bL K[k] 32);have b2:=bx K[k] (UA aG);generalize cJ (K.take k) dA=q at *;have⟨reps,sk⟩:=q;simp only at a4 aa a3 bX hI hT;have a2:reps.length=k:=by rw[a3,UH];omega
   have HC:=h_ (SY w sk v0 v1 () K[k] o_ aa wr (ht.below hI.below) hI.st);generalize K[k]=x at *;generalize eF (bL x 32) sk=R0 at *;have⟨T,s9⟩:=R0;simp only at a4 hT;have cm:(⟨#[10]⟩:aj).size=1:=rfl;have a5:=λw=>Up (P:=Tryz.prog) w T ⟨#[10]⟩ o_;have ba:=λw=>Up (P:=Tryz.prog) w (gm reps) (T++⟨#[10]⟩) (by rw[Uu];omega);have bv:=h_ (xm reps T);have cz:=ll cp reps;have bY:=ll cN reps;generalize gm reps=out at *;go_wp2_with fail
   refine HC.out.mono ?_;rintro e w3 ⟨rfl,ab,aM⟩;have bb:=hI.next3 (Xd bi b9) (Ug _) ab;have b1:=hL.over ab hI.size Al;cases hn:cp T
   .cases G:cN T
    .unfold cp at hn;unfold cN at G;go_wp2;go_roundw
     case rel=>exact⟨k+1,v0,v1,by rw[a4.out,bv.out],by go_num,by omega,by rw[a4.out];exact (h_ (hI.elseStep (Xd bi b9) (Ug _) ab aM hn G)).out,b1⟩
     case measure=>exact aO
    .obtain⟨a1,c1,rfl,_⟩:=id (aq.form bb.2.2.1);have⟨vl,cu,_⟩:=id aM;have⟨_,_,_,_,_,_,_,co⟩:=cu.q8;have ae:=h_ (λv' w4 (bo:aq w4 S v' (bK cN reps++[(k:Int)+1])) bq bp=>hI.whatStep (Xd bi b9) (Ug _) ab aM (by rw[a2];exact bo) bq bp hn G);unfold cp at hn;unfold cN at G;have aX:(bK cN reps).length<1000000:=o_;have b5:=Xd bi b9;have V:=bb.2.2.1;have Z:=bb.2.2.2;go_wp2_with (at_builtin;refine Ba (y:=(k:Int)+1) rfl _ _ rfl S _ (bK cN reps) rfl V rfl aX Z ?_;intro v' w4 bo bq aZ;have J:=h_ (ae.out v' w4 bo bq aZ);have bz:=(b1.over bq Z (λk hk=>.inr (fH V k (je hk)).1));have b6:=bq.size;obtain⟨a9,c9,rfl,_⟩:=id (aq.form bo);have H:=fJ.blk5 V b5 bq cu;have f4:=H.frozen 7;have s4:w4.cell? ⟨w,7,none⟩=some _:=H.cell 7;have cs:=H.lt;clear bo bq aZ H)
     go_roundw
     case rel=>exact⟨k+1,v0,.slice a9 ((bK cN reps).length+1) c9,by rw[a4.out,bv.out],by go_num,by omega,by rw[a4.out];have h9:=J.out;simpa only[UE,Uw,Vc,U7] using h9,bz.over ((ah.refl [w.heap.size] w4).setCell (.inr s_) _) (Ui Z b6) Al⟩
     case measure=>exact aO
   .obtain⟨a1,c1,rfl,_⟩:=id (aq.form bb.2.1);have⟨vl,cu,_⟩:=id aM;have⟨_,_,_,_,_,_,co⟩:=cu.q7;have ae:=h_ (λv' w4 (bo:aq w4 S v' (bK cp reps++[(k:Int)+1])) bq bp=>hI.noStep (Xd bi b9) (Ug _) ab aM (by rw[a2];exact bo) bq bp hn);unfold cp at hn;have aX:(bK cp reps).length<1000000:=o_;have V:=bb.2.1;have Z:=bb.2.2.2;go_wp2_with (at_builtin;refine Ba (y:=(k:Int)+1) rfl _ _ rfl S _ (bK cp reps) rfl V rfl aX Z ?_;intro v' w4 bo bq aZ;have J:=h_ (ae.out v' w4 bo bq aZ);have bz:=(b1.over bq Z (λk hk=>.inr (fH V k (je hk)).1));have b6:=bq.size;obtain⟨a9,c9,rfl,_⟩:=id (aq.form bo);have H:=fJ.blk4 V (Xd bi b9) bq cu;have f4:=H.frozen 6;have s4:w4.cell? ⟨w,6,none⟩=some _:=H.cell 6;have cs:=H.lt;clear bo bq aZ H)
    go_roundw
    case rel=>exact⟨k+1,.slice a9 ((bK cp reps).length+1) c9,v1,by rw[a4.out,bv.out],by go_num,by omega,by rw[a4.out];have h9:=J.out;simpa only[UE,Uw,Vc,U7] using h9,bz.over ((ah.refl [w.heap.size] w4).setCell (.inr s_) _) (Ui Z b6) Al⟩
    case measure=>exact aO
  .obtain rfl:k=K.length:=by omega
   rw[Ve] at hI;obtain⟨reps,A,B,X,Y,E,L,hq⟩:∃reps A B X Y E L,cJ K dA=(reps,(⟨A,B,X,Y,E,L⟩:CS)):=⟨_,_,_,_,_,_,_,rfl⟩
   have a3:=qI dA K;rw[Ve];rw[hq] at hI a3 ⊢;have⟨vl,hk,ac⟩:=id hI.st;have z8:=hk.frozen 8;have⟨_,_,_,_,_,_,_,_,s8⟩:=hk.q9;have k9:=hk.set 8 K.length;have ax:ah [w.heap.size] wr (wr.setCell ⟨w,8,none⟩ K.length):=(ah.refl _ wr).setCell (.inr s_) _;have ad:=ax.belowGe hI.below hI.below.size ii;have cc:=ac.past ax;have cB:w.heap.size+1<=S:=b0;have cb:=(hI.no.over ax (λg hg hm=>by have:=(fH hI.no g hg).1;rw[UD] at hm;omega)).le cB;have ca:=(hI.what.over ax (λg hg hm=>by have:=(fH hI.what g hg).1;rw[UD] at hm;omega)).le cB;go_wp2;go_ret3;have⟨h1,h2,h3,h4,h5⟩:=(h_ (And.intro k9 (And.intro cc (And.intro cb (And.intro ca ad))))).out;refine⟨w,A,B,X,Y,E,L,reps,vl,v0,v1,rfl,(h_ hq).out,?_,h2,h3,h4,Ug _,h5⟩;have:=(h_ a3).out;rw[this];exact h1
def oI(s)(hs:s.size<=1048576)(aF:bO s=false)(w):
 Rv 39 #[s] w (.tuple #[.pointer w,.string ⟨#[]⟩,false]):=by
 have hH:=λW=>BM s W o_;rw[aF] at hH;go_enter Tryz.func39,Tryz.ntmps39;go_wp2_with fail
 refine (h_ (B4 w)).out.mono ?_;rintro e w1 ⟨rfl,k1,I⟩;go_wp2_with fail
 refine ((h_ hH).out w1).mono ?_;rintro e w2 ⟨a,n,F,rfl,U,b8⟩;go_wp2;go_ret3;exact⟨rfl,(af U I.size I)⟩
noncomputable def cI(s:aj):bV:=if bO s then (cJ (dW s) dA).1 else []
noncomputable def eu(s:aj):CS:=if bO s then (cJ (dW s) dA).2 else ⟨0,0,0,0,0,[]⟩
def md(s):(cI s).length<=40:=by
 unfold cI;split
 .rename_i h;rw[qI,yg];unfold bO at h;simp at h;have:=h.2;unfold az Lib.countByte at this;omega
 .simp
def oQ(s):∀r∈cI s,r.size<=500:=by
 unfold cI;split
 .exact Cq pk _
 .intro r hr;simp at hr
def OR(L:bV)(k)(h:k<L.length):gm (L.take (k+1))=gm (L.take k)++(L[k]++⟨#[10]⟩):=by
 rw[UL h,xm]
def SA{L:bV}(hl:L.length<=40)(hs:∀r∈L,r.size<=500)(k):(gm (L.take k)).size<=30000:=by
 have h1:=CC 500 (L.take k) (λr hr=>hs r (VU hr));have h2:(L.take k).length<=40:=by rw[UH];omega
 have:=Vy 501 h2;omega
def og(s:aj)(w:World)(e:Ending)(w':World):Prop:=
 ∃A B X Y E L vl vr,e=.returned (.tuple #[.agg #[.int .i64 A,.int .i64 B,.int .i64 X,.int .i64 Y,.int .i64 E,vl,vr],.bool (bO s)])/\eu s=⟨A,B,X,Y,E,L⟩/\am w' w vl L/\cH w' w vr (cI s)/\Below w w w'
def oP(s:aj)(hs:s.size<=1048576)(w)(hE:PEnv w):Kp 42 #[s] w (og s w):=by
 cases h:bO s
 .refine ai (SG s hs h w) λw' hb=>?_;exact⟨0,0,0,0,0,[],_,_,by rw[h],by unfold eu;rw[h];rfl,am.nil _ _,by unfold cI;rw[h];exact cH.nil _ _,hb⟩
 .have hr:Kp 42 #[s] w (sf w s):=by
   by_cases h0:s=⟨#[]⟩
   .subst h0;exact Oz w hE
   .exact M4 s hs h h0 w hE
  refine hr.mono ?_;rintro e w' ⟨A,B,X,Y,E,L,vl,vr,rfl,h1,h2,h3,h4⟩;exact⟨A,B,X,Y,E,L,vl,vr,by rw[h],by unfold eu;rw[h];exact h1,h2,by unfold cI;rw[h];exact h3,h4⟩
def Ng(s:aj)(hs:s.size<=1048576)(w)(hE:PEnv w):
 Rv 21 #[s] w (.string (gm (cI s))):=by
 have hq:=λW hW=>oP s hs W hW;unfold og at hq;have HQ:=h_ hq;have aa:bO s=false->cI s=[]:=λh=>by unfold cI;rw[h];rfl
 have hl:=md s;have hz:=oQ s;generalize cI s=V,bO s=ok at *;cases ok
 .have F:=h_ (aa rfl);clear aa;go_enter Tryz.func21,Tryz.ntmps21;go_wp2_with fail
  refine (HQ.out w hE).mono ?_;rintro e w1 ⟨A,B,X,Y,E,L,vl,vr,rfl,he,ac,H,I⟩;obtain⟨a1,c1,rfl,_,_⟩:=id ac.form;obtain⟨a2,c2,rfl,_,_⟩:=id H.form;have⟨k2,ab⟩:=aw w1 #[A,B,X,Y,E,.slice a1 L.length c1,.slice a2 V.length c2] 65;have U:=af ab I.size I;replace ac:=ac.below ab;replace H:=H.below ab;go_upto_region 2 with fail
  generalize w1.alloc _=W2 at *;go_wp2;go_ret;exact⟨by rw[F.out];rfl,U⟩
 .go_enter Tryz.func21,Tryz.ntmps21;go_wp2_with fail
  refine (HQ.out w hE).mono ?_;rintro e w1 ⟨A,B,X,Y,E,L,vl,vr,rfl,he,ac,H,I⟩;obtain⟨a1,c1,rfl,_,_⟩:=id ac.form;obtain⟨a2,c2,rfl,_,_⟩:=id H.form;have⟨k2,ab⟩:=aw w1 #[A,B,X,Y,E,.slice a1 L.length c1,.slice a2 V.length c2] 65;have U:=af ab I.size I;replace ac:=ac.below ab;replace H:=H.below ab;have HE:=h_ he;go_upto_region 2 with fail
  generalize w1.alloc _=W2 at *;have⟨s0,s1,s2,s3,s4,s5,s6⟩:=k2.q7;have sl:=k2.lt;have⟨a',c',e',_,hf⟩:=H.form;injection e' with e';subst e';have HF:=h_ hf;have cm:(⟨#[10]⟩:aj).size=1:=rfl;go_wp2;go_loopw [5,18] (λov iv wr=>∃k:Nat,ov=.string (gm (V.take k))/\iv=.int .i64 k/\k<=V.length/\wr=W2) (λ_ iv _=>V.length - (intOf iv).toNat)
  case atStart=>exact⟨0,rfl,rfl,UB _,rfl⟩
  case round=>
   obtain⟨k,rfl,rfl,b3,rfl⟩:=hrel;by_cases aG:k<V.length
   .obtain⟨g,rfl,q0,_,_,_⟩:=HF.out k aG;have hx:=hz V[k] (UA aG);have G:=SA hl hz k;have HO:=h_ (OR V k aG);generalize V[k]=x,gm (V.take k)=out at *;have a5:=λw=>Up (P:=Tryz.prog) w x ⟨#[10]⟩ o_;have ba:=λw=>Up (P:=Tryz.prog) w out (x++⟨#[10]⟩) (by rw[Uu];omega);go_wp2;go_roundw
    case rel=>exact⟨k+1,by rw[HO.out],by go_num,by omega,trivial⟩
    case measure=>exact aO
   .obtain rfl:k=V.length:=by omega
    have HT:Hid (V.take V.length=V):=h_ (Ve);go_wp2;go_ret;exact⟨by rw[HT.out];rfl,U⟩
def Nt(s:aj)(hs:s.size<=1048576)(w)(ht:TabI w):
 Rv 22 #[s] w (.string (gm (cI s))):=by
 unfold cI;cases h:bO s
 .have H:=h_ (oI s hs h w);go_enter Tryz.func22,Tryz.ntmps22;go_wp2_with fail
  refine H.out.mono ?_;rintro e w1 ⟨rfl,I⟩;exact vv
 .have H:=h_ (pg s hs h w ht);rw[Um rfl];generalize dW s=K at *;go_enter Tryz.func22,Tryz.ntmps22;go_wp2_with fail
  refine H.out.mono ?_;rintro e w1 ⟨r,A,B,X,Y,E,L,reps,vl,v0,v1,rfl,h1,h2,h3,h4,h5,_,I⟩;have HR:=h_ h1;go_wp2;go_ret;exact⟨by rw[HR.out];rfl,I⟩
end Go.Proofs.YtaamhakdhaolmaaGreatDoor
