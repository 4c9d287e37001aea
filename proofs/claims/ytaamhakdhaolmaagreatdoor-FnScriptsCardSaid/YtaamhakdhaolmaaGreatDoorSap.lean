/- Part 15. -/
import Derived.Test.YtaamhakdhaolmaaGreatDoorSai
import Derived.Test.YtaamhakdhaolmaaGreatDoorSao
namespace Go.Proofs.YtaamhakdhaolmaaGreatDoor
open Go.RowKit Go.Proofs.Tryz
set_option maxHeartbeats 8000000
set_option maxRecDepth 100000
variable {P:Prop}
set_option linter.all false
def I5(h:P:=by simp [results,results174,go_sem,q0,q1,q2,q3,q4]):=h
def JD(h:P:=by simp [results,results277,go_sem,q0,q1,q2,q3,q4]):=h
def IX(h:P:=by
 intro bp;refine bw [] (λ_=>false) (λ_=>True) (KD (λ_=>True) []) k_ ⟨trivial,bU.nil _⟩ ?_;apply lw ⟨W,ai.refl _ _,trivial,bU.nil _⟩ (cj 18 0) 2 (KD.closed ao _) aB k_ k_ k_ k_ s_
 .intro E hE bs b8;(repeat (first|(refine gN ?_;go_big_quiet_step ((first|(go_at_call 226;with_reducible exact Calls.quiet_clsS _ (HB.out _))|(go_at_call 172;first|with_reducible exact Calls.quiet_clsS _ (HA.out _)|with_reducible exact Calls.quiet_clsS _ (HC.out _))));refine wpQuiet_nil ?_)|refine gM ?_));exact gO rfl
 refine aR [18] ?_;refine am.cons ?_ ?_
 .refine dB (zs:=#[(),(),(),(),()]) (T:=70) ao (λr6 b0 cP hne=>?_);refine ap ?_;refine aR [19] ?_;refine am.cons ?_ ?_
  .refine fB (v:=.agg #[a,b,I,mh,mt]) [] [] (.inl b0) ao (λ_ _ h _=>h) s_ (λhne=>?_)
   try simp only[Value.cells]
   refine jp k_ (λWz a7 aX=>?_) _;exact bp r6 Wz ⟨a7,aX.1,o_,aX.2.head⟩
  exact am.nil
 exact am.nil):=h
def KZ(h:P:=by
 go_enter func174,ntmps174;go_upto_region 1 with fail
 generalize ((w.alloc _).alloc _).alloc _=W at *;generalize hq:w.heap.size+1+1=rR at *;clear hq;have⟨aG,F,bq,aZ,az,bo⟩:=kA.p5;have⟨G,ac,g,K,U,b5⟩:=kB.p5;apply fZ (λr6 Wz=>ai [] W Wz/\(λ_=>True) Wz/\W.heap.size<=r6/\ah r6 #[a,b,I,mh,mt] 70 Wz)
 .exact IX
 try dsimp only
 rintro rM W2 ⟨bi,_,b4,kM⟩;have b1:=bi.below;have aL:=ag b1 J.size J;replace kA:=kA.next b1
 replace kB:=kB.next b1
 replace V:=V.next b1
 clear aG F bq aZ az bo G ac g K U b5 bi b1 J HA HB HC;have⟨aG,F,bq,aZ,az,bo⟩:=kA.p5;have⟨G,ac,g,K,U,b5⟩:=kB.p5;have⟨a9,ba,cz,cF,cX,bX⟩:=kM.p5;have⟨bx,bz,b3,bb,ab⟩:=V.q5;have⟨aM,a1,ae,a8,aa⟩:=V.f5;have ax:=V.lt;have k9:=((((V.set 0 ()).set 1 ()).set 2 ()).set 3 ()).set 4 ();have ad:=((((aL.setCell (p:=⟨rR,0,none⟩) H ()).setCell (p:=⟨rR,1,none⟩) H ()).setCell (p:=⟨rR,2,none⟩) H ()).setCell (p:=⟨rR,3,none⟩) H ()).setCell (p:=⟨rR,4,none⟩) H ();go_wp2;generalize World.setCell _ _ _=w9 at ad k9 ⊢;have⟨q0,q1,q2,q3,q4⟩:=k9.q5;refine Vk (v:=.tuple #[.agg #[(),(),(),(),()],false]) I5 rfl ?_;exact⟨by rw[HN.out,HM.out];rfl,ad⟩):=h
def A9(h:P:=by
 go_enter func174,ntmps174;go_upto_region 1 with fail
 generalize ((w.alloc _).alloc _).alloc _=W at *;generalize hq:w.heap.size+1+1=rR at *;clear hq;have⟨aG,F,bq,aZ,az,bo⟩:=kA.p5;have⟨G,ac,g,K,U,b5⟩:=kB.p5;apply fZ (λr6 Wz=>ai [] W Wz/\(λ_=>True) Wz/\W.heap.size<=r6/\ah r6 #[a,b,I,mh,mt] 70 Wz)
 .exact IX
 try dsimp only
 rintro rM W2 ⟨bi,_,b4,kM⟩;have b1:=bi.below;have aL:=ag b1 J.size J;replace kA:=kA.next b1
 replace kB:=kB.next b1
 replace V:=V.next b1
 clear aG F bq aZ az bo G ac g K U b5 bi b1 J HA HB HC;have⟨aG,F,bq,aZ,az,bo⟩:=kA.p5;have⟨G,ac,g,K,U,b5⟩:=kB.p5;have⟨a9,ba,cz,cF,cX,bX⟩:=kM.p5;have⟨bx,bz,b3,bb,ab⟩:=V.q5;have⟨aM,a1,ae,a8,aa⟩:=V.f5;have ax:=V.lt;have k9:=((((V.set 0 a).set 1 b).set 2 I).set 3 mh).set 4 mt;have ad:=((((aL.setCell (p:=⟨rR,0,none⟩) H a).setCell (p:=⟨rR,1,none⟩) H b).setCell (p:=⟨rR,2,none⟩) H I).setCell (p:=⟨rR,3,none⟩) H mh).setCell (p:=⟨rR,4,none⟩) H mt;go_wp2;generalize World.setCell _ _ _=w9 at ad k9 ⊢;have⟨q0,q1,q2,q3,q4⟩:=k9.q5;refine Vk (v:=.tuple #[.agg #[a,b,I,mh,mt],true]) I5 rfl ?_;exact⟨by rw[HY.out,HM.out];rfl,ad⟩):=h
def Bc(h:P:=by
 generalize W.alloc _=W2 at *;generalize W.heap.size=rM at *;have⟨a9,ba,cz,cF,cX,bX⟩:=kM.p5;have cc:rM∉[rR]:=u_;refine bw [rR] (λ_=>false) (λ_=>True) (ah rR #[(),(),(),(),()] 70) k_ V ?_;refine aE ⟨W2,ai.refl _ _,V⟩ (cj 6 0) 2 aK aB ?_;refine aD 6 ?_;refine fC (v:=.agg #[a,b,I,mh,mt]) rR (#[(),(),(),(),()]) (ah rR #[a,b,I,mh,mt] 70) (.inr s_) (λ_ hd=>hd) aK (λw1 w2 hd Z hb=>hb) (λhne=>?_)
 try simp only[Value.cells]
 refine aE hne (bk 7 1) 0 aK aB ?_;refine dn λWz a7 aX=>?_
 try dsimp only
 have ad:=a7.belowGe aL aL.size u_;have⟨q0,q1,q2,q3,q4⟩:=aX.q5;go_wp2;refine Vk (v:=.tuple #[.agg #[a,b,I,mh,mt],decide (I<=mh)]) JD rfl ?_;exact⟨by rw[(HV.out _ rfl).1,HM.out];rfl,ad⟩):=h
def Hx(h:P:=by
 go_enter func226,ntmps226;exact rV):=h
def LF(m a b:E5)(w:World)(e:Ending)(w':World):Prop:=e=.returned (.tuple #[cI m,.bool (eE a b).isSome])/\af w w w'
def wI(a b:E5):E5:=(a.1,max a.2.1 b.2.1,min a.2.2.1 b.2.2.1,max a.2.2.2 b.2.2.2)
def sD:E5:=((0,0),0,0,0)
def oG(a b:E5):E5:=if a.2.2.2≠0/\b.2.2.2≠0/\a.2.2.2≠b.2.2.2 then sD else wI a b
def lp(a b:E5):E5:=(eE a b).getD sD
def P2{a b m:E5}(h:eE a b=some m):m=wI a b:=by
 unfold eE at h;split at h
 .injection h with h;exact h.symm
 .cases h
def Sc{a b m:E5}(h:eE a b=some m):oG a b=m:=by
 rw[P2 h];unfold eE at h;split at h
 .rename_i hc;unfold oG;rw[Vm hc.2]
 .cases h
def Rx{a b m:E5}(h:eE a b=some m):lp a b=m:=by unfold lp;rw[h];rfl
def Dv{a b:E5}(h1:max a.2.1 b.2.1<=min a.2.2.1 b.2.2.1)(h2:¬(a.2.2.2≠0/\b.2.2.2≠0/\a.2.2.2≠b.2.2.2)):eE a b=some (wI a b):=by unfold eE;rw[Vo ⟨h1,h2⟩];rfl
def Du{a b:E5}(h1:¬max a.2.1 b.2.1<=min a.2.2.1 b.2.2.1):eE a b=none:=by unfold eE;rw[Vm (λh=>h1 h.1)]
def DY{a b:E5}(h2:a.2.2.2≠0/\b.2.2.2≠0/\a.2.2.2≠b.2.2.2):eE a b=none:=by unfold eE;rw[Vm (λh=>h.2 h2)]
def Nb(x y:E5)(w:World):Kp 277 #[cI x,cI y] w (LF (oG x y) x y w):=by
 obtain⟨⟨a,b⟩,lo,hi,t⟩:=x;obtain⟨⟨c,d⟩,bY,bZ,t2⟩:=y;simp only[cI];obtain⟨kA,kB,V,J⟩:=fv w #[a,b,lo,hi,t] 70 #[c,d,bY,bZ,t2] 70 #[(),(),(),(),()] 70;have H:w.heap.size<=w.heap.size+1+1:=o_;by_cases hT:t≠0/\t2≠0/\t≠t2
 .have HN:=h_ (DY (a:=((a,b),lo,hi,t)) (b:=((c,d),bY,bZ,t2)) hT);have HM:Hid (oG ((a,b),lo,hi,t) ((c,d),bY,bZ,t2)=sD):=h_ (Vo hT);have h1:(t != 0)=true:=by simpa using hT.1
  have h2:(t2 != 0)=true:=by simpa using hT.2.1
  have h3:(t != t2)=true:=by simpa using hT.2.2
  clear hT;go_enter func277,ntmps277;go_upto_region 1 with fail
  generalize ((w.alloc _).alloc _).alloc _=W at *;generalize hq:w.heap.size+1+1=rR at *;clear hq;have⟨aG,F,bq,aZ,az,bo⟩:=kA.p5;have⟨G,ac,g,K,U,b5⟩:=kB.p5;have aL:=J;have⟨bx,bz,b3,bb,ab⟩:=V.q5;have⟨aM,a1,ae,a8,aa⟩:=V.f5;have ax:=V.lt;have k9:=((((V.set 0 ()).set 1 ()).set 2 ()).set 3 ()).set 4 ();have ad:=((((aL.setCell (p:=⟨rR,0,none⟩) H ()).setCell (p:=⟨rR,1,none⟩) H ()).setCell (p:=⟨rR,2,none⟩) H ()).setCell (p:=⟨rR,3,none⟩) H ()).setCell (p:=⟨rR,4,none⟩) H ();go_wp2;generalize World.setCell _ _ _=w9 at ad k9 ⊢;have⟨q0,q1,q2,q3,q4⟩:=k9.q5;refine Vk (v:=.tuple #[.agg #[(),(),(),(),()],false]) JD rfl ?_;exact⟨by rw[HN.out,HM.out];rfl,ad⟩
 .obtain⟨I,e1⟩:∃I,(if lo<bY then bY else lo)=I:=⟨_,rfl⟩
  obtain⟨mh,e2⟩:∃mh,(if bZ<hi then bZ else hi)=mh:=⟨_,rfl⟩
  obtain⟨mt,e3⟩:∃mt,(if t<t2 then t2 else t)=mt:=⟨_,rfl⟩
  have f1:max lo bY=I:=by rw[<-e1];split<;>omega
  have f2:min hi bZ=mh:=by rw[<-e2];split<;>omega
  have f3:max t t2=mt:=by rw[<-e3];split<;>omega
  have HV:Hid (∀ok,decide (I<=mh)=ok->(eE ((a,b),lo,hi,t) ((c,d),bY,bZ,t2)).isSome=ok/\∀m',eE ((a,b),lo,hi,t) ((c,d),bY,bZ,t2)=some m'->((a,b),I,mh,mt)=m'):=h_ (λok h=>by
   rw[<-f1,<-f2] at h;rw[<-f1,<-f2,<-f3];by_cases hl:max lo bY<=min hi bZ
   .rw[Xn hl] at h;subst h;rw[Dv (a:=((a,b),lo,hi,t)) (b:=((c,d),bY,bZ,t2)) hl hT];exact⟨rfl,λm' h=>by injection h⟩
   .rw[We hl] at h;subst h;rw[Du (a:=((a,b),lo,hi,t)) (b:=((c,d),bY,bZ,t2)) hl];exact⟨rfl,λm' h=>by cases h⟩)
  have HM:Hid (oG ((a,b),lo,hi,t) ((c,d),bY,bZ,t2)=((a,b),I,mh,mt)):=h_ (by rw[<-f1,<-f2,<-f3];exact Vm hT);clear f1 f2 f3;have bv:t=0\/(t≠0/\t2=0)\/(t≠0/\t2≠0/\t=t2):=o_;clear hT;have HX:=h_ (λW:World=>((Vn W.heap.size W).alloc (Vj _) (.cells #[a,b,I,mh,mt] 70)));have HK:=h_ (λW:World=>ah.new W #[a,b,I,mh,mt] 70);rcases bv with h|⟨h,h2⟩|⟨h,h2,h3⟩
  .have h1:(t != 0)=false:=by simpa using h
   clear h;go_enter func277,ntmps277;go_upto_region 1 with fail
   generalize ((w.alloc _).alloc _).alloc _=W at *;generalize hq:w.heap.size+1+1=rR at *;clear hq;have⟨aG,F,bq,aZ,az,bo⟩:=kA.p5;have⟨G,ac,g,K,U,b5⟩:=kB.p5;go_upto_region 4 with fail
   clear aG F bq aZ az bo G ac g K U b5 kA kB;have kM:=HK.out W;have aF:=V.lt;replace V:=V.next (HX.out W)
   have aL:=ag (HX.out W) J.size J;clear HK HX J h1 e1 e2 e3;exact Bc
  .have h1:(t != 0)=true:=by simpa using h
   have h3:(t2 != 0)=false:=by simpa using h2
   clear h h2;go_enter func277,ntmps277;go_upto_region 1 with fail
   generalize ((w.alloc _).alloc _).alloc _=W at *;generalize hq:w.heap.size+1+1=rR at *;clear hq;have⟨aG,F,bq,aZ,az,bo⟩:=kA.p5;have⟨G,ac,g,K,U,b5⟩:=kB.p5;go_upto_region 4 with fail
   clear aG F bq aZ az bo G ac g K U b5 kA kB;have kM:=HK.out W;have aF:=V.lt;replace V:=V.next (HX.out W)
   have aL:=ag (HX.out W) J.size J;clear HK HX J h1 h3 e1 e2 e3;exact Bc
  .have h1:(t != 0)=true:=by simpa using h
   have h4:(t2 != 0)=true:=by simpa using h2
   have h5:(t != t2)=false:=by simpa using h3
   clear h h2 h3;go_enter func277,ntmps277;go_upto_region 1 with fail
   generalize ((w.alloc _).alloc _).alloc _=W at *;generalize hq:w.heap.size+1+1=rR at *;clear hq;have⟨aG,F,bq,aZ,az,bo⟩:=kA.p5;have⟨G,ac,g,K,U,b5⟩:=kB.p5;go_upto_region 4 with fail
   clear aG F bq aZ az bo G ac g K U b5 kA kB;have kM:=HK.out W;have aF:=V.lt;replace V:=V.next (HX.out W)
   have aL:=ag (HX.out W) J.size J;clear HK HX J h1 h4 h5 e1 e2 e3;exact Bc
def Qc(a b:Int)(w:World):Rw 226 #[a,b] w (min a b:Int):=by
 by_cases h:a<b
 .rw[show min a b=a by omega];exact Hx
 .rw[show min a b=b by omega];exact Hx
def RC(x y:E5)(hx:0<=x.2.2.2)(hy:0<=y.2.2.2)(w:World):Kp 174 #[cI x,cI y] w (LF (lp x y) x y w):=by
 obtain⟨⟨a,b⟩,lo,hi,t⟩:=x;obtain⟨⟨c,d⟩,bY,bZ,t2⟩:=y;simp only[cI];simp only at hx hy;obtain⟨kA,kB,V,J⟩:=fv w #[a,b,lo,hi,t] 70 #[c,d,bY,bZ,t2] 70 #[(),(),(),(),()] 70;have H:w.heap.size<=w.heap.size+1+1:=o_;have hA:∀W,Rw 172 #[lo,bY] W (max lo bY:Int):=λW=>(ng lo bY W).mono λ_ _ h=>⟨by rw[h.1];congr 2;omega,h.2.symm⟩
 have hC:∀W,Rw 172 #[t,t2] W (max t t2:Int):=λW=>(ng t t2 W).mono λ_ _ h=>⟨by rw[h.1];congr 2;omega,h.2.symm⟩
 have hB:=λW=>Qc hi bZ W;have cB:=Dv (a:=((a,b),lo,hi,t)) (b:=((c,d),bY,bZ,t2));have Z:=Du (a:=((a,b),lo,hi,t)) (b:=((c,d),bY,bZ,t2));have cb:=DY (a:=((a,b),lo,hi,t)) (b:=((c,d),bY,bZ,t2));unfold wI at cB;simp only at cB Z cb;generalize max lo bY=I at *;generalize min hi bZ=mh at *;generalize max t t2=mt at *;have HA:=h_ hA;have HB:=h_ hB;have HC:=h_ hC;clear hA hB hC;by_cases hl:I<=mh
 .have aF:¬mh<I:=o_;by_cases hT:t≠0/\t2≠0/\t≠t2
  .have HN:=h_ (cb hT);have HM:Hid (lp ((a,b),lo,hi,t) ((c,d),bY,bZ,t2)=sD):=h_ (by unfold lp;rw[cb hT];rfl);have h1:0<t:=o_;have h2:0<t2:=o_;have h3:(t != t2)=true:=by simpa using hT.2.2
   clear hT Z cb cB;exact KZ
  .have HY:=h_ (cB hl hT);have HM:Hid (lp ((a,b),lo,hi,t) ((c,d),bY,bZ,t2)=((a,b),I,mh,mt)):=h_ (by unfold lp;rw[cB hl hT];rfl);have bv:¬0<t\/(0<t/\¬0<t2)\/(0<t/\0<t2/\t=t2):=o_;clear hT Z cb cB;rcases bv with h1|⟨h1,h2⟩|⟨h1,h2,h3⟩
   .exact A9
   .exact A9
   .have h4:(t != t2)=false:=by simpa using h3
    clear h3;exact A9
 .have HN:=h_ (Z hl);have HM:Hid (lp ((a,b),lo,hi,t) ((c,d),bY,bZ,t2)=sD):=h_ (by unfold lp;rw[Z hl];rfl);have aF:mh<I:=o_;clear Z cb cB hl;exact KZ
end Go.Proofs.YtaamhakdhaolmaaGreatDoor
