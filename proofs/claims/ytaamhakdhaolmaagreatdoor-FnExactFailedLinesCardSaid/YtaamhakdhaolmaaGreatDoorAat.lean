/- Part 19. -/
import Derived.Test.YtaamhakdhaolmaaGreatDoorAai
import Derived.Test.YtaamhakdhaolmaaGreatDoorAan
namespace Go.Proofs.YtaamhakdhaolmaaGreatDoor
open Go.RowKit
set_option maxHeartbeats 8000000
set_option maxRecDepth 100000
variable {P:Prop}
set_option linter.all false
def Io(h:P:=by simp [results,Tryz.results174,go_sem,q0,q1,q2,q3,q4]):=h
def IZ(h:P:=by simp [results,Tryz.results277,go_sem,q0,q1,q2,q3,q4]):=h
def Ig(h:P:=by
 intro bp;refine br [] (λ_=>false) (λ_=>True) (KD (λ_=>True) []) k_ ⟨trivial,bR.nil _⟩ ?_;apply lc ⟨W,ah.refl _ _,trivial,bR.nil _⟩ [ae,ae,ae,ae,ae,ae,ae,ae,ae,ae,ae,ae,ae,ae,ae,ae,ae,ae] 2 (KD.closed an _) aA k_ k_ k_ k_ s_
 .intro E hE bv cb;(repeat (first|(refine gB ?_;go_big_quiet_step ((first|(go_at_call 226;with_reducible exact Calls.quiet_clsS _ (HB.out _))|(go_at_call 172;first|with_reducible exact Calls.quiet_clsS _ (HA.out _)|with_reducible exact Calls.quiet_clsS _ (HC.out _))));refine wpQuiet_nil ?_)|refine gA ?_));exact gC rfl
 refine aR [18] ?_;refine ak.cons ?_ ?_
 .refine dm (zs:=#[(),(),(),(),()]) (T:=70) an (λr6 b0 cZ hne=>?_);refine ao ?_;refine aR [19] ?_;refine ak.cons ?_ ?_
  .refine fk (v:=.agg #[a,b,F,G,mt]) [] [] (.inl b0) an (λ_ _ h _=>h) s_ (λhne=>?_)
   try simp only[Value.cells]
   refine jc k_ (λWz a7 aX=>?_) _;exact bp r6 Wz ⟨a7,aX.1,o_,aX.2.head⟩
  exact ak.nil
 exact ak.nil):=h
def J_(h:P:=by
 go_enter Tryz.func174,Tryz.ntmps174;go_upto_region 1 with fail
 generalize ((w.alloc _).alloc _).alloc _=W at *;generalize hq:w.heap.size+1+1=rR at *;clear hq;obtain⟨bs,ba,aG,a2,K⟩:=kA.q5;have bq:=kA.lt;obtain⟨bb,bo,g,U,aZ⟩:=kB.q5;have bZ:=kB.lt;apply fO (λr6 Wz=>ah [] W Wz/\(λ_=>True) Wz/\W.heap.size<=r6/\ag r6 #[a,b,F,G,mt] 70 Wz)
 .exact Ig
 try dsimp only
 rintro rM W2 ⟨bi,_,b4,kM⟩;have b5:=bi.below;have aL:=af b5 J.size J;replace kA:=kA.next b5
 replace kB:=kB.next b5
 replace V:=V.next b5
 clear bs ba aG a2 K bq bb bo g U aZ bZ bi b5 J HA HB HC;obtain⟨bs,ba,aG,a2,K⟩:=kA.q5;have bq:=kA.lt;obtain⟨bb,bo,g,U,aZ⟩:=kB.q5;have bZ:=kB.lt;obtain⟨a8,bx,cu,cF,cQ⟩:=kM.q5;have bX:=kM.lt;obtain⟨bz,b1,b3,ca,ab⟩:=V.q5;have aM:=V.frozen 0;have a1:=V.frozen 1;have a9:=V.frozen 2;have b9:=V.frozen 3;have aa:=V.frozen 4;have az:=V.lt;have k9:=((((V.set 0 ()).set 1 ()).set 2 ()).set 3 ()).set 4 ();have ad:=((((aL.setCell (p:=⟨rR,0,none⟩) H ()).setCell (p:=⟨rR,1,none⟩) H ()).setCell (p:=⟨rR,2,none⟩) H ()).setCell (p:=⟨rR,3,none⟩) H ()).setCell (p:=⟨rR,4,none⟩) H ();go_wp2;generalize World.setCell _ _ _=w9 at ad k9 ⊢;obtain⟨q0,q1,q2,q3,q4⟩:=k9.q5;refine Uh (v:=.tuple #[.agg #[(),(),(),(),()],false]) Io rfl ?_;exact⟨by rw[HN.out,HM.out];rfl,ad⟩):=h
def AE(h:P:=by
 go_enter Tryz.func174,Tryz.ntmps174;go_upto_region 1 with fail
 generalize ((w.alloc _).alloc _).alloc _=W at *;generalize hq:w.heap.size+1+1=rR at *;clear hq;obtain⟨bs,ba,aG,a2,K⟩:=kA.q5;have bq:=kA.lt;obtain⟨bb,bo,g,U,aZ⟩:=kB.q5;have bZ:=kB.lt;apply fO (λr6 Wz=>ah [] W Wz/\(λ_=>True) Wz/\W.heap.size<=r6/\ag r6 #[a,b,F,G,mt] 70 Wz)
 .exact Ig
 try dsimp only
 rintro rM W2 ⟨bi,_,b4,kM⟩;have b5:=bi.below;have aL:=af b5 J.size J;replace kA:=kA.next b5
 replace kB:=kB.next b5
 replace V:=V.next b5
 clear bs ba aG a2 K bq bb bo g U aZ bZ bi b5 J HA HB HC;obtain⟨bs,ba,aG,a2,K⟩:=kA.q5;have bq:=kA.lt;obtain⟨bb,bo,g,U,aZ⟩:=kB.q5;have bZ:=kB.lt;obtain⟨a8,bx,cu,cF,cQ⟩:=kM.q5;have bX:=kM.lt;obtain⟨bz,b1,b3,ca,ab⟩:=V.q5;have aM:=V.frozen 0;have a1:=V.frozen 1;have a9:=V.frozen 2;have b9:=V.frozen 3;have aa:=V.frozen 4;have az:=V.lt;have k9:=((((V.set 0 a).set 1 b).set 2 F).set 3 G).set 4 mt;have ad:=((((aL.setCell (p:=⟨rR,0,none⟩) H a).setCell (p:=⟨rR,1,none⟩) H b).setCell (p:=⟨rR,2,none⟩) H F).setCell (p:=⟨rR,3,none⟩) H G).setCell (p:=⟨rR,4,none⟩) H mt;go_wp2;generalize World.setCell _ _ _=w9 at ad k9 ⊢;obtain⟨q0,q1,q2,q3,q4⟩:=k9.q5;refine Uh (v:=.tuple #[.agg #[a,b,F,G,mt],true]) Io rfl ?_;exact⟨by rw[HY.out,HM.out];rfl,ad⟩):=h
def AI(h:P:=by
 generalize W.alloc _=W2 at *;generalize W.heap.size=rM at *;obtain⟨a8,bx,cu,cF,cQ⟩:=kM.q5;have bX:=kM.lt;have bY:rM∉[rR]:=u_;refine br [rR] (λ_=>false) (λ_=>True) (ag rR #[(),(),(),(),()] 70) k_ V ?_;refine aD ⟨W2,ah.refl _ _,V⟩ [ae,ae,ae,ae,ae,ae] 2 aI aA ?_;refine aB 6 ?_;refine fm (v:=.agg #[a,b,F,G,mt]) rR (#[(),(),(),(),()]) (ag rR #[a,b,F,G,mt] 70) (.inr s_) (λ_ hd=>hd) aI (λw1 w2 hd Z hb=>hb) (λhne=>?_)
 try simp only[Value.cells]
 refine aD hne [ac,ac,ac,ac,ac,ac,ac,ae] 0 aI aA ?_;refine cV λWz a7 aX=>?_
 try dsimp only
 have ad:=a7.belowGe aL aL.size u_;obtain⟨q0,q1,q2,q3,q4⟩:=aX.q5;go_wp2;refine Uh (v:=.tuple #[.agg #[a,b,F,G,mt],decide (F<=G)]) IZ rfl ?_;exact⟨by rw[(HV.out _ rfl).1,HM.out];rfl,ad⟩):=h
def GO(h:P:=by
 go_enter Tryz.func226,Tryz.ntmps226;exact rg):=h
def KL(m a b:E5)(w:World)(e:Ending)(w':World):Prop:=e=.returned (.tuple #[cq m,.bool (ek a b).isSome])/\Below w.heap.size w w'
def wa(a b:E5):E5:=(a.1,max a.2.1 b.2.1,min a.2.2.1 b.2.2.1,max a.2.2.2 b.2.2.2)
def rH:E5:=((0,0),0,0,0)
def oo(a b:E5):E5:=if a.2.2.2≠0/\b.2.2.2≠0/\a.2.2.2≠b.2.2.2 then rH else wa a b
def kV(a b:E5):E5:=(ek a b).getD rH
def Pa{a b m:E5}(h:ek a b=some m):m=wa a b:=by
 unfold ek at h;split at h
 .injection h with h;exact h.symm
 .cases h
def Q_{a b m:E5}(h:ek a b=some m):oo a b=m:=by
 rw[Pa h];unfold ek at h;split at h
 .rename_i hc;unfold oo;rw[Uj hc.2]
 .cases h
def QH{a b m:E5}(h:ek a b=some m):kV a b=m:=by unfold kV;rw[h];rfl
def CU{a b:E5}(h1:max a.2.1 b.2.1<=min a.2.2.1 b.2.2.1)(h2:¬(a.2.2.2≠0/\b.2.2.2≠0/\a.2.2.2≠b.2.2.2)):ek a b=some (wa a b):=by unfold ek;rw[Um ⟨h1,h2⟩];rfl
def CT{a b:E5}(h1:¬max a.2.1 b.2.1<=min a.2.2.1 b.2.2.1):ek a b=none:=by unfold ek;rw[Uj (λh=>h1 h.1)]
def Dn{a b:E5}(h2:a.2.2.2≠0/\b.2.2.2≠0/\a.2.2.2≠b.2.2.2):ek a b=none:=by unfold ek;rw[Uj (λh=>h.2 h2)]
def Ml(x y:E5)(w:World):Kp 277 #[cq x,cq y] w (KL (oo x y) x y w):=by
 obtain⟨⟨a,b⟩,lo,hi,t⟩:=x;obtain⟨⟨c,d⟩,b6,b8,t2⟩:=y;simp only[cq];obtain⟨kA,kB,V,J⟩:=fh w #[a,b,lo,hi,t] 70 #[c,d,b6,b8,t2] 70 #[(),(),(),(),()] 70;have H:w.heap.size<=w.heap.size+1+1:=o_;by_cases hT:t≠0/\t2≠0/\t≠t2
 .have HN:=h_ (Dn (a:=((a,b),lo,hi,t)) (b:=((c,d),b6,b8,t2)) hT);have HM:Hid (oo ((a,b),lo,hi,t) ((c,d),b6,b8,t2)=rH):=h_ (Um hT);have h1:(t != 0)=true:=by simpa using hT.1
  have h2:(t2 != 0)=true:=by simpa using hT.2.1
  have h3:(t != t2)=true:=by simpa using hT.2.2
  clear hT;go_enter Tryz.func277,Tryz.ntmps277;go_upto_region 1 with fail
  generalize ((w.alloc _).alloc _).alloc _=W at *;generalize hq:w.heap.size+1+1=rR at *;clear hq;obtain⟨bs,ba,aG,a2,K⟩:=kA.q5;have bq:=kA.lt;obtain⟨bb,bo,g,U,aZ⟩:=kB.q5;have bZ:=kB.lt;have aL:=J;obtain⟨bz,b1,b3,ca,ab⟩:=V.q5;have aM:=V.frozen 0;have a1:=V.frozen 1;have a9:=V.frozen 2;have b9:=V.frozen 3;have aa:=V.frozen 4;have az:=V.lt;have k9:=((((V.set 0 ()).set 1 ()).set 2 ()).set 3 ()).set 4 ();have ad:=((((aL.setCell (p:=⟨rR,0,none⟩) H ()).setCell (p:=⟨rR,1,none⟩) H ()).setCell (p:=⟨rR,2,none⟩) H ()).setCell (p:=⟨rR,3,none⟩) H ()).setCell (p:=⟨rR,4,none⟩) H ();go_wp2;generalize World.setCell _ _ _=w9 at ad k9 ⊢;obtain⟨q0,q1,q2,q3,q4⟩:=k9.q5;refine Uh (v:=.tuple #[.agg #[(),(),(),(),()],false]) IZ rfl ?_;exact⟨by rw[HN.out,HM.out];rfl,ad⟩
 .obtain⟨F,e1⟩:∃F,(if lo<b6 then b6 else lo)=F:=⟨_,rfl⟩
  obtain⟨G,e2⟩:∃G,(if b8<hi then b8 else hi)=G:=⟨_,rfl⟩
  obtain⟨mt,e3⟩:∃mt,(if t<t2 then t2 else t)=mt:=⟨_,rfl⟩
  have f1:max lo b6=F:=by rw[<-e1];split<;>omega
  have f2:min hi b8=G:=by rw[<-e2];split<;>omega
  have f3:max t t2=mt:=by rw[<-e3];split<;>omega
  have HV:Hid (∀ok,decide (F<=G)=ok->(ek ((a,b),lo,hi,t) ((c,d),b6,b8,t2)).isSome=ok/\∀m',ek ((a,b),lo,hi,t) ((c,d),b6,b8,t2)=some m'->((a,b),F,G,mt)=m'):=h_ (λok h=>by
   rw[<-f1,<-f2] at h;rw[<-f1,<-f2,<-f3];by_cases hl:max lo b6<=min hi b8
   .rw[V2 hl] at h;subst h;rw[CU (a:=((a,b),lo,hi,t)) (b:=((c,d),b6,b8,t2)) hl hT];exact⟨rfl,λm' h=>by injection h⟩
   .rw[Vb hl] at h;subst h;rw[CT (a:=((a,b),lo,hi,t)) (b:=((c,d),b6,b8,t2)) hl];exact⟨rfl,λm' h=>by cases h⟩)
  have HM:Hid (oo ((a,b),lo,hi,t) ((c,d),b6,b8,t2)=((a,b),F,G,mt)):=h_ (by rw[<-f1,<-f2,<-f3];exact Uj hT);clear f1 f2 f3;have b2:t=0\/(t≠0/\t2=0)\/(t≠0/\t2≠0/\t=t2):=o_;clear hT;have HX:=h_ (λW:World=>((Uk W.heap.size W).alloc (Ug _) (.cells #[a,b,F,G,mt] 70)));have HK:=h_ (λW:World=>ag.new W #[a,b,F,G,mt] 70);rcases b2 with h|⟨h,h2⟩|⟨h,h2,h3⟩
  .have h1:(t != 0)=false:=by simpa using h
   clear h;go_enter Tryz.func277,Tryz.ntmps277;go_upto_region 1 with fail
   generalize ((w.alloc _).alloc _).alloc _=W at *;generalize hq:w.heap.size+1+1=rR at *;clear hq;obtain⟨bs,ba,aG,a2,K⟩:=kA.q5;have bq:=kA.lt;obtain⟨bb,bo,g,U,aZ⟩:=kB.q5;have bZ:=kB.lt;go_upto_region 4 with fail
   clear bs ba aG a2 K bq bb bo g U aZ bZ kA kB;have kM:=HK.out W;have I:=V.lt;replace V:=V.next (HX.out W)
   have aL:=af (HX.out W) J.size J;clear HK HX J h1 e1 e2 e3;exact AI
  .have h1:(t != 0)=true:=by simpa using h
   have h3:(t2 != 0)=false:=by simpa using h2
   clear h h2;go_enter Tryz.func277,Tryz.ntmps277;go_upto_region 1 with fail
   generalize ((w.alloc _).alloc _).alloc _=W at *;generalize hq:w.heap.size+1+1=rR at *;clear hq;obtain⟨bs,ba,aG,a2,K⟩:=kA.q5;have bq:=kA.lt;obtain⟨bb,bo,g,U,aZ⟩:=kB.q5;have bZ:=kB.lt;go_upto_region 4 with fail
   clear bs ba aG a2 K bq bb bo g U aZ bZ kA kB;have kM:=HK.out W;have I:=V.lt;replace V:=V.next (HX.out W)
   have aL:=af (HX.out W) J.size J;clear HK HX J h1 h3 e1 e2 e3;exact AI
  .have h1:(t != 0)=true:=by simpa using h
   have h4:(t2 != 0)=true:=by simpa using h2
   have h5:(t != t2)=false:=by simpa using h3
   clear h h2 h3;go_enter Tryz.func277,Tryz.ntmps277;go_upto_region 1 with fail
   generalize ((w.alloc _).alloc _).alloc _=W at *;generalize hq:w.heap.size+1+1=rR at *;clear hq;obtain⟨bs,ba,aG,a2,K⟩:=kA.q5;have bq:=kA.lt;obtain⟨bb,bo,g,U,aZ⟩:=kB.q5;have bZ:=kB.lt;go_upto_region 4 with fail
   clear bs ba aG a2 K bq bb bo g U aZ bZ kA kB;have kM:=HK.out W;have I:=V.lt;replace V:=V.next (HX.out W)
   have aL:=af (HX.out W) J.size J;clear HK HX J h1 h4 h5 e1 e2 e3;exact AI
def Pk(a b:Int)(w:World):Rw 226 #[a,b] w (min a b:Int):=by
 by_cases h:a<b
 .rw[show min a b=a by omega];exact GO
 .rw[show min a b=b by omega];exact GO
def QM(x y:E5)(hx:0<=x.2.2.2)(hy:0<=y.2.2.2)(w:World):Kp 174 #[cq x,cq y] w (KL (kV x y) x y w):=by
 obtain⟨⟨a,b⟩,lo,hi,t⟩:=x;obtain⟨⟨c,d⟩,b6,b8,t2⟩:=y;simp only[cq];simp only at hx hy;obtain⟨kA,kB,V,J⟩:=fh w #[a,b,lo,hi,t] 70 #[c,d,b6,b8,t2] 70 #[(),(),(),(),()] 70;have H:w.heap.size<=w.heap.size+1+1:=o_;have hA:∀W,Rw 172 #[lo,b6] W (max lo b6:Int):=λW=>(mU lo b6 W).mono λ_ _ h=>⟨by rw[h.1];congr 2;omega,h.2.symm⟩
 have hC:∀W,Rw 172 #[t,t2] W (max t t2:Int):=λW=>(mU t t2 W).mono λ_ _ h=>⟨by rw[h.1];congr 2;omega,h.2.symm⟩
 have hB:=λW=>Pk hi b8 W;have cA:=CU (a:=((a,b),lo,hi,t)) (b:=((c,d),b6,b8,t2));have I:=CT (a:=((a,b),lo,hi,t)) (b:=((c,d),b6,b8,t2));have cB:=Dn (a:=((a,b),lo,hi,t)) (b:=((c,d),b6,b8,t2));unfold wa at cA;simp only at cA I cB;generalize max lo b6=F at *;generalize min hi b8=G at *;generalize max t t2=mt at *;have HA:=h_ hA;have HB:=h_ hB;have HC:=h_ hC;clear hA hB hC;by_cases hl:F<=G
 .have Z:¬G<F:=o_;by_cases hT:t≠0/\t2≠0/\t≠t2
  .have HN:=h_ (cB hT);have HM:Hid (kV ((a,b),lo,hi,t) ((c,d),b6,b8,t2)=rH):=h_ (by unfold kV;rw[cB hT];rfl);have h1:0<t:=o_;have h2:0<t2:=o_;have h3:(t != t2)=true:=by simpa using hT.2.2
   clear hT I cB cA;exact J_
  .have HY:=h_ (cA hl hT);have HM:Hid (kV ((a,b),lo,hi,t) ((c,d),b6,b8,t2)=((a,b),F,G,mt)):=h_ (by unfold kV;rw[cA hl hT];rfl);have b2:¬0<t\/(0<t/\¬0<t2)\/(0<t/\0<t2/\t=t2):=o_;clear hT I cB cA;rcases b2 with h1|⟨h1,h2⟩|⟨h1,h2,h3⟩
   .exact AE
   .exact AE
   .have h4:(t != t2)=false:=by simpa using h3
    clear h3;exact AE
 .have HN:=h_ (I hl);have HM:Hid (kV ((a,b),lo,hi,t) ((c,d),b6,b8,t2)=rH):=h_ (by unfold kV;rw[I hl];rfl);have Z:G<F:=o_;clear I cB cA hl;exact J_
end Go.Proofs.YtaamhakdhaolmaaGreatDoor
