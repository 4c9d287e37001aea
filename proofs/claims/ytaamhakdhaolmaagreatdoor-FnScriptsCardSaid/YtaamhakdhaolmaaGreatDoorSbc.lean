/- Part 28. -/
import Derived.Test.YtaamhakdhaolmaaGreatDoorSaj
import Derived.Test.YtaamhakdhaolmaaGreatDoorSat
import Derived.Test.YtaamhakdhaolmaaGreatDoorSba
namespace Go.Proofs.YtaamhakdhaolmaaGreatDoor
open Go.RowKit Go.Proofs.Tryz
set_option maxHeartbeats 8000000
set_option maxRecDepth 100000
variable {P:Prop}
set_option linter.all false
def Ih(h:P:=by simp [results,results216,go_sem,q0,q1,q2,q3]):=h
def FK(h:P:=by have e:(⟨#[91]⟩:ak).size=1:=rfl;omega):=h
def Gm(h:P:=by have e:(⟨#[93]⟩:ak).size=1:=rfl;omega):=h
def dE(a:Int):Int:=bc a 4096
def cY(a:Int):Int:=aO a 4096
def qj{a}(ha:-409600000<=a/\a<=409600000):jO a 4096=true/\bQ (dE a) (cY a)=true/\(1<=cY a/\cY a<=4096)/\(4096:Int).tmod (cY a)=0/\dE a*(4096:Int).tdiv (cY a)=a:=by
 have hg:bK a 4096=au a 4096:=by unfold bK;rw[Vm o_]
 have⟨g0,H,F⟩:=rD (n:=a) (d:=4096) o_;have G:=lJ (n:=a) (d:=4096) o_;have⟨b1,b2⟩:=pS a 4096;have hc:=ry (n:=a) (d:=4096) o_;have hf:bQ (bc a 4096) (aO a 4096)=true:=by
  unfold bQ;rw[gv o_ o_,gv o_ o_,hc];rfl
 refine⟨by unfold jO kV;rw[hf];rfl,hf,⟨G,by show aO a 4096<=4096;omega⟩,?_,?_⟩
 .show (4096:Int).tmod (aO a 4096)=0;generalize bK a 4096=g,aO a 4096=d at *;rw[F];exact Int.mul_tmod_left _ _
 .show bc a 4096*(4096:Int).tdiv (aO a 4096)=a;generalize bK a 4096=g,aO a 4096=d,bc a 4096=n at *;have e:(4096:Int).tdiv d=g:=by rw[F];exact Int.mul_tdiv_cancel _ o_
  rw[e,Wu];exact H.symm
def ia(a b:Int):Bool:=decide (a<=b)&&decide (-409600000<=a)&&decide (b<=409600000)
def jQ(a b:Int):Value:=.agg #[dE a,cY a,dE b,cY b]
def sY:Value:=.agg #[(),(),(),()]
def TP{a}(ha:-409600000<=a/\a<=409600000):-409600000<=dE a/\dE a<=409600000:=by
 have:=(pS a 4096).1;unfold dE;omega
def Od(a b:Int)(w):
 Rv 270 #[.agg #[a,b]] w (.bool (ia a b)):=by
 unfold ia;by_cases h1:a<=b
 .by_cases h2:-409600000<=a
  .by_cases h3:b<=409600000
   all_goals
    go_enter func270,ntmps270;go_wp2;go_ret;refine⟨by simp [h1,h2,h3],?_⟩;exact z_
  .go_enter func270,ntmps270;go_wp2;go_ret;refine⟨by simp [h1,h2];omega,?_⟩;exact z_
 .go_enter func270,ntmps270;go_wp2;go_ret;refine⟨by simp [h1];omega,?_⟩;exact z_
def M0(a b)(h:ia a b=true)(w):
 Rv 216 #[.agg #[a,b],true] w (.tuple #[jQ a b,true]):=by
 have bv:=by unfold ia at h;simpa[YQ] using h
 have HV:=λW=>Od a b W;rw[h] at HV;have h1:=λW=>qz a 4096 o_ o_ o_ W;have h2:=λW=>qz b 4096 o_ o_ o_ W;rw[(qj (a:=a) o_).1] at h1;rw[(qj (a:=b) o_).1] at h2;have HA:=h_ h1;have HB:=h_ h2;have⟨kS,V,J⟩:=cO w #[a,b] 196 #[(),(),(),()] 145;unfold jQ dE cY;simp only[ie,WB] at HA HB;generalize bc a 4096=na,aO a 4096=da,bc b 4096=nb,aO b 4096=db at *;go_enter func216,ntmps216;go_upto_region 1 with fail
 generalize (w.alloc _).alloc _=W at *;have⟨ba,aZ,cu⟩:=kS.p2;go_wp2_with fail
 refine aj ((h_ HV).out W) λw1 I=>?_;have H:=ag I J.size J;replace kS:=kS.next I
 replace V:=V.next I
 have⟨ba,aZ,cu⟩:=kS.p2;go_wp2_with fail
 refine aj (HA.out w1) λw2 U=>?_;have ax:=ag U H.size H;have⟨kA,ab⟩:=ay w2 #[na,da] 96;have az:=ag ab ax.size ax;replace kS:=(kS.next U).next ab
 replace V:=(V.next U).next ab
 go_upto_region 4 with fail
 generalize w2.alloc _=W3,w2.heap.size=rA at *;have⟨ba,aZ,cu⟩:=kS.p2;go_wp2_with fail
 refine aj (HB.out W3) λw4 K=>?_;have g:=ag K az.size az;have⟨kB,ab⟩:=ay w4 #[nb,db] 96;have Z:=ag ab g.size g;replace kA:=(kA.next K).next ab
 replace V:=(V.next K).next ab
 go_upto_region 5 with fail
 generalize w4.alloc _=W5,w4.heap.size=rB at *;have⟨aG,F⟩:=kA.q2;have⟨G,ac⟩:=kB.q2;have⟨bx,bz,b3,bb⟩:=V.q4;have⟨aM,a1,ae,a8⟩:=V.f4;have k9:=(((V.set 0 na).set 1 da).set 2 nb).set 3 db;have ad:=(((Z.setCell (p:=⟨w.heap.size+1,0,none⟩) s_ na).setCell (p:=⟨w.heap.size+1,1,none⟩) s_ da).setCell (p:=⟨w.heap.size+1,2,none⟩) s_ nb).setCell (p:=⟨w.heap.size+1,3,none⟩) s_ db;go_wp2;generalize World.setCell _ _ _=w9 at ad k9 ⊢;have⟨q0,q1,q2,q3⟩:=k9.q4;exact Vk (v:=.tuple #[.agg #[na,da,nb,db],true]) Ih rfl ⟨rfl,ad⟩
def OH(a b:Int)(w):
 Rv 216 #[.agg #[a,b],false] w (.tuple #[sY,false]):=by
 unfold sY;obtain⟨-,V,J⟩:=cO w #[a,b] 196 #[(),(),(),()] 145;go_enter func216,ntmps216;go_upto_region 1 with fail
 generalize (w.alloc _).alloc _=W at *;have⟨bx,bz,b3,bb⟩:=V.q4;have⟨aM,a1,ae,a8⟩:=V.f4;have k9:=(((V.set 0 ()).set 1 ()).set 2 ()).set 3 ();have ad:=(((J.setCell (p:=⟨w.heap.size+1,0,none⟩) s_ ()).setCell (p:=⟨w.heap.size+1,1,none⟩) s_ ()).setCell (p:=⟨w.heap.size+1,2,none⟩) s_ ()).setCell (p:=⟨w.heap.size+1,3,none⟩) s_ ();go_wp2;generalize World.setCell _ _ _=w9 at ad k9 ⊢;have⟨q0,q1,q2,q3⟩:=k9.q4;exact Vk (v:=.tuple #[.agg #[(),(),(),()],false]) Ih rfl ⟨rfl,ad⟩
def CY(a)(ha:-409600000<=a/\a<=409600000)(w):
 Rv 351 #[.agg #[dE a,cY a]] w (.tuple #[a,true]):=by
 have⟨_,hf,hd,hm,hv⟩:=qj ha;have hn:=TP ha;have HF:=λW=>nd (dE a) (cY a) W;rw[hf] at HF;have HI:=λW=>cK a (-409600000) 409600000 W;rw[gv ha.1 ha.2] at HI;have⟨kF,J⟩:=ay w #[dE a,cY a] 96;have hq:0<=(4096:Int).tdiv (cY a)/\(4096:Int).tdiv (cY a)<=4096:=by
  have h1:=mW 4096 (cY a);have h2:0<=(4096:Int).tdiv (cY a):=Int.tdiv_nonneg o_ o_;omega
 generalize dE a=n,cY a=d at *;have g:(4096:Int) % d=0:=by rw[<-WC o_];exact hm
 have ed:(4096:Int).tdiv d=4096 / d:=WY o_;rw[ed] at hv hq;have ba:¬d=0:=o_;go_enter func351,ntmps351;go_upto_region 1 with fail
 generalize w.alloc _=W at *;have⟨Z,aL,a2⟩:=kF.p2;go_wp2_with fail
 refine aj ((h_ HF).out W) λw1 I=>?_;have H:=ag I J.size J;replace kF:=kF.next I
 have⟨Z,aL,a2⟩:=kF.p2;go_wp2
 (refine bR k_ k_ ?_;(repeat (go_big_quiet_step (fail)));refine wpQuiet_nil ?_;intro w2 U)
 go_wp2_with ((go_at_call 104;refine aA ((h_ HI).out _) ?_))
 go_ret2;exact⟨rfl,ag U H.size H⟩
def R8(a b)(h:ia a b=true)(w):
 Rv 324 #[jQ a b] w true:=by
 have bv:=by unfold ia at h;simpa[YQ] using h
 have HA:=h_ (CY a o_);have HB:=h_ (CY b o_);unfold jQ;have⟨kI,J⟩:=ay w #[dE a,cY a,dE b,cY b] 145;generalize dE a=na,cY a=da,dE b=nb,cY b=db at *;have cm:=bv.1;go_enter func324,ntmps324;go_upto_region 1 with fail
 generalize w.alloc _=W at *;have⟨aL,aZ,aa,aF,a3⟩:=kI.p4;go_wp2_with fail
 refine aj (HA.out W) λw1 I=>?_;have H:=ag I J.size J;replace kI:=kI.next I
 have⟨_,_,aa,aF⟩:=kI.q4;go_wp2_with fail
 refine aj (HB.out w1) λw2 U=>?_;go_wp2;go_ret;refine⟨by simp [cm],(ag U H.size H)⟩
def Q_(a b)(h:ia a b=true)(w):
 Rv 285 #[a,b] w (.tuple #[jQ a b,true]):=by
 have bv:=by unfold ia at h;simpa[YQ] using h
 have h1:=λW=>qW a 4096 o_ o_ W;have h2:=λW=>qW b 4096 o_ o_ W;rw[(qj (a:=a) o_).1] at h1;rw[(qj (a:=b) o_).1] at h2;have HA:=h_ h1;have HB:=h_ h2;have HG:=h_ (R8 a b h);have⟨V,J⟩:=ay w #[(),(),(),()] 145;unfold jQ dE cY at *;simp only[ie,WB] at HA HB;generalize bc a 4096=na,aO a 4096=da,bc b 4096=nb,aO b 4096=db at *;go_enter func285,ntmps285;go_upto_region 1 with fail
 generalize w.alloc _=W at *;go_wp2_with fail
 refine aj (HA.out W) λw2 U=>?_;have ax:=ag U J.size J;have⟨kA,ab⟩:=ay w2 #[na,da] 96;have az:=ag ab ax.size ax;replace V:=(V.next U).next ab
 go_upto_region 2 with fail
 generalize w2.alloc _=W3,w2.heap.size=rA at *;go_wp2_with fail
 refine aj (HB.out W3) λw4 K=>?_;have g:=ag K az.size az;have⟨kB,ab⟩:=ay w4 #[nb,db] 96;have Z:=ag ab g.size g;replace kA:=(kA.next K).next ab
 replace V:=(V.next K).next ab
 go_upto_region 3 with fail
 generalize w4.alloc _=W5,w4.heap.size=rB at *;have⟨aG,F,bo⟩:=kA.p2;have⟨G,ac,b5⟩:=kB.p2;have⟨kI,ab⟩:=ay W5 #[na,da,nb,db] 145;have aX:=ag ab Z.size Z;replace V:=V.next ab
 go_upto_region 4 with fail
 generalize W5.alloc _=W6,W5.heap.size=H at *;have⟨aL,aZ,aa,aF,a3⟩:=kI.p4;go_wp2_with fail
 refine aj (HG.out W6) λw7 a7=>?_;have a2:=ag a7 aX.size aX;replace kI:=kI.next a7
 replace V:=V.next a7
 have⟨aL,aZ,aa,aF⟩:=kI.q4;have⟨bx,bz,b3,bb⟩:=V.q4;have⟨aM,a1,ae,a8⟩:=V.f4;have k9:=(((V.set 0 na).set 1 da).set 2 nb).set 3 db;have ad:=(((a2.setCell (p:=w) s_ na).setCell (p:=⟨w,1,none⟩) s_ da).setCell (p:=⟨w,2,none⟩) s_ nb).setCell (p:=⟨w,3,none⟩) s_ db;go_wp2;generalize World.setCell _ _ _=w9 at ad k9 ⊢;have⟨q0,q1,q2,q3⟩:=k9.q4;exact Vk (v:=.tuple #[.agg #[na,da,nb,db],true]) (by simp [results,results285,go_sem,q0,q1,q2,q3]) rfl ⟨rfl,ad⟩
def ii(na da nb db:Int):ak:=⟨#[91]⟩++aH na da++⟨#[44]⟩++aH nb db++⟨#[93]⟩
def E9{a}(ha:-409600000<=a/\a<=409600000):(0<=cY a/\cY a<=1000000000)/\(-1000000000<=dE a/\dE a<=1000000000):=ud (qj ha).2.1
def R_(na da nb db)(h2:(0<=da/\da<=1000000000)/\(-1000000000<=na/\na<=1000000000))(h3:(0<=db/\db<=1000000000)/\(-1000000000<=nb/\nb<=1000000000)):(ii na da nb db).size<=103:=by
 have z1:=nK na da h2;have z2:=nK nb db h3;have e1:(⟨#[91]⟩:ak).size=1:=rfl;have e2:(⟨#[44]⟩:ak).size=1:=rfl;have e3:(⟨#[93]⟩:ak).size=1:=rfl;unfold ii;exact vV
def RM(na da nb db:Int)(h2:(0<=da/\da<=1000000000)/\(-1000000000<=na/\na<=1000000000))(h3:(0<=db/\db<=1000000000)/\(-1000000000<=nb/\nb<=1000000000))(w):
 Rv 131 #[.agg #[na,da,nb,db]] w (.string (ii na da nb db)):=by
 have⟨kI,J⟩:=ay w #[na,da,nb,db] 145;unfold ii;have z1:=nK na da h2;have z2:=nK nb db h3;have u1:((⟨#[91]⟩:ak)++aH na da).size<=51:=by rw[Vu];have e:(⟨#[91]⟩:ak).size=1:=rfl;omega
 have u2:((⟨#[91]⟩:ak)++aH na da++⟨#[44]⟩).size<=52:=by rw[Vu];have e:(⟨#[44]⟩:ak).size=1:=rfl;omega
 have u3:((⟨#[91]⟩:ak)++aH na da++⟨#[44]⟩++aH nb db).size<=102:=by rw[Vu];omega
 have a5:=λw=>Vr (P:=prog) w ⟨#[91]⟩ (aH na da) FK;have a8:=λw=>Vr (P:=prog) w (⟨#[91]⟩++aH na da) ⟨#[44]⟩ ww;have F:=λw=>Vr (P:=prog) w (⟨#[91]⟩++aH na da++⟨#[44]⟩) (aH nb db) o_;have g:=λw=>Vr (P:=prog) w (⟨#[91]⟩++aH na da++⟨#[44]⟩++aH nb db) ⟨#[93]⟩ Gm;have H1:=h_ (xO na da h2);have H2:=h_ (xO nb db h3);go_enter func131,ntmps131;go_upto_region 1 with fail
 generalize w.alloc _=W at *;have⟨aL,aZ,aa,aF,a3⟩:=kI.p4
 (refine bR k_ k_ ?_;(repeat (go_big_quiet_step ((go_at_call 168;first|with_reducible exact Calls.quiet_cls ao _ (H1.out _)|with_reducible exact Calls.quiet_cls ao _ (H2.out _)))));refine wpQuiet_nil ?_;intro w1 I)
 exact oA
def M8(na da nb db:Int)(h2:(0<=da/\da<=1000000000)/\(-1000000000<=na/\na<=1000000000))(h3:(0<=db/\db<=1000000000)/\(-1000000000<=nb/\nb<=1000000000))(w)(ht:TabI w):
 Rv 160 #[.agg #[na,da,nb,db]] w (.string (ii na da nb db)):=by
 have⟨kI,J⟩:=ay w #[na,da,nb,db] 145;unfold ii;have z1:=nK na da h2;have z2:=nK nb db h3;have u1:((⟨#[91]⟩:ak)++aH na da).size<=51:=by rw[Vu];have e:(⟨#[91]⟩:ak).size=1:=rfl;omega
 have u2:((⟨#[91]⟩:ak)++aH na da++⟨#[44]⟩).size<=52:=by rw[Vu];have e:(⟨#[44]⟩:ak).size=1:=rfl;omega
 have u3:((⟨#[91]⟩:ak)++aH na da++⟨#[44]⟩++aH nb db).size<=102:=by rw[Vu];omega
 have a5:=λw=>Vr (P:=prog) w ⟨#[91]⟩ (aH na da) FK;have a8:=λw=>Vr (P:=prog) w (⟨#[91]⟩++aH na da) ⟨#[44]⟩ ww;have F:=λw=>Vr (P:=prog) w (⟨#[91]⟩++aH na da++⟨#[44]⟩) (aH nb db) o_;have g:=λw=>Vr (P:=prog) w (⟨#[91]⟩++aH na da++⟨#[44]⟩++aH nb db) ⟨#[93]⟩ Gm;have H1:=h_ (λW ht=>wV na da h2 W ht);have H2:=h_ (λW ht=>wV nb db h3 W ht);have HW:=h_ (ht.below J);go_enter func160,ntmps160;go_upto_region 1 with fail
 generalize w.alloc _=W at *;have⟨aL,aZ,aa,aF,a3⟩:=kI.p4
 (refine bR k_ k_ ?_;(repeat (go_big_quiet_step ((go_at_call 150;first|with_reducible exact Calls.quiet_cls ao _ (H1.out _ (HW.out.below (aU.over _).below))|with_reducible exact Calls.quiet_cls ao _ (H2.out _ (HW.out.below (aU.over _).below))))));refine wpQuiet_nil ?_;intro w1 I)
 exact oA
def F5(h:P:=by have e:(⟨#[40]⟩:ak).size=1:=rfl;omega):=h
def G5(h:P:=by have e:(⟨#[41]⟩:ak).size=1:=rfl;omega):=h
def im(X Y E:Int):ak:=if E=0 then ⟨#[79]⟩ else ⟨#[40]⟩++aH X (E*E)++⟨#[44]⟩++aH Y (E*E*E)++⟨#[41]⟩
def nc(a b):(aH a b).data.toList=dr a b:=by
 unfold aH dr aC;split
 .rfl
 .simp
def qT(X Y E):(im X Y E).data.toList=iJ X Y E:=by
 unfold im iJ gJ;split
 .rfl
 .simp only[ByteArray.data_append,XX,nc,VX,Wo,WP]
def RP{A B}{p:P3}(h:cf A B p):(im p.1 p.2.1 p.2.2).size<=60:=by
 rw[Lib.size_eq,qT];rcases h with ⟨_,_,h3⟩|h
 .unfold iJ;rw[Vo h3];decide
 .exact (Ep h).2
def Do(a b)(h:bQ a b=true)(w):
 Rv 171 #[a,b] w (.string (aH a b)):=by
 have H:=h_ (ph a b h);go_enter func171,ntmps171;go_wp2_with fail
 exact aj (H.out _) λw1 I=>vW
def DP(A B X Y E)(G:cf A B (X,Y,E))(w):
 Rv 108 #[.agg #[X,Y,E]] w (.string (im X Y E)):=by
 have⟨kP,J⟩:=ay w #[X,Y,E] 46;rcases G with ⟨h1,h2,h3⟩|hf
 .simp only at h1 h2 h3;subst h1 h2 h3;go_enter func108,ntmps108;exact vJ
 .simp only at hf;have⟨h2,h3⟩:=px hf;have hE:=hf.2.1;have e2:=aN 20 20 (x:=E) (y:=E) o_ o_;have e3:=aN 400 20 (x:=E*E) (y:=E) o_ o_;have z1:=ju X (E*E) h2;have z2:=ju Y (E*E*E) h3;have u1:((⟨#[40]⟩:ak)++aH X (E*E)).size<=51:=by rw[Vu];have e:(⟨#[40]⟩:ak).size=1:=rfl;omega
  have u2:((⟨#[40]⟩:ak)++aH X (E*E)++⟨#[44]⟩).size<=52:=by rw[Vu];have e:(⟨#[44]⟩:ak).size=1:=rfl;omega
  have u3:((⟨#[40]⟩:ak)++aH X (E*E)++⟨#[44]⟩++aH Y (E*E*E)).size<=102:=by rw[Vu];omega
  have a5:=λw=>Vr (P:=prog) w ⟨#[40]⟩ (aH X (E*E)) F5;have a8:=λw=>Vr (P:=prog) w (⟨#[40]⟩++aH X (E*E)) ⟨#[44]⟩ ww;have F:=λw=>Vr (P:=prog) w (⟨#[40]⟩++aH X (E*E)++⟨#[44]⟩) (aH Y (E*E*E)) o_;have g:=λw=>Vr (P:=prog) w (⟨#[40]⟩++aH X (E*E)++⟨#[44]⟩++aH Y (E*E*E)) ⟨#[41]⟩ G5;have hV:im X Y E=⟨#[40]⟩++aH X (E*E)++⟨#[44]⟩++aH Y (E*E*E)++⟨#[41]⟩:=Vm o_;have Z:(E==0)=false:=u_;rw[hV];go_enter func108,ntmps108;go_upto_region 1 with fail
  generalize w.alloc _=W at *;have⟨bY,bZ,bX,b0⟩:=kP.p3;go_wp2
  (refine bR k_ k_ ?_;(repeat (go_big_quiet_step ((go_at_call 171;first|with_reducible exact Calls.quiet_cls ao _ ((h_ (Do X (E*E) h2)).out _)|with_reducible exact Calls.quiet_cls ao _ ((h_ (Do Y (E*E*E) h3)).out _)))));refine wpQuiet_nil ?_;intro w1 I)
  exact oA
def BO(A B X Y E)(G:cf A B (X,Y,E))(w)(ht:TabI w):
 Rv 139 #[.agg #[X,Y,E]] w (.string (im X Y E)):=by
 have⟨kP,J⟩:=ay w #[X,Y,E] 46;rcases G with ⟨h1,h2,h3⟩|hf
 .simp only at h1 h2 h3;subst h1 h2 h3;go_enter func139,ntmps139;exact vJ
 .simp only at hf;have⟨h2,h3⟩:=px hf;have hE:=hf.2.1;have e2:=aN 20 20 (x:=E) (y:=E) o_ o_;have e3:=aN 400 20 (x:=E*E) (y:=E) o_ o_;have z1:=ju X (E*E) h2;have z2:=ju Y (E*E*E) h3;have u1:((⟨#[40]⟩:ak)++aH X (E*E)).size<=51:=by rw[Vu];have e:(⟨#[40]⟩:ak).size=1:=rfl;omega
  have u2:((⟨#[40]⟩:ak)++aH X (E*E)++⟨#[44]⟩).size<=52:=by rw[Vu];have e:(⟨#[44]⟩:ak).size=1:=rfl;omega
  have u3:((⟨#[40]⟩:ak)++aH X (E*E)++⟨#[44]⟩++aH Y (E*E*E)).size<=102:=by rw[Vu];omega
  have a5:=λw=>Vr (P:=prog) w ⟨#[40]⟩ (aH X (E*E)) F5;have a8:=λw=>Vr (P:=prog) w (⟨#[40]⟩++aH X (E*E)) ⟨#[44]⟩ ww;have F:=λw=>Vr (P:=prog) w (⟨#[40]⟩++aH X (E*E)++⟨#[44]⟩) (aH Y (E*E*E)) o_;have g:=λw=>Vr (P:=prog) w (⟨#[40]⟩++aH X (E*E)++⟨#[44]⟩++aH Y (E*E*E)) ⟨#[41]⟩ G5;have hV:im X Y E=⟨#[40]⟩++aH X (E*E)++⟨#[44]⟩++aH Y (E*E*E)++⟨#[41]⟩:=Vm o_;have Z:(E==0)=false:=u_;rw[hV];have HW:=h_ (ht.below J);go_enter func139,ntmps139;go_upto_region 1 with fail
  generalize w.alloc _=W at *;have⟨bY,bZ,bX,b0⟩:=kP.p3;go_wp2
  (refine bR k_ k_ ?_;(repeat (go_big_quiet_step ((go_at_call 150;first|with_reducible exact Calls.quiet_cls ao _ ((h_ (λW ht=>qw X (E*E) h2 W ht)).out _ (HW.out.below (aU.over _).below))|with_reducible exact Calls.quiet_cls ao _ ((h_ (λW ht=>qw Y (E*E*E) h3 W ht)).out _ (HW.out.below (aU.over _).below))))));refine wpQuiet_nil ?_;intro w1 I)
  exact oA
end Go.Proofs.YtaamhakdhaolmaaGreatDoor
