/- Part 27. -/
import Derived.Test.YtaamhakdhaolmaaGreatDoorAaq
import Derived.Test.YtaamhakdhaolmaaGreatDoorAas
import Derived.Test.YtaamhakdhaolmaaGreatDoorAay
namespace Go.Proofs.YtaamhakdhaolmaaGreatDoor
open Go.RowKit
set_option maxHeartbeats 8000000
set_option maxRecDepth 100000
variable {P:Prop}
set_option linter.all false
def G2(h:P:=by simp [results,Tryz.results216,go_sem,q0,q1,q2,q3]):=h
def EZ(h:P:=by have e:(⟨#[91]⟩:aj).size=1:=rfl;omega):=h
def FG(h:P:=by have e:(⟨#[93]⟩:aj).size=1:=rfl;omega):=h
def dr(a:Int):Int:=bc a 4096
def cK(a:Int):Int:=aN a 4096
def pN{a}(ha:-409600000<=a/\a<=409600000):jA a 4096=true/\bJ (dr a) (cK a)=true/\(1<=cK a/\cK a<=4096)/\(4096:Int).tmod (cK a)=0/\dr a*(4096:Int).tdiv (cK a)=a:=by
 have hg:bE a 4096=ar a 4096:=by unfold bE;rw[Uj o_]
 have⟨g0,H,F⟩:=qX (n:=a) (d:=4096) o_;have G:=lj (n:=a) (d:=4096) o_;have⟨b1,b2⟩:=py a 4096;have hc:=qW (n:=a) (d:=4096) o_;have hf:bJ (bc a 4096) (aN a 4096)=true:=by
  unfold bJ;rw[gc o_ o_,gc o_ o_,hc];rfl
 refine⟨by unfold jA ks;rw[hf];rfl,hf,⟨G,by show aN a 4096<=4096;omega⟩,?_,?_⟩
 .show (4096:Int).tmod (aN a 4096)=0;generalize bE a 4096=g,aN a 4096=d at *;rw[F];exact Int.mul_tmod_left _ _
 .show bc a 4096*(4096:Int).tdiv (aN a 4096)=a;generalize bE a 4096=g,aN a 4096=d,bc a 4096=n at *;have e:(4096:Int).tdiv d=g:=by rw[F];exact Int.mul_tdiv_cancel _ o_
  rw[e,Vm];exact H.symm
def gM(a b:Int):Bool:=decide (a<=b)&&decide (-409600000<=a)&&decide (b<=409600000)
def jB(a b:Int):Value:=.agg #[dr a,cK a,dr b,cK b]
def sq:Value:=.agg #[(),(),(),()]
def SU{a}(ha:-409600000<=a/\a<=409600000):-409600000<=dr a/\dr a<=409600000:=by
 have:=(py a 4096).1;unfold dr;omega
def Nk(a b:Int)(w):
 Rv 270 #[.agg #[a,b]] w (.bool (gM a b)):=by
 unfold gM;by_cases h1:a<=b
 .by_cases h2:-409600000<=a
  .by_cases h3:b<=409600000
   all_goals
    go_enter Tryz.func270,Tryz.ntmps270;go_wp2;go_ret;refine⟨by simp [h1,h2,h3],?_⟩;exact z_
  .go_enter Tryz.func270,Tryz.ntmps270;go_wp2;go_ret;refine⟨by simp [h1,h2];omega,?_⟩;exact z_
 .go_enter Tryz.func270,Tryz.ntmps270;go_wp2;go_ret;refine⟨by simp [h1];omega,?_⟩;exact z_
def Ma(a b)(h:gM a b=true)(w):
 Rv 216 #[.agg #[a,b],true] w (.tuple #[jB a b,true]):=by
 have b2:=by unfold gM at h;simpa[XO] using h
 have HV:=λW=>Nk a b W;rw[h] at HV;have h1:=λW=>qj a 4096 o_ o_ o_ W;have h2:=λW=>qj b 4096 o_ o_ o_ W;rw[(pN (a:=a) o_).1] at h1;rw[(pN (a:=b) o_).1] at h2;have HA:=h_ h1;have HB:=h_ h2;have⟨kS,V,J⟩:=cr w #[a,b] 196 #[(),(),(),()] 145;unfold jB dr cK;simp only[gN,Vo] at HA HB;generalize bc a 4096=na,aN a 4096=da,bc b 4096=nb,aN b 4096=db at *;go_enter Tryz.func216,Tryz.ntmps216;go_upto_region 1 with fail
 generalize (w.alloc _).alloc _=W at *;have⟨a8,aZ⟩:=kS.q2;have cz:=kS.lt;go_wp2_with fail
 refine ai ((h_ HV).out W) λw1 I=>?_;have H:=af I J.size J;replace kS:=kS.next I
 replace V:=V.next I
 have⟨a8,aZ⟩:=kS.q2;have cz:=kS.lt;go_wp2_with fail
 refine ai (HA.out w1) λw2 U=>?_;have az:=af U H.size H;have⟨kA,ab⟩:=aw w2 #[na,da] 96;have aG:=af ab az.size az;replace kS:=(kS.next U).next ab
 replace V:=(V.next U).next ab
 go_upto_region 4 with fail
 generalize w2.alloc _=W3,w2.heap.size=rA at *;have⟨a8,aZ⟩:=kS.q2;have cz:=kS.lt;go_wp2_with fail
 refine ai (HB.out W3) λw4 K=>?_;have g:=af K aG.size aG;have⟨kB,ab⟩:=aw w4 #[nb,db] 96;have Z:=af ab g.size g;replace kA:=(kA.next K).next ab
 replace V:=(V.next K).next ab
 go_upto_region 5 with fail
 generalize w4.alloc _=W5,w4.heap.size=rB at *;have⟨bs,ba⟩:=kA.q2;have⟨bb,bo⟩:=kB.q2;have⟨bz,b1,b3,ca⟩:=V.q4;have aM:=V.frozen 0;have a1:=V.frozen 1;have a9:=V.frozen 2;have b9:=V.frozen 3;have k9:=(((V.set 0 na).set 1 da).set 2 nb).set 3 db;have ad:=(((Z.setCell (p:=⟨w.heap.size+1,0,none⟩) s_ na).setCell (p:=⟨w.heap.size+1,1,none⟩) s_ da).setCell (p:=⟨w.heap.size+1,2,none⟩) s_ nb).setCell (p:=⟨w.heap.size+1,3,none⟩) s_ db;go_wp2;generalize World.setCell _ _ _=w9 at ad k9 ⊢;have⟨q0,q1,q2,q3⟩:=k9.q4;exact Uh (v:=.tuple #[.agg #[na,da,nb,db],true]) G2 rfl ⟨rfl,ad⟩
def NR(a b:Int)(w):
 Rv 216 #[.agg #[a,b],false] w (.tuple #[sq,false]):=by
 unfold sq;obtain⟨-,V,J⟩:=cr w #[a,b] 196 #[(),(),(),()] 145;go_enter Tryz.func216,Tryz.ntmps216;go_upto_region 1 with fail
 generalize (w.alloc _).alloc _=W at *;have⟨bz,b1,b3,ca⟩:=V.q4;have aM:=V.frozen 0;have a1:=V.frozen 1;have a9:=V.frozen 2;have b9:=V.frozen 3;have k9:=(((V.set 0 ()).set 1 ()).set 2 ()).set 3 ();have ad:=(((J.setCell (p:=⟨w.heap.size+1,0,none⟩) s_ ()).setCell (p:=⟨w.heap.size+1,1,none⟩) s_ ()).setCell (p:=⟨w.heap.size+1,2,none⟩) s_ ()).setCell (p:=⟨w.heap.size+1,3,none⟩) s_ ();go_wp2;generalize World.setCell _ _ _=w9 at ad k9 ⊢;have⟨q0,q1,q2,q3⟩:=k9.q4;exact Uh (v:=.tuple #[.agg #[(),(),(),()],false]) G2 rfl ⟨rfl,ad⟩
def Cr(a)(ha:-409600000<=a/\a<=409600000)(w):
 Rv 351 #[.agg #[dr a,cK a]] w (.tuple #[a,true]):=by
 have⟨_,hf,hd,hm,hv⟩:=pN ha;have hn:=SU ha;have HF:=λW=>mS (dr a) (cK a) W;rw[hf] at HF;have HI:=λW=>cw a (-409600000) 409600000 W;rw[gc ha.1 ha.2] at HI;have⟨kF,J⟩:=aw w #[dr a,cK a] 96;have hq:0<=(4096:Int).tdiv (cK a)/\(4096:Int).tdiv (cK a)<=4096:=by
  have h1:=mJ 4096 (cK a);have h2:0<=(4096:Int).tdiv (cK a):=Int.tdiv_nonneg o_ o_;omega
 generalize dr a=n,cK a=d at *;have g:(4096:Int) % d=0:=by rw[<-Vv o_];exact hm
 have ed:(4096:Int).tdiv d=4096 / d:=VP o_;rw[ed] at hv hq;have a8:¬d=0:=o_;go_enter Tryz.func351,Tryz.ntmps351;go_upto_region 1 with fail
 generalize w.alloc _=W at *;have⟨F,Z⟩:=kF.q2;have aL:=kF.lt;go_wp2_with fail
 refine ai ((h_ HF).out W) λw1 I=>?_;have H:=af I J.size J;replace kF:=kF.next I
 have⟨F,Z⟩:=kF.q2;have aL:=kF.lt;go_wp2
 (refine bP k_ k_ ?_;(repeat (go_big_quiet_step (fail)));refine wpQuiet_nil ?_;intro w2 U)
 go_wp2_with ((go_at_call 104;refine ay ((h_ HI).out _) ?_))
 go_ret2;exact⟨rfl,af U H.size H⟩
def Q7(a b)(h:gM a b=true)(w):
 Rv 324 #[jB a b] w true:=by
 have b2:=by unfold gM at h;simpa[XO] using h
 have HA:=h_ (Cr a o_);have HB:=h_ (Cr b o_);unfold jB;have⟨kI,J⟩:=aw w #[dr a,cK a,dr b,cK b] 145;generalize dr a=na,cK a=da,dr b=nb,cK b=db at *;have cm:=b2.1;go_enter Tryz.func324,Tryz.ntmps324;go_upto_region 1 with fail
 generalize w.alloc _=W at *;have⟨ac,ae,F,G⟩:=kI.q4;have ax:=kI.lt;go_wp2_with fail
 refine ai (HA.out W) λw1 I=>?_;have H:=af I J.size J;replace kI:=kI.next I
 have⟨_,_,F,G⟩:=kI.q4;go_wp2_with fail
 refine ai (HB.out w1) λw2 U=>?_;go_wp2;go_ret;refine⟨by simp [cm],(af U H.size H)⟩
def Qn(a b)(h:gM a b=true)(w):
 Rv 285 #[a,b] w (.tuple #[jB a b,true]):=by
 have b2:=by unfold gM at h;simpa[XO] using h
 have h1:=λW=>qD a 4096 o_ o_ W;have h2:=λW=>qD b 4096 o_ o_ W;rw[(pN (a:=a) o_).1] at h1;rw[(pN (a:=b) o_).1] at h2;have HA:=h_ h1;have HB:=h_ h2;have HG:=h_ (Q7 a b h);have⟨V,J⟩:=aw w #[(),(),(),()] 145;unfold jB dr cK at *;simp only[gN,Vo] at HA HB;generalize bc a 4096=na,aN a 4096=da,bc b 4096=nb,aN b 4096=db at *;go_enter Tryz.func285,Tryz.ntmps285;go_upto_region 1 with fail
 generalize w.alloc _=W at *;go_wp2_with fail
 refine ai (HA.out W) λw2 U=>?_;have az:=af U J.size J;have⟨kA,ab⟩:=aw w2 #[na,da] 96;have aG:=af ab az.size az;replace V:=(V.next U).next ab
 go_upto_region 2 with fail
 generalize w2.alloc _=W3,w2.heap.size=rA at *;go_wp2_with fail
 refine ai (HB.out W3) λw4 K=>?_;have g:=af K aG.size aG;have⟨kB,ab⟩:=aw w4 #[nb,db] 96;have Z:=af ab g.size g;replace kA:=(kA.next K).next ab
 replace V:=(V.next K).next ab
 go_upto_region 3 with fail
 generalize w4.alloc _=W5,w4.heap.size=rB at *;have⟨bs,ba⟩:=kA.q2;have bq:=kA.lt;have⟨bb,bo⟩:=kB.q2;have bZ:=kB.lt;have⟨kI,ab⟩:=aw W5 #[na,da,nb,db] 145;have aa:=af ab Z.size Z;replace V:=V.next ab
 go_upto_region 4 with fail
 generalize W5.alloc _=W6,W5.heap.size=H at *;have⟨ac,ae,F,G⟩:=kI.q4;have ax:=kI.lt;go_wp2_with fail
 refine ai (HG.out W6) λw7 a7=>?_;have aZ:=af a7 aa.size aa;replace kI:=kI.next a7
 replace V:=V.next a7
 have⟨ac,ae,F,G⟩:=kI.q4;have⟨bz,b1,b3,ca⟩:=V.q4;have aM:=V.frozen 0;have a1:=V.frozen 1;have a9:=V.frozen 2;have b9:=V.frozen 3;have k9:=(((V.set 0 na).set 1 da).set 2 nb).set 3 db;have ad:=(((aZ.setCell (p:=w) s_ na).setCell (p:=⟨w,1,none⟩) s_ da).setCell (p:=⟨w,2,none⟩) s_ nb).setCell (p:=⟨w,3,none⟩) s_ db;go_wp2;generalize World.setCell _ _ _=w9 at ad k9 ⊢;have⟨q0,q1,q2,q3⟩:=k9.q4;exact Uh (v:=.tuple #[.agg #[na,da,nb,db],true]) (by simp [results,Tryz.results285,go_sem,q0,q1,q2,q3]) rfl ⟨rfl,ad⟩
def gP(na da nb db:Int):aj:=⟨#[91]⟩++aE na da++⟨#[44]⟩++aE nb db++⟨#[93]⟩
def En{a}(ha:-409600000<=a/\a<=409600000):(0<=cK a/\cK a<=1000000000)/\(-1000000000<=dr a/\dr a<=1000000000):=tF (pN ha).2.1
def Q9(na da nb db)(h2:(0<=da/\da<=1000000000)/\(-1000000000<=na/\na<=1000000000))(h3:(0<=db/\db<=1000000000)/\(-1000000000<=nb/\nb<=1000000000)):(gP na da nb db).size<=103:=by
 have z1:=nu na da h2;have z2:=nu nb db h3;have e1:(⟨#[91]⟩:aj).size=1:=rfl;have e2:(⟨#[44]⟩:aj).size=1:=rfl;have e3:(⟨#[93]⟩:aj).size=1:=rfl;unfold gP;exact vu
def QT(na da nb db:Int)(h2:(0<=da/\da<=1000000000)/\(-1000000000<=na/\na<=1000000000))(h3:(0<=db/\db<=1000000000)/\(-1000000000<=nb/\nb<=1000000000))(w):
 Rv 131 #[.agg #[na,da,nb,db]] w (.string (gP na da nb db)):=by
 have⟨kI,J⟩:=aw w #[na,da,nb,db] 145;unfold gP;have z1:=nu na da h2;have z2:=nu nb db h3;have u1:((⟨#[91]⟩:aj)++aE na da).size<=51:=by rw[Uu];have e:(⟨#[91]⟩:aj).size=1:=rfl;omega
 have u2:((⟨#[91]⟩:aj)++aE na da++⟨#[44]⟩).size<=52:=by rw[Uu];have e:(⟨#[44]⟩:aj).size=1:=rfl;omega
 have u3:((⟨#[91]⟩:aj)++aE na da++⟨#[44]⟩++aE nb db).size<=102:=by rw[Uu];omega
 have a5:=λw=>Up (P:=Tryz.prog) w ⟨#[91]⟩ (aE na da) EZ;have ba:=λw=>Up (P:=Tryz.prog) w (⟨#[91]⟩++aE na da) ⟨#[44]⟩ vQ;have H:=λw=>Up (P:=Tryz.prog) w (⟨#[91]⟩++aE na da++⟨#[44]⟩) (aE nb db) o_;have g:=λw=>Up (P:=Tryz.prog) w (⟨#[91]⟩++aE na da++⟨#[44]⟩++aE nb db) ⟨#[93]⟩ FG;have H1:=h_ (xh na da h2);have H2:=h_ (xh nb db h3);go_enter Tryz.func131,Tryz.ntmps131;go_upto_region 1 with fail
 generalize w.alloc _=W at *;have⟨ac,ae,F,G⟩:=kI.q4;have ax:=kI.lt
 (refine bP k_ k_ ?_;(repeat (go_big_quiet_step ((go_at_call 168;first|with_reducible exact Calls.quiet_cls an _ (H1.out _)|with_reducible exact Calls.quiet_cls an _ (H2.out _)))));refine wpQuiet_nil ?_;intro w1 I)
 exact nY
def Mh(na da nb db:Int)(h2:(0<=da/\da<=1000000000)/\(-1000000000<=na/\na<=1000000000))(h3:(0<=db/\db<=1000000000)/\(-1000000000<=nb/\nb<=1000000000))(w)(ht:TabI w):
 Rv 160 #[.agg #[na,da,nb,db]] w (.string (gP na da nb db)):=by
 have⟨kI,J⟩:=aw w #[na,da,nb,db] 145;unfold gP;have z1:=nu na da h2;have z2:=nu nb db h3;have u1:((⟨#[91]⟩:aj)++aE na da).size<=51:=by rw[Uu];have e:(⟨#[91]⟩:aj).size=1:=rfl;omega
 have u2:((⟨#[91]⟩:aj)++aE na da++⟨#[44]⟩).size<=52:=by rw[Uu];have e:(⟨#[44]⟩:aj).size=1:=rfl;omega
 have u3:((⟨#[91]⟩:aj)++aE na da++⟨#[44]⟩++aE nb db).size<=102:=by rw[Uu];omega
 have a5:=λw=>Up (P:=Tryz.prog) w ⟨#[91]⟩ (aE na da) EZ;have ba:=λw=>Up (P:=Tryz.prog) w (⟨#[91]⟩++aE na da) ⟨#[44]⟩ vQ;have H:=λw=>Up (P:=Tryz.prog) w (⟨#[91]⟩++aE na da++⟨#[44]⟩) (aE nb db) o_;have g:=λw=>Up (P:=Tryz.prog) w (⟨#[91]⟩++aE na da++⟨#[44]⟩++aE nb db) ⟨#[93]⟩ FG;have H1:=h_ (λW ht=>wq na da h2 W ht);have H2:=h_ (λW ht=>wq nb db h3 W ht);have HW:=h_ (ht.below J);go_enter Tryz.func160,Tryz.ntmps160;go_upto_region 1 with fail
 generalize w.alloc _=W at *;have⟨ac,ae,F,G⟩:=kI.q4;have ax:=kI.lt
 (refine bP k_ k_ ?_;(repeat (go_big_quiet_step ((go_at_call 150;first|with_reducible exact Calls.quiet_cls an _ (H1.out _ (HW.out.below (aU.over _).below))|with_reducible exact Calls.quiet_cls an _ (H2.out _ (HW.out.below (aU.over _).below))))));refine wpQuiet_nil ?_;intro w1 I)
 exact nY
def Fn(h:P:=by have e:(⟨#[40]⟩:aj).size=1:=rfl;omega):=h
def Gn(h:P:=by have e:(⟨#[41]⟩:aj).size=1:=rfl;omega):=h
def gT(X Y E:Int):aj:=if E=0 then ⟨#[79]⟩ else ⟨#[40]⟩++aE X (E*E)++⟨#[44]⟩++aE Y (E*E*E)++⟨#[41]⟩
def mQ(a b):(aE a b).data.toList=cW a b:=by
 unfold aE cW aC;split
 .rfl
 .simp
def qz(X Y E):(gT X Y E).data.toList=it X Y E:=by
 unfold gT it gw;split
 .rfl
 .simp only[ByteArray.data_append,Array.toList_append,mQ,U5,V3,VA]
def QW{A B}{p:P3}(h:bW A B p):(gT p.1 p.2.1 p.2.2).size<=60:=by
 rw[Lib.size_eq,qz];rcases h with ⟨_,_,h3⟩|h
 .unfold it;rw[Um h3];decide
 .exact (DK h).2
def CN(a b)(h:bJ a b=true)(w):
 Rv 171 #[a,b] w (.string (aE a b)):=by
 have H:=h_ (oV a b h);go_enter Tryz.func171,Tryz.ntmps171;go_wp2_with fail
 exact ai (H.out _) λw1 I=>vv
def De(A B X Y E)(G:bW A B (X,Y,E))(w):
 Rv 108 #[.agg #[X,Y,E]] w (.string (gT X Y E)):=by
 have⟨kP,J⟩:=aw w #[X,Y,E] 46;rcases G with ⟨h1,h2,h3⟩|hf
 .simp only at h1 h2 h3;subst h1 h2 h3;go_enter Tryz.func108,Tryz.ntmps108;exact ve
 .simp only at hf;have⟨h2,h3⟩:=pi hf;have hE:=hf.2.1;have e2:=aJ 20 20 (x:=E) (y:=E) o_ o_;have e3:=aJ 400 20 (x:=E*E) (y:=E) o_ o_;have z1:=jg X (E*E) h2;have z2:=jg Y (E*E*E) h3;have u1:((⟨#[40]⟩:aj)++aE X (E*E)).size<=51:=by rw[Uu];have e:(⟨#[40]⟩:aj).size=1:=rfl;omega
  have u2:((⟨#[40]⟩:aj)++aE X (E*E)++⟨#[44]⟩).size<=52:=by rw[Uu];have e:(⟨#[44]⟩:aj).size=1:=rfl;omega
  have u3:((⟨#[40]⟩:aj)++aE X (E*E)++⟨#[44]⟩++aE Y (E*E*E)).size<=102:=by rw[Uu];omega
  have a5:=λw=>Up (P:=Tryz.prog) w ⟨#[40]⟩ (aE X (E*E)) Fn;have ba:=λw=>Up (P:=Tryz.prog) w (⟨#[40]⟩++aE X (E*E)) ⟨#[44]⟩ vQ;have H:=λw=>Up (P:=Tryz.prog) w (⟨#[40]⟩++aE X (E*E)++⟨#[44]⟩) (aE Y (E*E*E)) o_;have g:=λw=>Up (P:=Tryz.prog) w (⟨#[40]⟩++aE X (E*E)++⟨#[44]⟩++aE Y (E*E*E)) ⟨#[41]⟩ Gn;have hV:gT X Y E=⟨#[40]⟩++aE X (E*E)++⟨#[44]⟩++aE Y (E*E*E)++⟨#[41]⟩:=Uj o_;have ae:(E==0)=false:=u_;rw[hV];go_enter Tryz.func108,Tryz.ntmps108;go_upto_region 1 with fail
  generalize w.alloc _=W at *;have⟨bY,bZ,bX⟩:=kP.q3;have b0:=kP.lt;go_wp2
  (refine bP k_ k_ ?_;(repeat (go_big_quiet_step ((go_at_call 171;first|with_reducible exact Calls.quiet_cls an _ ((h_ (CN X (E*E) h2)).out _)|with_reducible exact Calls.quiet_cls an _ ((h_ (CN Y (E*E*E) h3)).out _)))));refine wpQuiet_nil ?_;intro w1 I)
  exact nY
def Bj(A B X Y E)(G:bW A B (X,Y,E))(w)(ht:TabI w):
 Rv 139 #[.agg #[X,Y,E]] w (.string (gT X Y E)):=by
 have⟨kP,J⟩:=aw w #[X,Y,E] 46;rcases G with ⟨h1,h2,h3⟩|hf
 .simp only at h1 h2 h3;subst h1 h2 h3;go_enter Tryz.func139,Tryz.ntmps139;exact ve
 .simp only at hf;have⟨h2,h3⟩:=pi hf;have hE:=hf.2.1;have e2:=aJ 20 20 (x:=E) (y:=E) o_ o_;have e3:=aJ 400 20 (x:=E*E) (y:=E) o_ o_;have z1:=jg X (E*E) h2;have z2:=jg Y (E*E*E) h3;have u1:((⟨#[40]⟩:aj)++aE X (E*E)).size<=51:=by rw[Uu];have e:(⟨#[40]⟩:aj).size=1:=rfl;omega
  have u2:((⟨#[40]⟩:aj)++aE X (E*E)++⟨#[44]⟩).size<=52:=by rw[Uu];have e:(⟨#[44]⟩:aj).size=1:=rfl;omega
  have u3:((⟨#[40]⟩:aj)++aE X (E*E)++⟨#[44]⟩++aE Y (E*E*E)).size<=102:=by rw[Uu];omega
  have a5:=λw=>Up (P:=Tryz.prog) w ⟨#[40]⟩ (aE X (E*E)) Fn;have ba:=λw=>Up (P:=Tryz.prog) w (⟨#[40]⟩++aE X (E*E)) ⟨#[44]⟩ vQ;have H:=λw=>Up (P:=Tryz.prog) w (⟨#[40]⟩++aE X (E*E)++⟨#[44]⟩) (aE Y (E*E*E)) o_;have g:=λw=>Up (P:=Tryz.prog) w (⟨#[40]⟩++aE X (E*E)++⟨#[44]⟩++aE Y (E*E*E)) ⟨#[41]⟩ Gn;have hV:gT X Y E=⟨#[40]⟩++aE X (E*E)++⟨#[44]⟩++aE Y (E*E*E)++⟨#[41]⟩:=Uj o_;have ae:(E==0)=false:=u_;rw[hV];have HW:=h_ (ht.below J);go_enter Tryz.func139,Tryz.ntmps139;go_upto_region 1 with fail
  generalize w.alloc _=W at *;have⟨bY,bZ,bX⟩:=kP.q3;have b0:=kP.lt;go_wp2
  (refine bP k_ k_ ?_;(repeat (go_big_quiet_step ((go_at_call 150;first|with_reducible exact Calls.quiet_cls an _ ((h_ (λW ht=>qh X (E*E) h2 W ht)).out _ (HW.out.below (aU.over _).below))|with_reducible exact Calls.quiet_cls an _ ((h_ (λW ht=>qh Y (E*E*E) h3 W ht)).out _ (HW.out.below (aU.over _).below))))));refine wpQuiet_nil ?_;intro w1 I)
  exact nY
end Go.Proofs.YtaamhakdhaolmaaGreatDoor
