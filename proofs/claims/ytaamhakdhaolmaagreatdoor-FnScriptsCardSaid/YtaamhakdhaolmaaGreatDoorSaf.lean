/- Part 5. -/
import Derived.Test.YtaamhakdhaolmaaGreatDoorSab
import Derived.Test.YtaamhakdhaolmaaGreatDoorSae
namespace Go.Proofs.YtaamhakdhaolmaaGreatDoor
open Go.RowKit Go.Proofs.Tryz
set_option maxHeartbeats 8000000
set_option maxRecDepth 100000
variable {P:Prop}
set_option linter.all false
def RdB(w:World)(B:Nat)(v:Value)(xs:List Int):Prop:=∃(a:ck) (F:Nat),v=.slice a xs.length F/\xs.length<=maxLen/\
 ∀i (_:i<xs.length),∃g o,a=some ⟨g,o,none⟩/\w.cell? ⟨g,o+i,none⟩=some (.int .u8 xs[i])/\0<=xs[i]/\xs[i]<=255/\g<B
def RdB.over{w w1}{B k}{v}{xs}(h:RdB w B v xs)(Z:ai [k] w w1)(hB:B<=w.heap.size)(hk:B<=k):RdB w1 B v xs:=by
 have⟨a,F,hv,hm,hc⟩:=h;refine⟨a,F,hv,hm,λi hi=>?_⟩;have⟨g,o,ha,h1,h2,h3,h4⟩:=hc i hi;refine⟨g,o,ha,(Z.cell (p:=⟨g,o+i,none⟩) (Vp h4 hB) ?_).trans h1,h2,h3,h4⟩;simp;omega
def RdB.below{w w1}{B}{v}{xs}(h:RdB w B v xs)(hb:af w w w1)(hB:B<=w.heap.size):RdB w1 B v xs:=by
 have⟨a,F,hv,hm,hc⟩:=h;refine⟨a,F,hv,hm,λi hi=>?_⟩;have⟨g,o,ha,h1,h2,h3,h4⟩:=hc i hi;exact⟨g,o,ha,(hb.cell (p:=⟨g,o+i,none⟩) (Vp h4 hB)).trans h1,h2,h3,h4⟩
def RdB.mono{w}{B B'}{v}{xs}(h:RdB w B v xs)(hB:B<=B'):RdB w B' v xs:=by
 have⟨a,F,hv,hm,hc⟩:=h;refine⟨a,F,hv,hm,λi hi=>?_⟩;have⟨g,o,ha,h1,h2,h3,h4⟩:=hc i hi;exact⟨g,o,ha,h1,h2,h3,Vp h4 hB⟩
def RdB.later{w w1}{v}{xs}(h:RdB w w v xs)(hb:af w w w1):RdB w1 w1 v xs:=(h.below hb (Vj _)).mono hb.size
def ib(B k:Nat)(v:Value)(xs:List Int)(n:Nat)(w:World):Prop:=B<=k/\k<w.heap.size/\RdB w B v xs/\∃(a:Nat) (s:Int),a<=n/\0<=s/\s<18446744073709551616/\ah k #[v,a,.int .u64 s] 74 w
def ib.below{B k n}{v}{xs}{w w1}(h:ib B k v xs n w)(hb:af w w w1):ib B k v xs n w1:=by
 have⟨h1,h2,h3,a,s,h4,h5,h6,h7⟩:=h;exact⟨h1,Vp h2 hb.size,h3.below hb o_,a,s,h4,h5,h6,h7.next hb⟩
def ib.le{B k n m}{v}{xs}{w}(h:ib B k v xs n w)(hm:n<=m):ib B k v xs m w:=by
 have⟨h1,h2,h3,a,s,h4,h5,h6,h7⟩:=h;exact⟨h1,h2,h3,a,s,Vl h4 hm,h5,h6,h7⟩
def RJ(x:Int):0<=x % 18446744073709551616/\x % 18446744073709551616<18446744073709551616:=⟨VS _ d_,VN _ d_⟩
def D_(z):0<=IntKind.u64.wrap z/\IntKind.u64.wrap z<18446744073709551616:=by
 have h:IntKind.u64.wrap z=z % 18446744073709551616:=by rfl
 rw[h];exact RJ z
def Tz(z)(h0:0<=z)(h1:z<18446744073709551616):0<=bits BinOp.and IntKind.u64 z 255/\bits BinOp.and IntKind.u64 z 255<=255:=by
 have h:=bits_and_u64_nat z.toNat 255 o_ o_;rw[Int.toNat_of_nonneg h0] at h;have h2:z.toNat&&& 255<=255:=Nat.and_le_right;have h3:bits BinOp.and IntKind.u64 z 255=((z.toNat&&& 255:Nat):Int):=h;omega
def Ec(B k:Nat)(v:Value)(xs:List Int)(n:Nat)(lo hi:Int)(w:World)(e:Ending)(w':World):Prop:=
 ∃b:Int,e=.returned b/\lo<=b/\b<=hi/\ib B k v xs n w'/\ai [k] w w'
def Ua(B k)(v)(xs)(n)(hn:n<=1000000)(w)(hc:ib B k v xs n w):
 Kp 56 #[.pointer k] w (Ec B k v xs (n+1) 0 255 w):=by
 have⟨hB,G,hR,a,s,ha,_,_,hk⟩:=hc;have hR':=hR;have⟨sa,F,hv,_,H⟩:=hR;by_cases aG:a<xs.length
 .obtain⟨g,o,rfl,hx,aX,b7,hg⟩:=H a aG;subst hv;generalize xs[a]=x at hx aX b7;have aM:(0:Int)<=(a:Int):=o_;have aL:(a:Int)<(xs.length:Int):=o_;go_enter func56,ntmps56;go_wp2;have bq:g<w.heap.size:=o_;have⟨c0,c1⟩:=hk.q2
  (refine bR k_ k_ ?_;(repeat (go_big_quiet_step (fail)));refine wpQuiet_nil ?_;intro w1 I;obtain⟨aZ,a6⟩:=bu I;have ac:=I.size;(try simp only[VG] at ac))
  have k1:=hk.next I
  have⟨d0,d1⟩:=k1.q2;have dx:=(aZ g (o+a) bq).trans hx;have hgl1:g<w1.heap.size:=o_;have hlk1:k<w1.heap.size:=o_;go_wp2
  (refine bR k_ k_ ?_;(repeat (go_big_quiet_step (fail)));refine wpQuiet_nil ?_;intro w2 U;obtain⟨bb,ab⟩:=bu U;have ba:=U.size;(try simp only[VG] at ba))
  have k2:=k1.next U
  have⟨e0,e1,e2⟩:=k2.q3;have f1:=k2.frozen 1;have f2:=k2.frozen 2;clear d0 d1 dx bb ab;go_wp2;have hS:=D_ (IntKind.u64.wrap (IntKind.u64.wrap (s*6364136223846793005)+x)+1442695040888963407);generalize IntKind.u64.wrap (_+1442695040888963407)=s1 at hS ⊢;have J:=(k2.set 1 (.int .i64 ((a:Int)+1))).set 2 (.int .u64 s1);have o3:ai [k] w2 ((w2.setCell ⟨k,1,none⟩ (.int .i64 ((a:Int)+1))).setCell ⟨k,2,none⟩ (.int .u64 s1)):=((ai.refl _ _).setCell (.inr s_) _).setCell (.inr s_) _;generalize (w2.setCell _ _).setCell _ _=w3 at J o3 ⊢;have l3:=o3.size;have hlk3:k<w3.heap.size:=o_;have⟨g0,g1⟩:=J.q2
  (refine bR k_ k_ ?_;(repeat (go_big_quiet_step (fail)));refine wpQuiet_nil ?_;intro w4 K;obtain⟨aa,V⟩:=bu K;have b9:=K.size;(try simp only[VG] at b9))
  have k4:=J.next K
  have o4:=((ai.of_below I).trans (.of_below U)).trans (o3.trans (.of_below K));have r4:=RdB.over hR' o4 o_ hB;go_wp2;go_ret;exact⟨x,rfl,aX,b7,⟨hB,o_,r4,a+1,s1,o_,hS.1,hS.2,by simpa using k4⟩,o4⟩
 .subst hv;go_enter func56,ntmps56;go_wp2;have⟨c0,c1⟩:=hk.q2
  (refine bR k_ k_ ?_;(repeat (go_big_quiet_step (fail)));refine wpQuiet_nil ?_;intro w1 I;obtain⟨aZ,a6⟩:=bu I;have ac:=I.size;(try simp only[VG] at ac))
  have k1:=hk.next I
  have⟨d0,d1,d2⟩:=k1.q3;have f1:=k1.frozen 1;have f2:=k1.frozen 2;have hlk1:k<w1.heap.size:=o_;clear c0 c1 aZ a6;go_wp2;have hS:=D_ (IntKind.u64.wrap (IntKind.u64.wrap (s*6364136223846793005))+1442695040888963407);generalize IntKind.u64.wrap (_+1442695040888963407)=s1 at hS ⊢;have J:=(k1.set 1 (.int .i64 ((a:Int)+1))).set 2 (.int .u64 s1);have o3:ai [k] w1 ((w1.setCell ⟨k,1,none⟩ (.int .i64 ((a:Int)+1))).setCell ⟨k,2,none⟩ (.int .u64 s1)):=((ai.refl _ _).setCell (.inr s_) _).setCell (.inr s_) _;generalize (w1.setCell _ _).setCell _ _=w3 at J o3 ⊢;have l3:=o3.size;have hlk3:k<w3.heap.size:=o_;have⟨g0,g1⟩:=J.q2
  (refine bR k_ k_ ?_;(repeat (go_big_quiet_step (fail)));refine wpQuiet_nil ?_;intro w4 K;obtain⟨aa,V⟩:=bu K;have b9:=K.size;(try simp only[VG] at b9))
  have k4:=J.next K
  have⟨_,_,m2⟩:=k4.q3;have o4:=(ai.of_below I).trans (o3.trans (.of_below K));clear g0 g1 aa V;go_wp2;have hA:=Tz (s1 / 1099511627776) o_ o_;generalize bits BinOp.and IntKind.u64 (s1 / 1099511627776) 255=y at hA ⊢;have hy:wrap64 y=y:=by unfold wrap64;omega
  rw[hy];go_ret;exact⟨y,rfl,hA.1,hA.2,⟨hB,o_,(RdB.over hR' o4 o_ hB),a+1,s1,o_,hS.1,hS.2,by simpa using k4⟩,o4⟩
def y_(B k)(v)(xs)(n)(hn:n<=900000)(m:Int)(hm:0<=m/\m<=1000000)(w)(hc:ib B k v xs n w):
 Kp 45 #[.pointer k,m] w (Ec B k v xs (n+2) 0 (if m<=1 then 0 else m - 1) w):=by
 have HN:=h_ (λn hn w hc=>Ua B k v xs n hn w hc);by_cases h1:m<=1
 .rw[Vo h1];go_enter func45,ntmps45;go_wp2;go_ret;exact⟨0,rfl,o_,o_,hc.le o_,ai.refl _ _⟩
 .rw[Vm h1];by_cases h2:200<m
  .go_enter func45,ntmps45;go_wp2_with fail
   refine (HN.out n o_ _ hc).mono ?_;rintro e w2 ⟨x,rfl,x0,x1,bb,o2⟩;go_wp2_with fail
   refine (HN.out (n+1) o_ _ bb).mono ?_;rintro e w3 ⟨y,rfl,y0,y1,J,o3⟩;have e1:=VS (x*256+y) (show m≠0 by omega);have e2:=VN (x*256+y) (show 0<m by omega);go_wp2;go_ret;exact⟨(x*256+y) % m,rfl,e1,o_,J.le o_,o2.trans o3⟩
  .go_enter func45,ntmps45;go_wp2_with fail
   refine (HN.out n o_ _ hc).mono ?_;rintro e w2 ⟨x,rfl,x0,x1,bb,o2⟩;have e2:=VN x (show 0<m by omega);go_wp2;go_ret;exact⟨x % m,rfl,(VS x (show m≠0 by omega)),o_,bb.le o_,o2⟩
def UL(B k)(v)(xs)(n)(hn:n<=900000)(m:Int)(hm:0<=m/\m<=1000000)(w)(hc:ib B k v xs n w):
 Kp 44 #[.pointer k,m] w λe w'=>∃b:Bool,e=.returned b/\ib B k v xs (n+2) w'/\ai [k] w w':=by
 go_enter func44,ntmps44;go_wp2_with fail
 refine (h_ (y_ B k v xs n hn m hm w hc)).out.mono ?_;rintro e w2 ⟨x,rfl,x0,x1,bb,o2⟩;by_cases h:x=0
 .subst h;go_wp2;go_ret;exact⟨_,rfl,bb,o2⟩
 .go_wp2;go_ret;exact⟨_,rfl,bb,o2⟩
def GP(h:P:=by simp [results,results293,go_sem,x1,x2]):=h
def GB(h:P:=by simp [results,results271,go_sem,x1,x2]):=h
def Ko(h:P:=by
 go_enter func149,ntmps149;go_wp2_with ((go_at_call 63;refine aA (dh _ _ _ _) ?_))
 exact wj):=h
def Gg(h:P:=by
 unfold bQ at h;simp only[VB] at h;exact⟨bO h.1.1,bO h.1.2⟩):=h
def au(a b:Int):Int:=(Int.gcd a b:Nat)
def C_(a):au a 0=a.natAbs:=by simp [au]
def CO(a b):au b (a.tmod b)=au a b:=by
 show ((Nat.gcd b.natAbs (a.tmod b).natAbs:Nat):Int)=(Nat.gcd a.natAbs b.natAbs:Nat);rw[Zn,Nat.gcd_comm,<-Nat.gcd_rec,Nat.gcd_comm]
def nY(a b)(h:a≠0\/b≠0):1<=au a b/\(a≠0->au a b<=a.natAbs)/\(b≠0->au a b<=b.natAbs):=by
 unfold au;have h0:=YA.2 h;refine⟨o_,λha=>?_,λhb=>?_⟩
 .have:=Nat.le_of_dvd o_ (show Int.gcd a b∣a.natAbs from Za a.natAbs b.natAbs);omega
 .have:=Nat.le_of_dvd o_ (show Int.gcd a b∣b.natAbs from Yn a.natAbs b.natAbs);omega
def TB{x y:Int}(hy:y≠0):(x.tmod y).natAbs<y.natAbs:=by rw[Zn];exact Nat.mod_lt _ o_
def nJ(a b:Int)(ha:0<=a/\a<=9000000000000000000)(hb:0<=b/\b<=9000000000000000000)(w):
 Rw 169 #[a,b] w (au a b):=by
 go_enter func169,ntmps169;go_wp2;go_loop [0,1] (λx y=>∃c d:Int,x=.int .i64 c/\y=.int .i64 d/\(0<=c/\c<=9000000000000000000)/\(0<=d/\d<=9000000000000000000)/\Hid (au c d=au a b)) (λ_ y=>(intOf y).toNat)
 case atStart=>exact⟨a,b,rfl,rfl,ha,hb,rfl⟩
 case round=>
  obtain⟨c,d,rfl,rfl,hc,hd,H⟩:=hrel;by_cases h0:d=0
  .subst h0;have HE:Hid (au a b=c):=by show _=_;rw[<-H.out,C_];omega
   go_wp2;go_ret;exact⟨by rw[HE.out];rfl,rfl⟩
  .have e:=WC (b:=d) hc.1;have HE:Hid (au d (c % d)=au a b):=by show _=_;rw[<-e,CO];exact H.out
   have b1:=VS c h0;have b2:=VN c (show 0<d by omega);go_wp2;go_round
   case rel=>exact⟨d,c % d,rfl,rfl,o_,o_,HE⟩
   case measure=>exact aJ
def ow(a b:Int)(ha:-9000000000000000000<=a/\a<=9000000000000000000)(hb:-9000000000000000000<=b/\b<=9000000000000000000)(w):
 Kp 64 #[a,b] w λe w'=>e=.returned (au a b)/\∃k,w'=w.drewN k:=by
 go_enter func64,ntmps64;go_wp2;go_loopw [0,1] (λx y wr=>∃c d:Int,x=.int .i64 c/\y=.int .i64 d/\(-9000000000000000000<=c/\c<=9000000000000000000)/\(-9000000000000000000<=d/\d<=9000000000000000000)/\Hid (au c d=au a b)/\∃k,wr=w.drewN k) (λ_ y _=>(intOf y).natAbs)
 case atStart=>exact⟨a,b,rfl,rfl,ha,hb,rfl,0,rfl⟩
 case round=>
  obtain⟨c,d,rfl,rfl,hc,hd,H,k,rfl⟩:=hrel;by_cases h0:d=0
  .subst h0;have HE:Hid (au a b=c.natAbs):=by show _=_;rw[<-H.out,C_]
   rcases VJ c 0 with hs|hs
   .have hm:(c.natAbs:Int)=-c:=o_;go_wp2;go_ret;exact⟨by rw[HE.out,hm];simp,k,rfl⟩
   .have hm:(c.natAbs:Int)=c:=o_;go_wp2;go_ret;exact⟨by rw[HE.out,hm];simp,k,rfl⟩
  .have HE:Hid (au d (c.tmod d)=au a b):=by show _=_;rw[CO];exact H.out
   have b1:=TB (x:=c) h0;have cF:(d==0)=false:=by simpa using h0
   go_wp2
   go_region
   all_goals go_wp2
   all_goals
    go_roundw
    case rel=>exact⟨d,c.tmod d,by go_num,by go_num,o_,o_,HE,k+1,rfl⟩
    case measure=>exact b1
def bQ(n d:Int):Bool:=aw d 1 1000000000&&aw n (-1000000000) 1000000000&&au n d==1
def bK(n d:Int):Int:=if d<0 then -au n d else au n d
def bc(n d:Int):Int:=n.tdiv (bK n d)
def aO(n d:Int):Int:=d.tdiv (bK n d)
def kV(n d:Int):Bool:=bQ (bc n d) (aO n d)
def jZ{n d}(h:bQ n d=true):(1<=d/\d<=1000000000)/\(-1000000000<=n/\n<=1000000000):=by
 exact Gg
def D0(a b):au a.natAbs b.natAbs=au a b:=by simp [au,Int.gcd]
def Dd(a b):au a.natAbs b=au a b:=by simp [au,Int.gcd]
def mW(n g:Int):(n.tdiv g).natAbs<=n.natAbs:=by rw[Zm];exact Zo _ _
def nd(n d:Int)(w):
 Rv 109 #[.agg #[n,d]] w (.bool (bQ n d)):=by
 unfold bQ;cases h1:aw d 1 1000000000
 .go_enter func109,ntmps109;go_wp2
  go_quiet ((go_at_call 104;refine Calls.quiet_of_same ((cK _ _ _ _).mono λ_ _ h=>⟨h.1.trans (by rw[h1]),h.2.symm⟩)))
  all_goals go_wp2
  all_goals
   exact iC
 .cases h2:aw n (-1000000000) 1000000000
  .go_enter func109,ntmps109;go_wp2
   go_quiet (first|(go_at_call 104;refine Calls.quiet_of_same ((cK _ _ _ _).mono λ_ _ h=>⟨h.1.trans (by rw[h1]),h.2.symm⟩))|(go_at_call 104;refine Calls.quiet_of_same ((cK _ _ _ _).mono λ_ _ h=>⟨h.1.trans (by rw[h2]),h.2.symm⟩)))
   all_goals go_wp2
   all_goals
    exact iC
  .have b1:=bO h1;have b2:=bO h2;rw[<-(h_ (Dd n d)).out];go_enter func109,ntmps109;go_wp2
   go_quiet (first|(go_at_call 104;refine Calls.quiet_of_same ((cK _ _ _ _).mono λ_ _ h=>⟨h.1.trans (by rw[h1]),h.2.symm⟩))|(go_at_call 104;refine Calls.quiet_of_same ((cK _ _ _ _).mono λ_ _ h=>⟨h.1.trans (by rw[h2]),h.2.symm⟩))|(go_at_call 113;refine Calls.quiet_of_same ((lK _ o_ _).mono λ_ _ h=>⟨h.1,h.2.symm⟩))|(go_at_call 169;refine Calls.quiet_of_same ((nJ _ _ o_ o_ _).mono λ_ _ h=>⟨h.1,h.2.symm⟩)))
   all_goals go_wp2
   all_goals
    exact iC
def nE(n d:Int)(w):
 Rv 149 #[.agg #[n,d]] w (.bool (bQ n d)):=by
 unfold bQ;cases h1:aw d 1 1000000000
 .exact Ko
 .cases h2:aw n (-1000000000) 1000000000
  .exact Ko
  .have b1:=bO h1;have b2:=bO h2;go_enter func149,ntmps149;go_wp2_with (first|(go_at_call 63;refine aA (dh _ _ _ _) ?_)|(go_at_call 64;refine (ow _ _ o_ o_ _).mono ?_;rintro e w' ⟨rfl,V,rfl⟩))
   exact iC
def yq{n d}(hd:d≠0)(hn:iZ n)(K:iZ d):
 bK n d≠0/\(1<=au n d/\au n d<=4000000000000000000)/\(-4000000000000000000<=bc n d/\bc n d<=4000000000000000000)/\(-4000000000000000000<=aO n d/\aO n d<=4000000000000000000):=by
 have⟨g1,_,g2⟩:=nY n d (.inr hd);have g3:=g2 hd;have a1:=mW n (bK n d);have a2:=mW d (bK n d);refine⟨by unfold bK;split<;>omega,o_,?_,?_⟩
 .unfold bc;omega
 .unfold aO;omega
def jO(n d:Int):Bool:=!(d==0)&&kV n d
def ie(o:Bool)(A:Int):Int:=if o then A else 0
def qW(n d:Int)(hn:iZ n)(K:iZ d)(w:World):
 Rv 293 #[n,d] w (.tuple #[.agg #[ie (jO n d) (bc n d),ie (jO n d) (aO n d)],.bool (jO n d)]):=by
 unfold jO;cases h0:(d==0)
 .have hd:d≠0:=by simpa using h0
  obtain⟨f1,f2,f3,f4⟩:=yq hd hn K;have HA:=h_ (D0 n d);have HN:Hid (n.tdiv (bK n d)=bc n d):=rfl;have HD:Hid (d.tdiv (bK n d)=aO n d):=rfl;have aa:-4000000000000000000<=n.tdiv (bK n d)/\n.tdiv (bK n d)<=4000000000000000000:=f3;have U:-4000000000000000000<=d.tdiv (bK n d)/\d.tdiv (bK n d)<=4000000000000000000:=f4;have ab:(bK n d==0)=false:=by simpa using f1
  have HO:Hid (kV n d=bQ (n.tdiv (bK n d)) (d.tdiv (bK n d))):=rfl;show Kp 293 _ w λe w'=>e=.returned (.tuple #[.agg #[ie (kV n d) (bc n d),ie (kV n d) (aO n d)],.bool (kV n d)])/\af w w w';rw[HO.out,<-HN.out,<-HD.out];have hG:(d<0/\bK n d=-au n d)\/(0<=d/\bK n d=au n d):=by unfold bK;split<;>omega
  clear HN HD HO hd;generalize bK n d=g at *;obtain⟨q1,q2,q3,q4⟩:((w.alloc (.cells #[.int .i64 0,.int .i64 0] 96)).cell? ⟨w.heap.size,0,none⟩=some (.int .i64 0))/\((w.alloc (.cells #[.int .i64 0,.int .i64 0] 96)).cell? ⟨w.heap.size,1,none⟩=some (.int .i64 0))/\((w.alloc (.cells #[.int .i64 0,.int .i64 0] 96)).frozen? ⟨w.heap.size,0,none⟩=false)/\((w.alloc (.cells #[.int .i64 0,.int .i64 0] 96)).frozen? ⟨w.heap.size,1,none⟩=false):=⟨by simp [go_sem],by simp [go_sem],by simp [go_sem],by simp [go_sem]⟩
  have J:af w w (w.alloc (.cells #[(),()] 96)):=(Vn _ _).alloc (Vj _) _;have bi:w.heap.size<(w.alloc (.cells #[(),()] 96)).heap.size:=s_;rcases hG with ⟨hs,hg⟩|⟨hs,hg⟩
  all_goals
   cases Z:bQ (n.tdiv g) (d.tdiv g)
   .go_enter func293,ntmps293;go_wp2_with (first|(go_at_call 113;refine (lK _ o_ _).mono ?_;rintro e w' ⟨rfl,rfl⟩)|(go_at_call 169;refine (nJ _ _ o_ o_ _).mono ?_;rintro e w' ⟨rfl,rfl⟩;rw[HA.out]))
    rw[<-hg];clear hg;generalize w.alloc (.cells #[(),()] 96)=W at *;have H:Bx w.heap.size () (.int .i64 0) W:=⟨q1,q2,q3,q4,bi⟩
    go_region
    all_goals go_wp2_with fail
    all_goals
     (go_at_call 109;refine aj (nd _ _ _) λw1 I=>?_;(try (have b9:=Vt (Vq b7))))
     obtain⟨x1,x2,x3,x4,x5⟩:=Bx.below (Bx.alloc' (Bx.drew H) _) I;go_wp2;refine Vk (v:=.tuple #[.agg #[(),()],false]) GP rfl ⟨rfl,?_⟩;exact z_
   .go_enter func293,ntmps293;go_wp2_with (first|(go_at_call 113;refine (lK _ o_ _).mono ?_;rintro e w' ⟨rfl,rfl⟩)|(go_at_call 169;refine (nJ _ _ o_ o_ _).mono ?_;rintro e w' ⟨rfl,rfl⟩;rw[HA.out]))
    rw[<-hg];clear hg;generalize w.alloc (.cells #[(),()] 96)=W at *;have H:Bx w.heap.size () (.int .i64 0) W:=⟨q1,q2,q3,q4,bi⟩
    go_region
    all_goals go_wp2_with fail
    all_goals
     (go_at_call 109;refine aj (nd _ _ _) λw1 I=>?_;obtain⟨aZ,a6⟩:=bu I;have ac:=I.size;(try simp only[VG] at ac);(try (have F:w.heap.size<w1.heap.size:=o_));(try (have b7:=Vt ac));(try (have b9:=Vt (Vq b7))))
     obtain⟨x1,x2,x3,x4,x5⟩:=Bx.below (Bx.alloc' (Bx.drew H) _) I;go_wp2;refine Vk (v:=.tuple #[.agg #[(n.tdiv g:Int),(d.tdiv g:Int)],true]) GP rfl ⟨rfl,?_⟩;exact z_
 .obtain rfl:d=0:=by simpa using h0
  go_enter func293,ntmps293;go_wp2;refine Vk (v:=.tuple #[.agg #[(),()],false]) (by simp [results,results293,go_sem]) rfl ⟨rfl,?_⟩;exact z_
def qz(n d:Int)(hd:d≠0)(hn:iZ n)(K:iZ d)(w:World):
 Rv 271 #[n,d] w (.tuple #[.agg #[ie (jO n d) (bc n d),ie (jO n d) (aO n d)],.bool (jO n d)]):=by
 unfold jO;have h0:(d==0)=false:=by simpa using hd
 rw[h0]
 .skip
  obtain⟨f1,f2,f3,f4⟩:=yq hd hn K;have HN:Hid (n.tdiv (bK n d)=bc n d):=rfl;have HD:Hid (d.tdiv (bK n d)=aO n d):=rfl;have aa:-4000000000000000000<=n.tdiv (bK n d)/\n.tdiv (bK n d)<=4000000000000000000:=f3;have U:-4000000000000000000<=d.tdiv (bK n d)/\d.tdiv (bK n d)<=4000000000000000000:=f4;have ab:(bK n d==0)=false:=by simpa using f1
  have HO:Hid (kV n d=bQ (n.tdiv (bK n d)) (d.tdiv (bK n d))):=rfl;show Kp 271 _ w λe w'=>e=.returned (.tuple #[.agg #[ie (kV n d) (bc n d),ie (kV n d) (aO n d)],.bool (kV n d)])/\af w w w';rw[HO.out,<-HN.out,<-HD.out];have hG:(d<0/\bK n d=-au n d)\/(0<=d/\bK n d=au n d):=by unfold bK;split<;>omega
  clear HN HD HO hd;generalize bK n d=g at *;obtain⟨q1,q2,q3,q4⟩:((w.alloc (.cells #[.int .i64 0,.int .i64 0] 96)).cell? ⟨w.heap.size,0,none⟩=some (.int .i64 0))/\((w.alloc (.cells #[.int .i64 0,.int .i64 0] 96)).cell? ⟨w.heap.size,1,none⟩=some (.int .i64 0))/\((w.alloc (.cells #[.int .i64 0,.int .i64 0] 96)).frozen? ⟨w.heap.size,0,none⟩=false)/\((w.alloc (.cells #[.int .i64 0,.int .i64 0] 96)).frozen? ⟨w.heap.size,1,none⟩=false):=⟨by simp [go_sem],by simp [go_sem],by simp [go_sem],by simp [go_sem]⟩
  have J:af w w (w.alloc (.cells #[(),()] 96)):=(Vn _ _).alloc (Vj _) _;have bi:w.heap.size<(w.alloc (.cells #[(),()] 96)).heap.size:=s_;rcases hG with ⟨hs,hg⟩|⟨hs,hg⟩
  all_goals
   cases Z:bQ (n.tdiv g) (d.tdiv g)
   .go_enter func271,ntmps271;go_wp2_with fail
    (go_at_call 64;refine (ow _ _ o_ o_ _).mono ?_;rintro e w' ⟨rfl,V,rfl⟩)
    go_wp2;rw[<-hg];clear hg;generalize w.alloc (.cells #[(),()] 96)=W0 at *;obtain⟨W,G⟩:∃W,W=W0.drewN V:=⟨_,rfl⟩
    have q1:W.cell? ⟨w.heap.size,0,none⟩=some (.int .i64 0):=by rw[G];exact q1
    have q2:W.cell? ⟨w.heap.size,1,none⟩=some (.int .i64 0):=by rw[G];exact q2
    have q3:W.frozen? ⟨w.heap.size,0,none⟩=false:=by rw[G];exact q3
    have q4:W.frozen? ⟨w.heap.size,1,none⟩=false:=by rw[G];exact q4
    have bi:w.heap.size<W.heap.size:=by rw[G];exact bi
    have J:af w w W:=by rw[G];exact lr J _
    rw[<-G];clear G;have H:Bx w.heap.size () (.int .i64 0) W:=⟨q1,q2,q3,q4,bi⟩
    go_region
    all_goals go_wp2_with fail
    all_goals
     (go_at_call 149;refine aj (nE _ _ _) λw1 I=>?_;(try (have b9:=Vt (Vq b7))))
     obtain⟨x1,x2,x3,x4,x5⟩:=Bx.below (Bx.alloc' (Bx.drew H) _) I;go_wp2;refine Vk (v:=.tuple #[.agg #[(),()],false]) GB rfl ⟨rfl,?_⟩;exact z_
   .go_enter func271,ntmps271;go_wp2_with fail
    (go_at_call 64;refine (ow _ _ o_ o_ _).mono ?_;rintro e w' ⟨rfl,V,rfl⟩)
    go_wp2;rw[<-hg];clear hg;generalize w.alloc (.cells #[(),()] 96)=W0 at *;obtain⟨W,G⟩:∃W,W=W0.drewN V:=⟨_,rfl⟩
    have q1:W.cell? ⟨w.heap.size,0,none⟩=some (.int .i64 0):=by rw[G];exact q1
    have q2:W.cell? ⟨w.heap.size,1,none⟩=some (.int .i64 0):=by rw[G];exact q2
    have q3:W.frozen? ⟨w.heap.size,0,none⟩=false:=by rw[G];exact q3
    have q4:W.frozen? ⟨w.heap.size,1,none⟩=false:=by rw[G];exact q4
    have bi:w.heap.size<W.heap.size:=by rw[G];exact bi
    have J:af w w W:=by rw[G];exact lr J _
    rw[<-G];clear G;have H:Bx w.heap.size () (.int .i64 0) W:=⟨q1,q2,q3,q4,bi⟩
    go_region
    all_goals go_wp2_with fail
    all_goals
     (go_at_call 149;refine aj (nE _ _ _) λw1 I=>?_;obtain⟨aZ,a6⟩:=bu I;have ac:=I.size;(try simp only[VG] at ac);(try (have F:w.heap.size<w1.heap.size:=o_));(try (have b7:=Vt ac));(try (have b9:=Vt (Vq b7))))
     obtain⟨x1,x2,x3,x4,x5⟩:=Bx.below (Bx.alloc' (Bx.drew H) _) I;go_wp2;refine Vk (v:=.tuple #[.agg #[(n.tdiv g:Int),(d.tdiv g:Int)],true]) GB rfl ⟨rfl,?_⟩;exact z_
def mA(h:P:=by cases h):=h
def qQ{w w1:World}{G e size n:Nat}{v}{xs}(h:w.ownsRow G e size v n xs)(hb:af w w w1):w1.ownsRow G e size v n xs:=by
 exact wv
def uQ{w:World}{G base' e size n:Nat}{v}{xs}(h:w.ownsRow G e size v n xs)(hb:base'<=G):w.ownsRow base' e size v n xs:=
 ⟨h.1,h.2.elim Or.inl (λ⟨g,F,cur,hv,hg,r⟩=>Or.inr ⟨g,F,cur,hv,Vl hb hg,r⟩)⟩
def m_{ex:List Nat}{w w1}{G e size n:Nat}{v}{xs}(h:w.ownsRow G e size v n xs)(Z:ai ex w w1)(hn:∀k,v.ownBlock=some k->k∉ex):w1.ownsRow G e size v n xs:=by
 exact JE
def fR{w:World}{G e size n:Nat}{v}{xs}(h:w.ownsRow G e size v n xs):∀k,v.ownBlock=some k->G<=k/\k<w.heap.size:=Wb h
def nQ{w:World}{G e size n:Nat}{v}{xs}(h:w.ownsRow G e size v n xs):
 ∃(a:ck) (F:Nat),v=.slice a n F/\n<=F/\(∀i (_:i<n),∃g,a=some ⟨g,0,none⟩/\g<w.heap.size/\G<=g/\(∀o,w.frozen? ⟨g,o,none⟩=false)/\(∀k u,k<size->xs[i*size+k]?=some u->w.cell? ⟨g,i*size+k,none⟩=some u)):=by
 rcases h.2 with ⟨hv,hn⟩|⟨g,F,cur,hv,hg,hh,aL,_,_,ht⟩
 .exact AC
 .refine⟨some ⟨g,0,none⟩,F,hv,aL,λi hi=>⟨g,rfl,(Vz.1 hh).1,hg,λo=>by simp [World.frozen?,hh],λk u hk hu=>?_⟩⟩;have aG:i*size+k<n*size:=by
   have:(i+1)*size<=n*size:=WE _ o_;rw[XW] at this;omega
  have h4:(cur.toList.take (n*size))[i*size+k]?=cur.toList[i*size+k]?:=VU aG;exact IJ
def rg{w}{G e size n:Nat}{v}{xs}(h:w.ownsRow G e size v n xs):∀k,v.ownBlock=some k->∃cur,ah k cur e w:=by
 intro k hk;rcases h.2 with ⟨hv,_⟩|⟨g,F,cur,hv,hg,hh,_⟩
 .rw[hv] at hk;cases hk
 .rw[hv] at hk;injection hk with hk;exact⟨cur,hk▸hh⟩
def C7(w:World)(e size:Nat)(cs)(hs:cs.length=size):(w.alloc (.cells cs.toArray e)).ownsRow w e size (.slice w 1 1) 1 cs:=by
 refine⟨o_,.inr ⟨w,1,cs.toArray,rfl,Vj _,?_,?_,?_,?_,?_⟩⟩
 .exact ah.new w _ _
 .omega
 .unfold maxLen;omega
 .simp [hs]
 .simp [<-hs]
def B1{ops}{rest}{o}{a}{Q}{wr}(e tS size bytes:Nat)(z)(aa:o.guard=none)(s x)
 (Z:o.op=.call {callee:=.builtin .append,args:=#[s,x],argTypes:=#[tS,tS]})(ab:(prog.info? e).map (λi=>(i.zero,i.size,i.bytes))=some (some z,size,bytes))(ht:prog.underlying tS=some (.slice e))(K:z.cells.size=size)(a6:0<size)(ad:bytes<=1000)
 (G)(v)(n)(L)(hs:a.eval s=v)(V:wr.ownsRow G e size v n L)(F)(ax:F.length=size)(h1:∀u∈F,u.oneCell'=true)(hx:a.eval x=.slice wr 1 1)
 (ae:n<1000000)(H:G<=wr.heap.size)
 (h:∀v' w1,w1.ownsRow G e size v' (n+1) (L++F)->ai v.ownBlock.toList wr w1->af G wr w1->(v'.ownBlock=v.ownBlock\/∃k,v'.ownBlock=some k/\wr.heap.size<=k)->wpList prog ops Q rest (a.put o.dst v') w1):
 wpList prog ops Q (o::rest) a (wr.alloc (.cells F.toArray e)):=by
 have⟨U,hi,bi,ac,ba⟩:=WL ab;refine wpList_append_own_at _ aa s x tS Z G e U z size bytes ht hi bi ac ba K a6 v n L hs (XF V _) ⟨wr,0,none⟩ 1 1 F hx o_ ?_ h1 ?_ ?_ ?_ ?_
 .intro j u hj;rw[show (⟨wr,0,none⟩:Addr).add j=⟨wr,j,none⟩ by simp [Addr.add];omega];rw[((ah.new wr F.toArray e).cell j)];simpa using hj
 .unfold maxLen;omega
 .have:(n+1)*bytes<=1000000*1000:=Xp o_ ad;omega
 .simp;omega
 .intro v' w1 J I _ bY;refine h v' w1 J ?_ ?_ (bY.imp id λh=>⟨_,h,s_⟩)
  .have ha:=(Vn wr wr).alloc (Vj _) (.cells F.toArray e);exact Jq
  .exact FL
def He(h:P:=by simp [results,results152,go_sem,q3,q4]):=h
def H5(h:P:=by simp [results,results72,go_sem,q3,q4]):=h
def G1(h:P:=by simp [results,results161,go_sem,aZ]):=h
def Ge(h:P:=by
 refine Vk (v:=.tuple #[.agg #[(),()],false]) H5 rfl ⟨rfl,?_⟩;exact z_):=h
def uN(w:World)(r o:Nat):Value:=(w.cell? ⟨r,o,none⟩).getD false
def tH{w}{r o}(h:(w.cell? ⟨r,o,none⟩).isSome=true):w.cell? ⟨r,o,none⟩=some (uN w r o):=by
 unfold uN;have⟨x,hx⟩:=Xe.1 h;rw[hx];rfl
def S9(w:World)(n r:Nat)(a b:Value)(w':World):Prop:=
 w'.cell? n=some a/\w'.cell? ⟨n,1,none⟩=some b/\w'.cell? r=some (uN w' r 0)/\w'.cell? ⟨r,1,none⟩=some (uN w' r 1)/\
 w'.frozen? ⟨r,0,none⟩=false/\w'.frozen? ⟨r,1,none⟩=false/\n<r/\r<w'.heap.size/\w.heap.size<=n/\af w w w'
section
variable {w W w1:World}{n r:Nat}{a b:Value}
def S9.below(h:S9 w n r a b W)(hb:af W W w1):S9 w n r a b w1:=by
 have⟨h1,h2,h3,h4,h5,h6,h0,h7,h8,h9⟩:=h;have hc:=λb o I=>hb.cell (p:=⟨b,o,none⟩) I;have hf:=λb o I=>hb.frozen (p:=⟨b,o,none⟩) I;exact⟨(hc n 0 (by show n<_;omega)).trans h1,(hc n 1 (by show n<_;omega)).trans h2,tH (by rw[hc r 0 h7,h3];rfl),tH (by rw[hc r 1 h7,h4];rfl),(hf r 0 h7).trans h5,(hf r 1 h7).trans h6,h0,Vp h7 hb.size,h8,h9.trans (hb.mono o_)⟩
end
def S9.new2(w)(a b x y)(t g):S9 w w (w.heap.size+1) a b ((w.alloc (.cells #[a,b] t)).alloc (.cells #[x,y] g)):=
 ⟨by simp [go_sem],by simp [go_sem],tH (by simp [go_sem]),tH (by simp [go_sem]),by simp [go_sem],by simp [go_sem],s_,s_,Vj _,((Vn _ _).alloc (Vj _) _).alloc s_ _⟩
def vM{A v}(b)(hA:-b<=A/\A<=b)(_:0<=b)(hv:1<=v/\v<=5):
 (-(b*5)<=A*v/\A*v<=b*5)/\(-(b*25)<=A*v*v/\A*v*v<=b*25)/\(-(b*125)<=A*v*v*v/\A*v*v*v<=b*125)/\(-(b*625)<=A*v*v*v*v/\A*v*v*v*v<=b*625)/\
 (-(b*3125)<=A*v*v*v*v*v/\A*v*v*v*v*v<=b*3125)/\(-(b*15625)<=A*v*v*v*v*v*v/\A*v*v*v*v*v*v<=b*15625):=by
 have h1:=aN (x:=A) (y:=v) b 5 hA o_;have h2:=aN (x:=A*v) (y:=v) (b*5) 5 o_ o_;have h3:=aN (x:=A*v*v) (y:=v) (b*25) 5 o_ o_;have h4:=aN (x:=A*v*v*v) (y:=v) (b*125) 5 o_ o_;have h5:=aN (x:=A*v*v*v*v) (y:=v) (b*625) 5 o_ o_;have h6:=aN (x:=A*v*v*v*v*v) (y:=v) (b*3125) 5 o_ o_;omega
def Bv(A B:Int)(w):
 Rv 161 #[.agg #[A,B]] w (.tuple #[.agg #[rs (be A B) A,rs (be A B) B],.bool (be A B)]):=by
 cases h1:be A B
 .go_enter func161,ntmps161;go_wp2_with ((go_at_call 62;refine aj (jV _ _ _) λw1 I=>?_;obtain⟨aZ,a6⟩:=bu I))
  refine Vk (v:=.tuple #[.agg #[(),()],false]) G1 rfl ⟨rfl,?_⟩;exact z_
 .go_enter func161,ntmps161;go_wp2_with ((go_at_call 62;refine aj (jV _ _ _) λw1 I=>?_;obtain⟨aZ,a6⟩:=bu I))
  refine Vk (v:=.tuple #[.agg #[A,B],true]) G1 rfl ⟨rfl,?_⟩;exact z_
def RR(A B v)(hC:be A B=true)(hv:aw v 1 5=true)(w):
 Rv 72 #[.agg #[A,B],v] w (.tuple #[.agg #[(rs (be (A*v*v*v*v) (B*v*v*v*v*v*v)) (A*v*v*v*v):Int),(rs (be (A*v*v*v*v) (B*v*v*v*v*v*v)) (B*v*v*v*v*v*v):Int)],.bool (be (A*v*v*v*v) (B*v*v*v*v*v*v))]):=by
 have hb:=fs hC;have hu:=bO hv;have⟨a1,a2,a3,a4,_,_⟩:=vM 1000 hb.1 o_ hu;have⟨b1,b2,b3,b4,b5,b6⟩:=vM 10000 hb.2 o_ hu;cases h1:be (A*v*v*v*v) (B*v*v*v*v*v*v)
 .go_enter func72,ntmps72;go_wp2_with ((go_at_call 104;refine aA (cK _ _ _ _) ?_))
  (go_at_call 71;refine aj (f_ _ _ _) λw1 I=>?_;obtain⟨aZ,a6⟩:=bu I;have ac:=I.size;(try simp only[VG] at ac);(try (have F:w.heap.size<w1.heap.size:=o_));(try (have b7:=Vt ac));(try (have b9:=Vt (Vq b7))))
  go_wp2_with ((go_at_call 104;refine aA (cK _ _ _ _) ?_))
  (go_at_call 71;refine aj (f_ _ _ _) λw2 U=>?_;obtain⟨bb,ab⟩:=bu U;have ba:=U.size;(try (have ae:=Vt (Vq az)));(try (have aa:w1.heap.size<w2.heap.size:=o_)))
  go_wp2;have⟨_,_,q3,q4,_⟩:=(((S9.new2 w (.int .i64 A) (.int .i64 B) (.int .i64 0) (.int .i64 0) 42 42).below I).below ((Vn _ _).alloc (Vj _) _)).below U;exact Ge
 .go_enter func72,ntmps72;go_wp2_with ((go_at_call 104;refine aA (cK _ _ _ _) ?_))
  (go_at_call 71;refine aj (f_ _ _ _) λw1 I=>?_;obtain⟨aZ,a6⟩:=bu I;have ac:=I.size;(try simp only[VG] at ac);(try (have F:w.heap.size<w1.heap.size:=o_));(try (have b7:=Vt ac));(try (have b9:=Vt (Vq b7))))
  go_wp2_with ((go_at_call 104;refine aA (cK _ _ _ _) ?_))
  (go_at_call 71;refine aj (f_ _ _ _) λw2 U=>?_;obtain⟨bb,ab⟩:=bu U;have ba:=U.size;(try simp only[VG] at ba);(try (have aG:w.heap.size<w2.heap.size:=o_));(try (have az:=Vt ba));(try (have ae:=Vt (Vq az)));(try (have aa:w1.heap.size<w2.heap.size:=o_)))
  go_wp2;have⟨_,_,q3,q4,_⟩:=(((S9.new2 w (.int .i64 A) (.int .i64 B) (.int .i64 0) (.int .i64 0) 42 42).below I).below ((Vn _ _).alloc (Vj _) _)).below U;refine Vk (v:=.tuple #[.agg #[(A*v*v*v*v:Int),(B*v*v*v*v*v*v:Int)],true]) H5 rfl ⟨rfl,?_⟩;exact z_
def Sd(A B v)(hC:be A B=true)(hv:aw v 1 5=true)(w):
 Rv 152 #[.agg #[A,B],v] w (.tuple #[.agg #[(rs (be (A*v*v*v*v) (B*v*v*v*v*v*v)) (A*v*v*v*v):Int),(rs (be (A*v*v*v*v) (B*v*v*v*v*v*v)) (B*v*v*v*v*v*v):Int)],.bool (be (A*v*v*v*v) (B*v*v*v*v*v*v))]):=by
 have hb:=fs hC;have hu:=bO hv;have⟨a1,a2,a3,a4,_,_⟩:=vM 1000 hb.1 o_ hu;have⟨b1,b2,b3,b4,b5,b6⟩:=vM 10000 hb.2 o_ hu;go_enter func152,ntmps152;go_wp2_with ((go_at_call 63;refine aA (dh _ _ _ _) ?_))
 (go_at_call 62;refine aj (jV _ _ _) λw1 I=>?_;obtain⟨aZ,a6⟩:=bu I;have ac:=I.size;(try simp only[VG] at ac);(try (have b7:=Vt ac));(try (have b9:=Vt (Vq b7))))
 go_wp2_with ((go_at_call 63;refine aA (dh _ _ _ _) ?_))
 (go_at_call 161;refine aj (Bv _ _ _) λw2 U=>?_;obtain⟨bb,ab⟩:=bu U;have ba:=U.size;(try (have aa:w1.heap.size<w2.heap.size:=o_)))
 go_wp2;have⟨_,_,q3,q4,_⟩:=(((S9.new2 w (.int .i64 A) (.int .i64 B) (.int .i64 0) (.int .i64 0) 42 42).below I)).below U;refine Vk (v:=.tuple #[.agg #[(rs (be (A*v*v*v*v) (B*v*v*v*v*v*v)) (A*v*v*v*v):Int),(rs (be (A*v*v*v*v) (B*v*v*v*v*v*v)) (B*v*v*v*v*v*v):Int)],.bool (be (A*v*v*v*v) (B*v*v*v*v*v*v))]) He rfl ⟨rfl,?_⟩;exact z_
def AT{w W w1}{b B:Nat}{v0 v1}(h:W.cell? b=some v0/\W.cell? ⟨b,1,none⟩=some v1/\b<W.heap.size/\B<=W.heap.size/\af B w W)(hb:af W W w1):
 w1.cell? b=some v0/\w1.cell? ⟨b,1,none⟩=some v1/\b<w1.heap.size/\B<=w1.heap.size/\af B w w1:=
 ⟨(hb.cell (p:=b) h.2.2.1).trans h.1,(hb.cell (p:=⟨b,1,none⟩) h.2.2.1).trans h.2.1,Vp h.2.2.1 hb.size,Vl h.2.2.2.1 hb.size,h.2.2.2.2.trans (hb.mono h.2.2.2.1)⟩
def Fo{w W}{b B n:Nat}{v0 v1}(h:W.cell? b=some v0/\W.cell? ⟨b,1,none⟩=some v1/\b<W.heap.size/\B<=W.heap.size/\af B w W):
 (W.drewN n).cell? b=some v0/\(W.drewN n).cell? ⟨b,1,none⟩=some v1/\b<(W.drewN n).heap.size/\B<=(W.drewN n).heap.size/\af B w (W.drewN n):=
 ⟨h.1,h.2.1,h.2.2.1,h.2.2.2.1,lr h.2.2.2.2 n⟩
def EF{k:IntKind}{a b}(h:a=b):Ending.returned (.int k a)=.returned (.int k b):=by rw[h]
def Ue(a p:Int)(h:1<=p):0<=a % p/\a % p<p:=⟨VS _ o_,VN _ o_⟩
section
variable {P:Program}{ops:Array Oper}{Q:Exit->Act->av}
def M2{l:List Bool}{i}(h:l[i]?=some false):(l.set i true).count false+1=l.count false:=by
 induction l generalizing i with
 |nil=>simp at h
 |cons b l g=>
  cases i with
  |zero=>
   simp at h;subst h;simp
  |succ i=>
   have:=g (i:=i) kH;cases b<;>simp at this ⊢<;>omega
def gg(ops:Array Oper)(i:Nat):List Nat:=match ops[i]? with
 |some o=>(o.after.toList.filter (Region.binds .any ·)).map (·.on)
 |none=>[]
def my(ops:Array Oper):Nat->List (List Nat)
 |0=>[]
 |k+1=>let t:=my ops k;t++[(gg ops k++(gg ops k).flatMap λd=>t.getD d []).eraseDups]
def zo(ops:Array Oper)(fl:List Bool):Bool:=
 decide (fl.length=ops.size)&&(List.range ops.size).all λi=>
  (gg ops i).all (λd=>decide (d<i))&&(if fl.getD i false then (gg ops i).all (λd=>fl.getD d false) else (List.range ops.size).all λj=>!fl.getD j false||((my ops ops.size).getD i []).contains j)
theorem tE(ops):∀k,(my ops k).length=k
 |0=>rfl
 |k+1=>by simp [my,tE ops k]
theorem B9(ops)(k):∀m i,i<k->(my ops (k+m)).getD i []=(my ops k).getD i []
 |0,_,_=>rfl
 |m+1,i,h=>by
  have:=B9 ops k m i h;rw[<-this,show k+(m+1)=(k+m)+1 by omega,my];simp;rw[WR (by rw[tE];omega)]
def Tk(ops:Array Oper)(L:Nat->Prop):Prop:=∀i,L i->∀d∈gg ops i,L d
def Qo{L:Nat->Prop}(hL:Tk ops L):∀k i,i<k->(∀d∈gg ops i,d<i)->(∀i'<i,∀d∈gg ops i',d<i')->(∀d∈gg ops i,L d)->∀j∈(my ops k).getD i [],L j:=by
 intro k
 induction k with
 |zero=>intro i h;omega
 |succ k g=>
  intro i hi hd K hl j hj;by_cases cm:i<k
  .rw[B9 ops k 1 i cm] at hj;exact g i cm hd K hl j hj
  .obtain rfl:i=k:=o_
   rw[my] at hj;simp at hj;rw[Wp (by rw[tE];omega)] at hj;rw[tE] at hj;simp at hj;rcases hj with hj|⟨d,H,hj⟩
   .exact hl j hj
   .refine g d (hd d H) (K d (hd d H)) (λi' J=>K i' (by have:=hd d H;omega)) (hL d (hl d H)) j ?_;simpa[Xv] using hj
def xF{i d}:d∈gg ops i↔∃o,ops[i]?=some o/\∃e∈o.after,Region.binds .any e=true/\e.on=d:=by
 unfold gg;cases h:ops[i]? with
 |none=>simp
 |some o=>
  simp only[X9,Zi,WI];constructor
  .rintro⟨e,⟨he,hb⟩,rfl⟩;exact⟨o,rfl,e,by simpa using he,hb,rfl⟩
  .rintro⟨o',rfl,e,he,hb,rfl⟩;exact⟨e,⟨by simpa using he,hb⟩,rfl⟩
def et(ops:Array Oper)(fl:List Bool):List (Nat×Nat):=(List.range ops.size).filterMap λi=>if fl.getD i false then (match ops[i]? with|some o=>o.dst.map λd=>(i,d)|none=>none) else none
def iX(a:Act)(H:List (Nat×Nat))(vs:Nat->Value):Act:=H.foldl (λb p=>b.put (some p.2) (vs p.1)) a
def uB(ops:Array Oper)(fl:List Bool)(n:Nat):Bool:=
 ((List.range ops.size).all λi=>!fl.getD i false||match ops[i]? with|some o=>(match o.dst with|some d=>decide (d<n)|none=>false)|none=>false)&&decide ((et ops fl).map (·.2)).Nodup
def bn(P:Program)(o:Oper)(ρ:Operand->Value)(w:World)(R:Value->av):Prop:=
 (∃v w',(execOp ρ o).run P w=.ok (.value v) w'/\af w w w'/\R v w')\/
 (∃f args,(execOp ρ o).run P w=.ok (.enter f args) w/\Calls P f args w λe w'=>∃v,e=.returned v/\af w w w'/\R v w')
def bn.wpOp{o}{a}{w}{R:Value->av}{i}(h:bn P o a.eval w R)(Z:ops[i]?=some o)(hg:o.guard=none){K:Act->av}
 (hK:∀v w',af w w w'->R v w'->K (a.put o.dst v) w'):wpOp P ops Q i K a w:=by
 unfold Go.wpOp;simp only[Z];rw[Vo (by simp [Region.wanted,hg])];refine .inl ?_;unfold Oper.wp;rcases h with ⟨v,w',hr,hb,hR⟩|⟨f,args,hr,hc⟩
 .rw[hr];exact hK v w' hb hR
 .rw[hr];refine hc.mono λe w' ⟨v,he,hb,hR⟩=>?_;subst he;exact hK v w' hb hR
def PA(lo:Nat)(zs:Array Value)(T:TypeId):Value->av:=λv w=>∃r,v=.pointer (some ⟨r,0,none⟩)/\lo<=r/\ah r zs T w
def PA.closed(lo)(zs)(T)(v):aQ (PA lo zs T v):=λ_ _ ⟨r,h1,h2,h3⟩ hb=>⟨r,h1,h2,h3.next hb⟩
def aS(P:Program)(ops:Array Oper)(fl:List Bool)(al:List Nat)(a0:Act)(W:World)(PV:Nat->Value->av)(i:Nat):Prop:=
 ∀o,ops[i]?=some o->∀(a:Act) (w:World),af W W w->(∀t,(∀p∈et ops fl,p.2≠t)->a.tmps[t]?=a0.tmps[t]?)->(∀d∈gg ops i,∀od t,ops[d]?=some od->od.dst=some t->∃v,a.tmps[t]?=some v/\PV d v w)->
  bn P o a.eval w λv w'=>PV i v w'/\(i∈al->v=.pointer w)
structure Lk (ops:Array Oper)(fl:List Bool)(al:List Nat)(a0:Act)(W:World)(PV:Nat->Value->World->Prop)(listed:Array Bool)(a:Act)(w:World):Prop where
 size:listed.size=ops.size
 clo:∀i,listed.getD i false=true->∀d∈gg ops i,listed.getD d false=true
 sub:∀i,listed.getD i false=true->fl.getD i false=true
 val:∀i o d,listed.getD i false=true->ops[i]?=some o->o.dst=some d->∃v,a.tmps[d]?=some v/\PV i v w
 bas:∀t,(∀p∈et ops fl,p.2≠t)->a.tmps[t]?=a0.tmps[t]?
 siz:a.tmps.size=a0.tmps.size
 dfr:a.defers=a0.defers
 ovr:af W W w
 sep:∀i j oi oj di dj,i≠j->i∈al->j∈al->listed.getD i false=true->listed.getD j false=true->ops[i]?=some oi->ops[j]?=some oj->oi.dst=some di->oj.dst=some dj->a.tmps[di]?≠a.tmps[dj]?
def mY{fl:List Bool}{p:Nat×Nat}:p∈et ops fl↔fl.getD p.1 false=true/\∃o,ops[p.1]?=some o/\o.dst=some p.2:=by
 unfold et;rw[List.mem_filterMap];constructor
 .rintro⟨i,_,h⟩;split at h
  .rename_i hf;cases Z:ops[i]? with
   |none=>rw[Z] at h;cases h
   |some o=>
    rw[Z] at h;cases hd:o.dst with
    |none=>simp only[hd] at h;cases h
    |some d=>
     simp only[hd,Option.map_some,WI] at h;subst h;exact⟨hf,o,Z,hd⟩
  .cases h
 .rintro⟨hf,o,Z,hd⟩;refine⟨p.1,Xo.2 (Vz.1 Z).1,?_⟩;rw[Vo hf,Z];simp [hd]
def mX(a:Act)(d:Nat)(v)(t):(a.put (some d) v).tmps[t]?=if d=t then (if t<a.tmps.size then some v else none) else a.tmps[t]?:=by
 simp only[Act.put];rw[Array.getElem?_setIfInBounds];split
 .rename_i h;subst h;rfl
 .rfl
theorem qP(vs:Nat->Value):∀(H:List (Nat×Nat)) (a) (t),(H.map (·.2)).Nodup->(iX a H vs).tmps[t]?=(match H.find? (λp=>p.2==t) with|some p=>if t<a.tmps.size then some (vs p.1) else none|none=>a.tmps[t]?)/\(iX a H vs).tmps.size=a.tmps.size/\(iX a H vs).defers=a.defers
 |[],a,t,_=>⟨rfl,rfl,rfl⟩
 |p::H,a,t,hn=>by
  rw[WU,Zj] at hn;have⟨h1,h2,h3⟩:=qP vs H (a.put (some p.2) (vs p.1)) t hn.2;have hs:(a.put (some p.2) (vs p.1)).tmps.size=a.tmps.size:=tW _ _ _;have e:iX a (p::H) vs=iX (a.put (some p.2) (vs p.1)) H vs:=rfl;rw[e];refine⟨?_,h2.trans hs,h3.trans rfl⟩;rw[h1,Yz];by_cases G:p.2=t
  .have a4:H.find? (λp=>p.2==t)=none:=by
    rw[X_];intro q hq F;have g:=by simpa using F
    exact hn.1 (X9.2 ⟨q,hq,g.trans G.symm⟩)
   rw[a4];simp only[show (p.2==t)=true by simpa using G];rw[mX,Vo G]
  .simp only[show (p.2==t)=false by simpa using G];cases hf:H.find? (λp=>p.2==t) with
   |none=>simp only[];rw[mX,Vm G]
   |some q=>simp only[];rw[hs]
theorem qR:∀{l:List (Nat×Nat)},(l.map (·.2)).Nodup->∀{p q:Nat×Nat},p∈l->q∈l->p.2=q.2->p=q
 |[],_,p,_,G,_,_=>by cases G
 |x::l,hn,p,q,G,hq,e=>by
  rw[WU,Zj] at hn;rcases VL.1 G with h1|h1
  .rcases VL.1 hq with h2|h2
   .rw[h1,h2]
   .exact absurd (X9.2 ⟨q,h2,by rw[<-e,h1]⟩) hn.1
  .rcases VL.1 hq with h2|h2
   .exact absurd (X9.2 ⟨p,h1,by rw[e,h2]⟩) hn.1
   .exact qR hn.2 h1 h2 e
def NV{fl:List Bool}{al:List Nat}{a0}{W}{PV:Nat->Value->av}(a8:zo ops fl=true)(bo:uB ops fl a0.tmps.size=true)(aa:∀i o,fl.getD i false=true->ops[i]?=some o->o.guard=none)(aX:∀i∈al,∃lo zs T,PV i=PA lo zs T)(aM:∀i v,aQ (PV i v))
 (F:∀i,fl.getD i false=true->aS P ops fl al a0 W PV i)
 (U:∀(vs:Nat->Value) (w),af W W w->(∀p∈et ops fl,PV p.1 (vs p.1) w)->(∀p∈et ops fl,∀q∈et ops fl,p.1≠q.1->p.1∈al->q.1∈al->vs p.1≠vs q.1)->wpAny P .any ops Q (fl.count false) fl.toArray (iX a0 (et ops fl) vs) w):
 ∀(fuel) (listed:Array Bool) (a) (w),Lk ops fl al a0 W PV listed a w->listed.toList.count false=fuel->wpAny P .any ops Q fuel listed a w:=by
 unfold zo at a8;simp only[VB,V2,VV,Xo] at a8;have⟨ae,a8⟩:=a8;unfold uB at bo;simp only[VB,V2,VV,Xo] at bo;have⟨K,bb⟩:=bo;have a5:∀i,fl.getD i false=true->i<ops.size:=λi h=>by
  rcases Wv i fl.length with J|J
  .omega
  .rw[Xv,Xa J] at h;cases h
 have bZ:∀i,∀d∈gg ops i,d<i:=λi d hd=>by
  have⟨o,Z,_⟩:=xF.1 hd;exact (a8 i (Vz.1 Z).1).1 d hd
 have co:∀i,fl.getD i false=true->∃o d,ops[i]?=some o/\o.dst=some d/\d<a0.tmps.size:=λi h=>by
  have:=K i (a5 i h);rw[h] at this;simp at this;cases Z:ops[i]? with
  |none=>rw[Z] at this;cases this
  |some o=>
   rw[Z] at this;cases hd:o.dst with
   |none=>simp only[hd] at this;cases this
   |some d=>simp only[hd,V2] at this;exact⟨o,d,rfl,hd,this⟩
 have b7:∀(listed:Array Bool) (a:Act) (w:World),Lk ops fl al a0 W PV listed a w->(∀i,fl.getD i false=true->listed.getD i false=true)->wpAny P .any ops Q (listed.toList.count false) listed a w:=λlisted a w hI az=>by
  have e1:listed=fl.toArray:=by
   apply Array.ext
   .rw[hI.size];simpa using ae.symm
   .intro i h1 h2;have b8:=by simpa using h2
    have f1:listed.getD i false=listed[i]:=by simp [V6,h1]
    have f2:fl.getD i false=fl[i]:=by simp [Xv,b8]
    have h3:fl.toArray[i]=fl[i]:=s_;rw[h3];cases hx:listed[i] with
    |true=>
     have h:=hI.sub i (by rw[f1,hx]);rw[f2] at h;exact h.symm
    |false=>
     cases hy:fl[i] with
     |false=>rfl
     |true=>
      have h:=az i (by rw[f2,hy]);rw[f1,hx] at h;exact h
  let vs:Nat->Value:=λi=>match ops[i]? with|some o=>(match o.dst with|some d=>a.tmps[d]?.getD undef|none=>undef)|none=>undef
  have b0:∀p∈et ops fl,a.tmps[p.2]?=some (vs p.1)/\PV p.1 (vs p.1) w:=λp G=>by
   have⟨hf,o,Z,hd⟩:=mY.1 G;have⟨v,hv,cA⟩:=hI.val p.1 o p.2 (az _ hf) Z hd;have:vs p.1=v:=by
    show (match ops[p.1]? with|some o=>(match o.dst with|some d=>a.tmps[d]?.getD undef|none=>undef)|none=>undef)=v;rw[Z];simp only[hd,hv,XS]
   rw[this];exact⟨hv,cA⟩
  have e2:a=iX a0 (et ops fl) vs:=by
   have⟨_,h2,h3⟩:=qP vs (et ops fl) a0 0 bb;have ht:a.tmps=(iX a0 (et ops fl) vs).tmps:=by
    apply Array.ext_getElem?;intro t;rw[(qP vs (et ops fl) a0 t bb).1];cases hf:(et ops fl).find? (λp=>p.2==t) with
    |none=>
     rw[X_] at hf;exact hI.bas t λp G e=>hf p G (by simpa using e)
    |some p=>
     have G:=Xb hf;have ht:=by simpa using X0 hf
     have h1:=(b0 p G).1;rw[ht] at h1;have aG:=(Vz.1 h1).1;rw[hI.siz] at aG;simp only[aG,WB];exact h1
   cases a;cases hq:iX a0 (et ops fl) vs;rw[hq] at ht h3;simp only at ht h3;have cW:=hI.dfr;simp only at cW;rw[ht,cW,h3]
  rw[e2,e1];refine U vs w hI.ovr (λp G=>(b0 p G).2) λp G q hq cu cy cv he=>?_;have⟨a6,o1,ax,bz⟩:=mY.1 G;have⟨ab,o2,bs,bp⟩:=mY.1 hq;exact hI.sep p.1 q.1 o1 o2 p.2 q.2 cu cy cv (az _ a6) (az _ ab) ax bs bz bp (by rw[(b0 p G).1,(b0 q hq).1,he])
 intro fuel
 induction fuel with
 |zero=>
  intro listed a w hI hc;rw[<-hc];refine b7 listed a w hI λi hi=>?_;have aG:i<listed.size:=by rw[hI.size];exact a5 i hi
  cases hb:listed[i] with
  |true=>simp [V6,aG,hb]
  |false=>exact absurd (by rw[<-hb];exact Array.getElem_mem_toList aG) (List.count_eq_zero.1 hc)
 |succ fuel g=>
  intro listed a w hI hc;by_cases az:∀i,fl.getD i false=true->listed.getD i false=true
  .rw[<-hc];exact b7 listed a w hI az
  .have a7:∃i,fl.getD i false=true/\listed.getD i false=false:=by
    refine X3 λa4=>az λi hi=>?_;cases hb:listed.getD i false with
    |true=>rfl
    |false=>exact absurd ⟨i,hi,hb⟩ a4
   refine⟨λh0=>?_,λi hi=>?_⟩
   .exfalso;have cZ:∀k i,i<k->fl.getD i false=true->listed.getD i false=false->False:=by
     intro k
     induction k with
     |zero=>intro i h;omega
     |succ k c2=>
      intro i cm hf hb;by_cases a2:∀d∈gg ops i,listed.getD d false=true
      .have aG:=a5 i hf;have hr:i∈Region.ready .any ops listed:=by
        rw[Zk];refine⟨?_,ops[i],by simp [aG],λe he b6=>a2 _ (xF.2 ⟨ops[i],by simp [aG],e,he,b6,rfl⟩)⟩;have hl:i<listed.size:=by rw[hI.size];exact aG
        simpa[V6,hl] using hb
       rw[h0] at hr;cases hr
      .have:∃d∈gg ops i,listed.getD d false=false:=by
        refine X3 λa4=>a2 λd hd=>?_;cases I:listed.getD d false with
        |true=>rfl
        |false=>exact absurd ⟨d,hd,I⟩ a4
       have⟨d,hd,b6⟩:=this;have c7:=by
        have:=(a8 i (a5 i hf)).2;rw[Vo hf,VV] at this;exact this d hd
       exact c2 d (by have:=bZ i d hd;omega) c7 b6
    have⟨i,hi,hb⟩:=a7;exact cZ (i+1) i o_ hi hb
   .have⟨a1,o,Z,a2⟩:=Zk.1 hi;have aG:=(Vz.1 Z).1;have hl:i<listed.size:=by rw[hI.size];exact aG
    have a9:∀d∈gg ops i,listed.getD d false=true:=λd hd=>by
     obtain⟨o',V,e,he,b6,rfl⟩:=xF.1 hd;rw[Z] at V;obtain rfl:=WW V;exact a2 e he b6
    have a3:fl.getD i false=true:=by
     refine X3 λa4=>?_;have:=(a8 i aG).2;rw[Vm a4,VV] at this;have⟨j,hj,cP⟩:=a7;have cB:=this j (Xo.2 (a5 j hj));rw[hj] at cB;simp at cB;have:=Qo (L:=λj=>listed.getD j false=true) (λi h d hd=>hI.clo i h d hd) ops.size i aG (bZ i) (λi' _=>bZ i') a9 j cB;rw[this] at cP;cases cP
    have⟨o',d,V,hd,cc⟩:=co i a3;rw[Z] at V;obtain rfl:=WW V;have H:(i,d)∈et ops fl:=mY.2 ⟨a3,o,Z,hd⟩;refine (F i a3 o Z a w hI.ovr hI.bas (λe he oe t c8 cN=>hI.val e oe t (a9 e he) c8 cN)).wpOp Z (aa i o a3 Z) λv w' hb ⟨cA,cQ⟩=>?_;have bq:∀j,(listed.setIfInBounds i true).getD j false=true↔(j=i\/listed.getD j false=true):=λj=>by
     simp only[V6,Array.getElem?_setIfInBounds];by_cases ac:i=j
     .subst ac;simp [hl]
     .rw[Vm ac];constructor
      .exactλh=>.inr h
      .rintro (h|h)
       .exact absurd h.symm ac
       .exact h
    refine g _ _ _ ⟨by simpa using hI.size,λj hj e he=>?_,λj hj=>?_,λj oj t hj aZ ca=>?_,λt ht=>?_,(tW _ _ _).trans hI.siz,?_,ag hb hI.ovr.size hI.ovr,λx y ox oy dx dy bi aF cz ad ba cb b4 b1 b2=>?_⟩ ?_
    .rw[bq] at hj ⊢;rcases hj with rfl|hj
     .exact .inr (a9 e he)
     .exact .inr (hI.clo j hj e he)
    .rw[bq] at hj;rcases hj with rfl|hj
     .exact a3
     .exact hI.sub j hj
    .rw[bq] at hj;rw[hd,mX];by_cases ac:j=i
     .subst ac;rw[Z] at aZ;obtain rfl:=WW aZ;rw[hd] at ca;obtain rfl:=WW ca;rw[Vo rfl,Vo (by rw[hI.siz];exact cc)];exact⟨v,rfl,cA⟩
     .have cX:=hj.resolve_left ac;have⟨u,hu,b5⟩:=hI.val j oj t cX aZ ca;have hne:d≠t:=λe=>by
       subst e;have c0:(j,d)∈et ops fl:=mY.2 ⟨hI.sub j cX,oj,aZ,ca⟩;exact ac (congrArg Prod.fst (qR bb c0 H rfl))
      rw[Vm hne];exact⟨u,hu,aM j u _ _ b5 hb⟩
    .rw[hd,mX,Vm (ht (i,d) H)];exact hI.bas t ht
    .rw[hd];exact hI.dfr
    .rw[bq] at ad ba;have bv:∀(p q:Nat) (op oq:Oper) (dp dq:Nat),p≠q->p∈al->q∈al->p=i->listed.getD q false=true->ops[p]?=some op->ops[q]?=some oq->op.dst=some dp->oq.dst=some dq->(a.put o.dst v).tmps[dp]?≠(a.put o.dst v).tmps[dq]?:=by
      intro p q op oq dp dq cu cy cv b9 cM aL cG b3 cF;rw[b9] at aL;rw[Z] at aL;obtain rfl:=WW aL;rw[hd] at b3;obtain rfl:=WW b3;have⟨u,hu,b5⟩:=hI.val q oq dq cM cG cF;have hne:d≠dq:=λe=>by
       subst e;have c1:(q,d)∈et ops fl:=mY.2 ⟨hI.sub q cM,oq,cG,cF⟩;exact cu (b9.trans (congrArg Prod.fst (qR bb H c1 rfl)))
      rw[hd,mX,mX,Vo rfl,Vm hne,Vo (by rw[hI.siz];exact cc),hu,cQ (b9▸cy)];have⟨lo,zs,T,c5⟩:=aX q cv;rw[c5] at b5;obtain⟨r,rfl,_,cT⟩:=b5;intro he;have:=cT.lt;simp only[WI,Value.pointer.injEq,YT] at he;omega
     rcases ad with hxi|ad
     .rcases ba with hyi|ba
      .exact absurd (hxi.trans hyi.symm) bi
      .exact bv x y ox oy dx dy bi aF cz hxi ba cb b4 b1 b2
     .rcases ba with hyi|ba
      .exact (bv y x oy ox dy dx (Ne.symm bi) cz aF hyi ad b4 cb b2 b1).symm
      .have bY:∀(z:Nat) (oz:Oper) (dz:Nat),listed.getD z false=true->ops[z]?=some oz->oz.dst=some dz->d≠dz:=λz oz dz bx bX c6 e=>by
        subst e;have c4:(z,d)∈et ops fl:=mY.2 ⟨hI.sub z bx,oz,bX,c6⟩;have c3:z=i:=congrArg Prod.fst (qR bb c4 H rfl);subst c3;have h1:=a1;simp only[V6,X4 hl,XS] at h1 bx;rw[h1] at bx;cases bx
       rw[hd,mX,mX,Vm (bY x ox dx ad cb b1),Vm (bY y oy dy ba b4 b2)];exact hI.sep x y ox oy dx dy bi aF cz ad ba cb b4 b1 b2
    .have h2:listed.toList[i]?=some false:=by
      have:=a1;simp at this;rw[X4 hl] at this;rw[WS,X4 hl];simpa using this
     have:=M2 h2;rw[Array.toList_setIfInBounds];omega
def rJ(ops:Array Oper):List Nat->Array Bool->Bool
 |[],listed=>(Region.ready .any ops listed).isEmpty
 |i::r,listed=>Region.ready .any ops listed==[i]&&rJ ops r (listed.setIfInBounds i true)
theorem BK:∀(l:List Nat) (fuel) (listed:Array Bool) (a) (w),rJ ops l listed=true->l.length=fuel->wpOps P ops Q l a w->wpAny P .any ops Q fuel listed a w
 |[],0,listed,a,w,hc,_,h=>⟨by simpa[rJ] using hc,h⟩
 |i::r,fuel+1,listed,a,w,hc,hf,h=>by
  simp only[rJ,VB,WO] at hc;refine⟨λh0=>(by rw[hc.1] at h0;cases h0),λj hj=>?_⟩;rw[hc.1,VE] at hj;subst hj;rw[wpOps_cons] at h;exact YN (λa w=>BK r fuel _ a w hc.2 (by simpa using hf)) h
 |[],_+1,_,_,_,_,hf,_=>by simp at hf
 |_::_,0,_,_,_,_,hf,_=>by simp at hf
def ff(k m:Nat):List Bool:=List.replicate k true++List.replicate m false
def sL(l:List Oper)(k n:Nat):Bool:=
 decide (k<=l.length)&&zo l.toArray (ff k (l.length - k))&&uB l.toArray (ff k (l.length - k)) n&&(l.take k).all (λo=>o.guard.isNone)&&rJ l.toArray (List.range' k (l.length - k)) (ff k (l.length - k)).toArray
def ul{k m i}:(ff k m).getD i false=true↔i<k:=by
 unfold ff;rw[Xv];rcases Wv i k with h|h
 .rw[WR kH];simp [h]
 .rw[Wp kH];simp;rcases Wv (i - k) m with J|J
  .simp [J];omega
  .simp [J];omega
def QJ(k m):(ff k m).count false=m:=by
 unfold ff;rw[List.count_append];simp [List.count_replicate]
def nB(L:List (Value->av))(i:Nat):Value->av:=(L[i]?).getD λ_ _=>True
def mn:List (Value->av)->Prop
 |[]=>True
 |p::L=>(∀v,aQ (p v))/\mn L
theorem mn.get:∀{L:List (Value->av)},mn L->∀i v,aQ (nB L i v)
 |[],_,_,_=>λ_ _ _ _=>trivial
 |_::_,h,0,v=>h.1 v
 |_::L,h,i+1,v=>by
  have:=mn.get h.2 i v;simpa[nB] using this
def nm(P:Program)(ops:Array Oper)(fl:List Bool)(al:List Nat)(a0:Act)(W:World)(L:List (Value->av)):Nat->Nat->Prop
 |_,0=>True
 |i,k+1=>aS P ops fl al a0 W (nB L) i/\nm P ops fl al a0 W L (i+1) k
theorem nm.get{fl:List Bool}{al:List Nat}{a0}{W}{L:List (Value->av)}:∀{k i j},nm P ops fl al a0 W L i k->i<=j->j<i+k->aS P ops fl al a0 W (nB L) j
 |0,_,_,_,h1,h2=>by omega
 |k+1,i,j,h,h1,h2=>by
  by_cases g:i=j
  .subst g;exact h.1
  .exact nm.get h.2 o_ o_
def vm(L:List (Value->av))(al:List Nat)(k:Nat)(vs:Nat->Value)(w:World):Prop:=
 (∀i,i<k->nB L i (vs i) w)/\∀i j,i<k->j<k->i≠j->i∈al->j∈al->vs i≠vs j
def mH(L:List (Value->av)):List Nat->Prop
 |[]=>True
 |i::al=>(∃lo zs T,nB L i=PA lo zs T)/\mH L al
theorem mH.get{L:List (Value->av)}:∀{al:List Nat},mH L al->∀i∈al,∃lo zs T,nB L i=PA lo zs T
 |[],_,i,h=>by cases h
 |j::al,h,i,hi=>by
  rcases VL.1 hi with rfl|hi
  .exact h.1
  .exact mH.get h.2 i hi
def ut{n i}(h:(Array.replicate n false).getD i false=true):False:=by
 rw[V6,Array.getElem?_replicate] at h;split at h<;>simp at h
section
variable {o:Oper}{ρ:Operand->Value}{w:World}{R:Value->av}
def bn.value(v)(h:(execOp ρ o).run P w=.ok (.value v) w)(hR:R v w):bn P o ρ w R:=.inl ⟨v,w,h,Vn _ _,hR⟩
def bn.make(v)(w')(h:(execOp ρ o).run P w=.ok (.value v) w')(hb:af w w w')(hR:R v w'):bn P o ρ w R:=.inl ⟨v,w',h,hb,hR⟩
def bn.call(f:FuncId)(args)(g)(xs:Array Operand)(F:Array TypeId)(Z:o.op=.call {callee:=.value g,args:=xs,argTypes:=F})(hg:ρ g=.func (.func f) #[] #[])
 (eg:∀args w,(callFunc f args).run P w=.ok (.enter f args) w)(ha:xs.map ρ=args)(hc:Calls P f args w λe w'=>∃v,e=.returned v/\af w w w'/\R v w'):bn P o ρ w R:=by
 refine .inr ⟨f,args,?_,hc⟩;unfold execOp;rw[Z];simp [resolve,hg,Deferred.ofValue,invoke,eg,ha]
def bn.alloc{lo}{zs}{T}(Z:o.op=.alloc T)(hr:∀w,(Instr.alloc T true (.tuple #[])).run P w=.ok (.pointer w) (w.alloc (.cells zs T)))(H:lo<=w.heap.size):
 bn P o ρ w λv w'=>PA lo zs T v w'/\v=.pointer w:=
 .make _ (w.alloc (.cells zs T)) (by unfold execOp;rw[Z];simp [hr]) ((Vn _ _).alloc (Vj _) _) ⟨⟨_,rfl,H,ah.new w zs T⟩,rfl⟩
end
def UN(ops:Array Oper)(fl:List Bool)(t:Nat):Bool:=(et ops fl).all λp=>p.2 != t
def KR(ops:Array Oper)(i d t:Nat):Bool:=(gg ops i).contains d&&(ops[d]?.bind (·.dst))==some t
def Q8(l:List Value)(d:List Deferred)(t:Nat):Act.eval ⟨l.toArray,d⟩ (.tmp t)=(l[t]?).getD undef:=by
 simp [Act.eval,V6]
def S5{a:Act}{t:Nat}{v}(h:a.tmps[t]?=some v):a.eval (.tmp t)=v:=by
 simp [Act.eval,V6,h]
structure qp (ops:Array Oper)(fl:List Bool)(l0:List Value)(W:World)(PV:Nat->Value->World->Prop)(i:Nat)(ρ:Operand->Value)(w:World):Prop where
 con:∀v,ρ (.const v)=v
 fn:∀f,ρ (.func f)=.func (.func f) #[] #[]
 bel:af W W w
 bas:∀t,UN ops fl t=true->ρ (.tmp t)=(l0[t]?).getD undef
 dep:∀d t,KR ops i d t=true->∃v,ρ (.tmp t)=v/\PV d v w
def qp.of{fl:List Bool}{l0}{d0:List Deferred}{W:World}{PV:Nat->Value->av}{i}{a:Act}{w}(hB:af W W w)(hb:∀t,(∀p∈et ops fl,p.2≠t)->a.tmps[t]?=(⟨l0.toArray,d0⟩:Act).tmps[t]?)
 (hd:∀d∈gg ops i,∀od t,ops[d]?=some od->od.dst=some t->∃v,a.tmps[t]?=some v/\PV d v w):qp ops fl l0 W PV i a.eval w:=by
 refine⟨λ_=>rfl,λ_=>rfl,hB,λt ht=>?_,λd t h=>?_⟩
 .have h1:=hb t (λp G=>by
   have:=VV.1 ht p G;simpa using this)
  rw[<-Q8 l0 d0 t];simp only[Act.eval,V6,h1]
 .unfold KR at h;simp at h;have⟨h1,h2⟩:=h;cases Z:ops[d]? with
  |none=>rw[Z] at h2;simp at h2
  |some od=>
   rw[Z] at h2;have⟨v,hv,G⟩:=hd d h1 od t Z (by simpa using h2);exact⟨v,S5 hv,G⟩
def aS.q{fl:List Bool}{al:List Nat}{l0}{d0:List Deferred}{W}{PV:Nat->Value->av}{i}(o)(Z:ops[i]?=some o)(hi:al.contains i=false)
 (h:∀ρ w,qp ops fl l0 W PV i ρ w->bn P o ρ w (PV i)):aS P ops fl al ⟨l0.toArray,d0⟩ W PV i:=by
 intro o' V a w hB hb hd;rw[Z] at V;obtain rfl:=WW V;have hn:=by simpa using hi
 rcases (h a.eval w (qp.of hB hb hd)) with ⟨v,w',hr,I,hR⟩|⟨f,args,hr,hc⟩
 .exact .inl ⟨v,w',hr,I,hR,λh=>absurd h hn⟩
 .exact .inr ⟨f,args,hr,hc.mono λe w' ⟨v,he,I,hR⟩=>⟨v,he,I,hR,λh=>absurd h hn⟩⟩
def aS.a{fl:List Bool}{al:List Nat}{l0}{d0:List Deferred}{W}{PV:Nat->Value->av}{i}(o)(Z:ops[i]?=some o)
 (h:∀ρ w,qp ops fl l0 W PV i ρ w->bn P o ρ w λv w'=>PV i v w'/\v=.pointer w):aS P ops fl al ⟨l0.toArray,d0⟩ W PV i:=by
 intro o' V a w hB hb hd;rw[Z] at V;obtain rfl:=WW V;rcases (h a.eval w (qp.of hB hb hd)) with ⟨v,w',hr,I,hR⟩|⟨f,args,hr,hc⟩
 .exact .inl ⟨v,w',hr,I,hR.1,λ_=>hR.2⟩
 .exact .inr ⟨f,args,hr,hc.mono λe w' ⟨v,he,I,hR⟩=>⟨v,he,I,hR.1,λ_=>hR.2⟩⟩
def eM(vs:Nat->Value):List Value->Nat->List (Nat×Nat)->List Value
 |[],_,_=>[]
 |x::l,_,[]=>x::l
 |x::l,t,p::H=>cond (p.2==t) (vs p.1::eM vs l (t+1) H) (x::eM vs l (t+1) (p::H))
def mJ:Nat->List (Nat×Nat)->Bool
 |_,[]=>true
 |t,p::H=>decide (t<=p.2)&&mJ (p.2+1) H
theorem xq(vs:Nat->Value):∀(l) (t) (H:List (Nat×Nat)),mJ t H=true->∀s,(eM vs l t H)[s]?=match H.find? (λp=>p.2==t+s) with|some p=>if s<l.length then some (vs p.1) else none|none=>l[s]?
 |[],_,H,_,s=>by
  unfold eM;split<;>simp
 |x::l,t,[],_,s=>by simp [eM]
 |x::l,t,p::H,h,s=>by
  simp only[mJ,VB,V2] at h;have a4:∀{u n} {H:List (Nat×Nat)},mJ n H=true->u<n->H.find? (λp=>p.2==u)=none:=by
   intro u n H
   induction H generalizing n with
   |nil=>intros;rfl
   |cons q H g=>
    intro hr hu;simp only[mJ,VB,V2] at hr;rw[Yz,show (q.2==u)=false by simp;omega];exact g hr.2 o_
  rw[eM];by_cases G:p.2=t
  .rw[show (p.2==t)=true by simpa using G,WT];cases s with
   |zero=>simp [G]
   |succ s=>
    have g:=xq vs l (t+1) H (by rw[<-G];exact h.2) s;rw[VZ,g,Yz,show (p.2==t+(s+1))=false by simp;omega,show t+1+s=t+(s+1) by omega];simp
  .rw[show (p.2==t)=false by simpa using G,WK];cases s with
   |zero=>
    rw[V0,Yz,show (p.2==t+0)=false by simp;omega,a4 h.2 o_];simp
   |succ s=>
    have g:=xq vs l (t+1) (p::H) (by simp only[mJ,VB,V2];exact⟨o_,h.2⟩) s;rw[VZ,g,show t+1+s=t+(s+1) by omega];simp
def vv(H g:List (Nat×Nat)):Bool:=mJ 0 H&&H.all (λp=>g.contains p)&&g.all (λp=>H.contains p)&&decide ((g.map (·.2)).Nodup)
theorem Cx:∀{n} {H:List (Nat×Nat)},mJ n H=true->(H.map (·.2)).Nodup/\∀p∈H,n<=p.2
 |_,[],_=>⟨List.nodup_nil,λp G=>by cases G⟩
 |n,q::H,h=>by
  simp only[mJ,VB,V2] at h;have⟨h1,h2⟩:=Cx h.2;refine⟨?_,λp G=>?_⟩
  .rw[WU,Zj];refine⟨λhm=>?_,h1⟩;have⟨p,G,he⟩:=X9.1 hm;have:=h2 p G;omega
  .rcases VL.1 G with rfl|G
   .exact h.1
   .have:=h2 p G;omega
def PR{H g:List (Nat×Nat)}(hn:(H.map (·.2)).Nodup)(h:∀p∈H,p∈g)(J:∀p∈g,p∈H)(t):H.find? (λp=>p.2==t)=g.find? (λp=>p.2==t):=by
 cases hf:H.find? (λp=>p.2==t) with
 |none=>
  cases hf':g.find? (λp=>p.2==t) with
  |none=>rfl
  |some q=>
   rw[X_] at hf;exact absurd (X0 hf') (hf q (J q (Xb hf')))
 |some p=>
  cases hf':g.find? (λp=>p.2==t) with
  |none=>
   rw[X_] at hf';exact absurd (X0 hf) (hf' p (h p (Xb hf)))
  |some q=>
   have e1:=by simpa using X0 hf
   have e2:=by simpa using X0 hf'
   rw[qR hn (Xb hf) (J q (Xb hf')) (e1.trans e2.symm)]
def Cr{vs:Nat->Value}{l0}{d0:List Deferred}{H g:List (Nat×Nat)}(h:vv H g=true):iX ⟨l0.toArray,d0⟩ g vs=⟨(eM vs l0 0 H).toArray,d0⟩:=by
 unfold vv at h;simp only[VB,V2,VV,Zu] at h;have⟨⟨⟨h1,h2⟩,h3⟩,h4⟩:=h;have⟨_,_,J⟩:=qP vs g ⟨l0.toArray,d0⟩ 0 h4;have ht:(iX ⟨l0.toArray,d0⟩ g vs).tmps=(eM vs l0 0 H).toArray:=by
  apply Array.ext_getElem?;intro t;rw[(qP vs g ⟨l0.toArray,d0⟩ t h4).1];simp only[V4];rw[xq vs l0 0 H h1,V9,PR ((Cx h1).1) h2 h3];cases g.find? (λp=>p.2==t) with
  |none=>simp
  |some p=>simp
 cases hq:iX ⟨l0.toArray,d0⟩ g vs;rw[hq] at ht J;simp only at ht J;rw[ht,J]
def C3{l}{a0}{W}(k)(al:List Nat)(L:List (Value->av))(hk:sL l k a0.tmps.size=true)
 (aX:mH L al)(aM:mn L)(F:nm P l.toArray (ff k (l.length - k)) al a0 W L 0 k)
 (U:∀(vs:Nat->Value) (w),af W W w->vm L al k vs w->wpList P l.toArray Q (l.drop k) (iX a0 (et l.toArray (ff k (l.length - k))) vs) w):∀W1,af W W W1->wpAny P .any l.toArray Q l.length (Array.replicate l.length false) a0 W1:=by
 intro W1 a7;unfold sL at hk;simp only[VB,V2] at hk;have⟨⟨⟨⟨b2,a8⟩,bo⟩,aa⟩,hch⟩:=hk;have K:∀i,i<k->∃d,(i,d)∈et l.toArray (ff k (l.length - k)):=λi hi=>by
  unfold uB at bo;simp only[VB,V2,VV,Xo] at bo;have h1:=bo.1 i u_;rw[ul.2 hi] at h1;simp only[Bool.not_true,Bool.false_or] at h1;cases Z:l.toArray[i]? with
  |none=>rw[Z] at h1;cases h1
  |some o=>
   rw[Z] at h1;cases hd:o.dst with
   |none=>simp only[hd] at h1;cases h1
   |some d=>exact⟨d,mY.2 ⟨ul.2 hi,o,Z,hd⟩⟩
 refine NV (fl:=ff k (l.length - k)) (al:=al) (a0:=a0) (W:=W) (PV:=nB L) a8 bo (λi o hi Z=>?_) (mH.get aX) (mn.get aM) (λi hi=>F.get (VH _) (by have:=ul.1 hi;omega)) (λvs w hb G hs=>?_) _ _ _ _ ?_ s_
 .have h2:=VV.1 aa o (List.mem_of_getElem? (i:=i) (by rw[VU (ul.1 hi)];simpa using Z));simpa using h2
 .refine BK (List.range' k (l.length - k)) _ _ _ _ hch (by rw[QJ];simp) ?_;have e:=wpOps_eq_wpList (P:=P) (ops:=l.toArray) (Q:=Q) (l.drop k) k (λj=>by simp);rw[WF] at e;rw[e];refine U vs w hb ⟨λi hi=>?_,λi j hi hj g aZ H=>?_⟩
  .have⟨d,hd⟩:=K i hi;exact G _ hd
  .have⟨d,hd⟩:=K i hi;have⟨e,he⟩:=K j hj;exact hs _ hd _ he g aZ H
 .exact⟨s_,λi hi=>(ut hi).elim,λi hi=>(ut hi).elim,λi _ _ hi=>(ut hi).elim,λ_ _=>rfl,rfl,rfl,a7,λi _ _ _ _ _ _ _ _ hi=>(ut hi).elim⟩
def MY{id}{l}{a0}{W}(k)(al:List Nat)(L:List (Value->av))(hm:P.follows .mixedOrders=true)(hk:sL l k a0.tmps.size=true)
 (aX:mH L al)(aM:mn L)(F:nm P l.toArray (ff k (l.length - k)) al a0 W L 0 k)
 (U:∀(vs:Nat->Value) (w),af W W w->vm L al k vs w->wpList P l.toArray Q (l.drop k) (iX a0 (et l.toArray (ff k (l.length - k))) vs) w):(Code.region id l.toArray true).wp P Q a0 W:=by
 refine wp_region_any hm ?_;have:=C3 (P:=P) (Q:=Q) k al L hk aX aM F U W.drew (Vn _ _).drew;simpa using this
def jl{id}{l}{l0}{d0:List Deferred}{W}(k)(al:List Nat)(H:List (Nat×Nat))(L:List (Value->av))(hm:P.follows .mixedOrders=true)(hk:sL l k l0.length=true)(G:vv H (et l.toArray (ff k (l.length - k)))=true)
 (aX:mH L al)(aM:mn L)(F:nm P l.toArray (ff k (l.length - k)) al ⟨l0.toArray,d0⟩ W L 0 k)
 (U:∀(vs:Nat->Value) (w),af W W w->vm L al k vs w->wpList P l.toArray Q (l.drop k) ⟨(eM vs l0 0 H).toArray,d0⟩ w):(Code.region id l.toArray true).wp P Q ⟨l0.toArray,d0⟩ W:=
 MY k al L hm vQ aX aM F λvs w hb hd=>by
  rw[Cr G];exact U vs w hb hd
def Iy(ops:Array Oper):Bool:=(List.range ops.size).all λi=>(Region.ready .any ops (ff i (ops.size - i)).toArray).contains i
def TF{k m}:(ff k (m+1)).toArray.setIfInBounds k true=(ff (k+1) m).toArray:=by
 unfold ff;simp only[V7];congr 1;rw[Zh,Vm s_,Zs,XB,YE,Wj,List.replicate_succ',VX];rfl
theorem Ck(ht:Iy ops=true):∀(m k) (a) (w),k+m=ops.size->wpAny P .any ops Q m (ff k m).toArray a w->wpOps P ops Q (List.range' k m) a w
 |0,_,_,_,_,h=>h.2
 |m+1,k,a,w,hk,h=>by
  rw[List.range'_succ,wpOps_cons];have h1:=VV.1 ht k (Xo.2 o_);rw[show ops.size - k=m+1 by omega,Zu,V2] at h1;refine YN (λa w h2=>Ck ht m (k+1) a w o_ ?_) (h.2 k h1);rw[TF] at h2;exact h2
def Br{id}{l}{l0}{d0:List Deferred}{W}(k)(al:List Nat)(H:List (Nat×Nat))(L:List (Value->av))(ht:Iy l.toArray=true)(hk:sL l k l0.length=true)(G:vv H (et l.toArray (ff k (l.length - k)))=true)
 (aX:mH L al)(aM:mn L)(F:nm P l.toArray (ff k (l.length - k)) al ⟨l0.toArray,d0⟩ W L 0 k)
 (U:∀(vs:Nat->Value) (w),af W W w->vm L al k vs w->wpList P l.toArray Q (l.drop k) ⟨(eM vs l0 0 H).toArray,d0⟩ w):(Code.region id l.toArray false).wp P Q ⟨l0.toArray,d0⟩ W:=by
 refine wp_region ?_;have h:=C3 (a0:=⟨l0.toArray,d0⟩) k al L vQ aX aM F (λvs w hb hd=>by
  rw[Cr G];exact U vs w hb hd) W (Vn _ _)
 rw[List.range_eq_range'];simpa using (Ck ht l.length 0 _ _ s_ (by simpa[ff] using h))
end
def IF(h:P:=by
 show w1.ownsRow _ _ _ _ _ _;rw[VI,Ng];exact J):=h
def Hh(h:P:=by
 intro v' w1 J I _ bY;refine h v' w1 ?_ ?_ I (bY.imp id λh=>⟨_,h,s_⟩)
 .exact IF
 .exact Jh):=h
def eZ(L:List (Int×Int×Int)):List Value:=L.flatMap λp=>[.int .i64 p.1,.int .i64 p.2.1,.int .i64 p.2.2]
def Ng(L M:List (Int×Int×Int)):eZ (L++M)=eZ L++eZ M:=by simp [eZ]
def xi(L:List (Int×Int×Int))(p:Int×Int×Int):eZ (p::L)=.int .i64 p.1::.int .i64 p.2.1::.int .i64 p.2.2::eZ L:=by simp [eZ]
def xC(L:List (Int×Int×Int)):∀i (h:i<L.length),(eZ L)[i*3]?=some (.int .i64 L[i].1)/\(eZ L)[i*3+1]?=some (.int .i64 L[i].2.1)/\(eZ L)[i*3+2]?=some (.int .i64 L[i].2.2):=by
 induction L with
 |nil=>intro i h;simp at h
 |cons p L g=>
  intro i h;rw[xi];cases i with
  |zero=>simp
  |succ i=>
   have:=g i kH;rw[show (i+1)*3=i*3+3 by omega];simpa using this
def bI(w:World)(G:Nat)(v:Value)(L:List (Int×Int×Int)):Prop:=w.ownsRow G 46 3 v L.length (eZ L)
def bI.nil(w)(G):bI w G (.slice none 0 0) []:=XK _ _ _ _
def bI.below{w w1}{G}{v}{L:List (Int×Int×Int)}(h:bI w G v L)(hb:af w w w1):bI w1 G v L:=by
 exact wv
def bI.le{w}{G base'}{v}{L:List (Int×Int×Int)}(h:bI w G v L)(hb:base'<=G):bI w base' v L:=
 ⟨h.1,h.2.elim Or.inl (λ⟨g,F,cur,hv,hg,r⟩=>Or.inr ⟨g,F,cur,hv,Vl hb hg,r⟩)⟩
def bI.lt{w}{G}{v}{L:List (Int×Int×Int)}(h:bI w G v L):∀k,v.ownBlock=some k->G<=k/\k<w.heap.size:=Wb h
def bI.form{w}{G}{v}{L:List (Int×Int×Int)}(h:bI w G v L):
 ∃(a:ck) (F:Nat),v=.slice a L.length F/\∀i (_:i<L.length),∃g,a=some ⟨g,0,none⟩/\w.cell? ⟨g,i*3,none⟩=some (.int .i64 L[i].1)/\w.cell? ⟨g,i*3+1,none⟩=some (.int .i64 L[i].2.1)/\w.cell? ⟨g,i*3+2,none⟩=some (.int .i64 L[i].2.2)/\
  g<w.heap.size/\G<=g:=by
 rcases h.2 with ⟨hv,hn⟩|⟨g,F,cur,hv,hg,hh,_,_,_,ht⟩
 .exact Af
 .have key:∀(i k:Nat) (hi:i<L.length) (hk:k<3) (u:Value),(eZ L)[i*3+k]?=some u->w.cell? ⟨g,i*3+k,none⟩=some u:=λi k hi hk u hu=>by
   have h4:(cur.toList.take (L.length*3))[i*3+k]?=cur.toList[i*3+k]?:=VU o_;exact IJ
  refine⟨some ⟨g,0,none⟩,F,hv,λi hi=>⟨g,rfl,?_,?_,?_,(Vz.1 hh).1,hg⟩⟩
  .exact key i 0 hi o_ _ (xC L i hi).1
  .exact key i 1 hi o_ _ (xC L i hi).2.1
  .exact key i 2 hi o_ _ (xC L i hi).2.2
def Tryz.infoQ:(prog.info? 46).map (λi=>(i.zero,i.size,i.bytes))=some (some (.agg #[(),(),()]),3,24):=by kernel_rfl
def xd{ops}{rest}{o}{a}{Q}{wr}{p:Int×Int×Int}(aa:o.guard=none)(s x)
 (Z:o.op=.call {callee:=.builtin .append,args:=#[s,x],argTypes:=#[105,105]})
 (G)(v)(L:List (Int×Int×Int))(hs:a.eval s=v)(V:bI wr G v L)(hx:a.eval x=.slice wr 1 1)
 (ae:L.length<1000000000000)(H:G<=wr.heap.size)
 (h:∀v' w1,bI w1 G v' (L++[p])->af G wr w1->(wr.alloc (.cells #[p.1,p.2.1,p.2.2] 46)).grownBy w1 v.ownBlock->(v'.ownBlock=v.ownBlock\/∃k,v'.ownBlock=some k/\wr.heap.size<=k)->wpList prog ops Q rest (a.put o.dst v') w1):
 wpList prog ops Q (o::rest) a (wr.alloc (.cells #[p.1,p.2.1,p.2.2] 46)):=by
 have⟨U,hi,bi,ac,ba⟩:=WL Tryz.infoQ;refine wpList_append_own_at _ aa s x 105 Z G 46 U (.agg #[(),(),()]) 3 24 underlying105 hi bi ac ba rfl d_ v L.length (eZ L) hs (XF V _) ⟨wr,0,none⟩ 1 1 [.int .i64 p.1,.int .i64 p.2.1,.int .i64 p.2.2] hx rfl ?_ ?_ ?_ ?_ ?_ ?_
 .intro j u hj
  match j,hj with
  |0,hj=>simp at hj;subst hj;simp [Addr.add]
  |1,hj=>simp at hj;subst hj;simp [Addr.add]
  |2,hj=>simp at hj;subst hj;simp [Addr.add]
 .intro u hu;simp at hu;rcases hu with rfl|rfl|rfl<;>rfl
 .unfold maxLen;omega
 .omega
 .simp;omega
 .exact Hh
def NG{ops}{rest}{o}{a}{Q}{wr}{p q:Int×Int×Int}(aa:o.guard=none)(s x)
 (Z:o.op=.call {callee:=.builtin .append,args:=#[s,x],argTypes:=#[105,105]})
 (G)(v)(L:List (Int×Int×Int))(hs:a.eval s=v)(V:bI wr G v L)(hx:a.eval x=.slice wr 2 2)
 (ae:L.length<1000000000000)(H:G<=wr.heap.size)
 (h:∀v' w1,bI w1 G v' (L++[p,q])->af G wr w1->(wr.alloc (.cells #[p.1,p.2.1,p.2.2,q.1,q.2.1,q.2.2] 46)).grownBy w1 v.ownBlock->(v'.ownBlock=v.ownBlock\/∃k,v'.ownBlock=some k/\wr.heap.size<=k)->wpList prog ops Q rest (a.put o.dst v') w1):
 wpList prog ops Q (o::rest) a (wr.alloc (.cells #[p.1,p.2.1,p.2.2,q.1,q.2.1,q.2.2] 46)):=by
 have⟨U,hi,bi,ac,ba⟩:=WL Tryz.infoQ;refine wpList_append_own_at _ aa s x 105 Z G 46 U (.agg #[(),(),()]) 3 24 underlying105 hi bi ac ba rfl d_ v L.length (eZ L) hs (XF V _) ⟨wr,0,none⟩ 2 2 [.int .i64 p.1,.int .i64 p.2.1,.int .i64 p.2.2,.int .i64 q.1,.int .i64 q.2.1,.int .i64 q.2.2] hx rfl ?_ ?_ ?_ ?_ ?_ ?_
 .intro j u hj
  match j,hj with
  |0,hj=>simp at hj;subst hj;simp [Addr.add]
  |1,hj=>simp at hj;subst hj;simp [Addr.add]
  |2,hj=>simp at hj;subst hj;simp [Addr.add]
  |3,hj=>simp at hj;subst hj;simp [Addr.add]
  |4,hj=>simp at hj;subst hj;simp [Addr.add]
  |5,hj=>simp at hj;subst hj;simp [Addr.add]
 .intro u hu;simp at hu;rcases hu with rfl|rfl|rfl|rfl|rfl|rfl<;>rfl
 .unfold maxLen;omega
 .omega
 .simp;omega
 .exact Hh
def bI.built(w:World)(p:Int×Int×Int):bI (w.alloc (.cells #[p.1,p.2.1,p.2.2] 46)) w (.slice w 1 1) [p]:=by
 refine⟨by simp [eZ],.inr ⟨w,1,#[p.1,p.2.1,p.2.2],rfl,Vj _,?_,?_,?_,?_,?_⟩⟩
 .exact ah.new w _ _
 .simp
 .unfold maxLen;omega
 .simp
 .simp [eZ]
def fV(A B x:Int):Int:=x*x*x+A*x+B
def Um(A B p x):(x*x % p*x+A*x+B) % p=fV A B x % p:=
 (((Cg.mod' (Cg.refl p _)).mul (Cg.refl p x)).add (Cg.refl p (A*x))).add (Cg.refl p B)
def IL{A p x}(hA:bh A)(hx:0<=x/\x<=1000)(G:1<=p/\p<=1000):(0<=x*x/\x*x<=1000000)/\(0<=x*x*x/\x*x*x<=1000000000)/\(-1000000<=A*x/\A*x<=1000000)/\(0<=x*x % p/\x*x % p<p)/\(0<=x*x % p*x/\x*x % p*x<=1000000):=by
 have h1:=aN (x:=x) (y:=x) 1000 1000 o_ o_;have h0:=VP hx.1 hx.1;have h2:=aN (x:=x*x) (y:=x) 1000000 1000 o_ o_;have h3:=aN (x:=A) (y:=x) 1000 1000 o_ o_;have h4:=Ue (x*x) p o_;have h5:=aN (x:=x*x % p) (y:=x) 1000 1000 o_ o_;have h6:=VP h0 hx.1;have h7:=VP h4.1 hx.1;omega
def DM(a n p):ej (a % p) n p=ej a n p:=rh _ _ _
def Rg(a p):gA (a % p) p=gA a p:=by unfold gA;simp only[DM]
def RB(a p):fc (a % p) p=fc a p:=by unfold fc;simp only[DM]
def Oc(A B p x:Int)(hA:bh A)(hB:a_ B)(G:1<=p/\p<=1000)(hx:0<=x/\x<=1000)(w):
 Rv 263 #[.agg #[A,B],p,x] w (fV A B x % p:Int):=by
 have⟨b1,_,b3,_,b5⟩:=IL (p:=p) hA hx G;have cc:p≠0:=o_;go_enter func263,ntmps263;go_wp2
 go_region_held3 (λw'=>w'.cell? w=some (.int .i64 A)/\w'.cell? ⟨w,1,none⟩=some (.int .i64 B)/\w.heap.size<w'.heap.size/\w.heap.size<=w'.heap.size/\af w w w')
  (first|(exact AT se se)|(exact Fo se)|assumption|(exact⟨s_,s_,s_,s_,((Vn _ _).alloc (Vj _) _).drew⟩)|(exact⟨s_,s_,s_,s_,(((Vn _ _).alloc (Vj _) _).alloc s_ _).drew⟩))
  (first
    |(go_at_call 304;refine (xZ _ _ o_ o_ _).mono ?_;rintro e w' ⟨rfl,rfl⟩))
 all_goals go_wp2
 all_goals go_ret
 all_goals
  rename_i hS;refine⟨EF ?_,hS.2.2.2.2⟩;rw[<-(h_ (Um A B p x)).out];simp (disch:=omega) only[Wg,WC]
def ib.new{v:Value}{xs:List Int}{w:World}(h:RdB w w.heap.size v xs):ib w.heap.size w.heap.size v xs 0 (w.alloc (.cells #[v,(),.int .u64 0] 74)):=
 ⟨Vj _,s_,h.below ((Vn _ _).alloc (Vj _) _) (Vj _),0,0,Vj _,o_,o_,ah.new w _ _⟩
def H7(h:P:=by simp [results,results254,go_sem]):=h
def Hg(h:P:=by simp [results,results286,go_sem]):=h
def EP{a b:Int}(hb:1<=b)(h:a.tmod b<0):a.tdiv b - 1=a / b:=by
 have e:=Int.tmod_add_mul_tdiv a b;have h2:-b<a.tmod b:=by
  have:=Int.tmod_lt_of_pos (-a) (show 0<b by omega);rw[Int.neg_tmod] at this;omega
 have:a=(a.tmod b+b)+b*(a.tdiv b - 1):=by rw[Int.mul_sub];omega
 rw[this,XQ _ _ o_,XJ o_ o_,<-this];omega
def Ew{a b:Int}(hb:1<=b)(h:¬a.tmod b<0):a.tdiv b=a / b:=by
 have h2:a.tmod b<b:=Int.tmod_lt_of_pos a o_;have:=(Int.tmod_add_mul_tdiv a b).symm
 conv=>rhs;rw[this]
 rw[XQ _ _ o_,XJ o_ h2];omega
def Fz{a b:Int}(hb:1<=b)(ha:iZ a):-4000000000000000000<=a.tdiv b/\a.tdiv b<=4000000000000000000:=by
 have h:(a.tdiv b).natAbs<=a.natAbs:=by rw[Zm];exact Zo _ _
 omega
def CE(a b:Int)(ha:iZ a)(hb:1<=b/\b<=4000000000000000000)(w):
 Kp 254 #[a,b] w λe w'=>e=.returned (a / b:Int)/\w'=w:=by
 have ba:¬b=0:=o_;have hq:=Fz hb.1 ha;by_cases h:a.tmod b<0
 .have hE:=h_ (EP hb.1 h);obtain⟨q,g⟩:∃q,a.tdiv b=q:=⟨_,rfl⟩
  rw[g] at hE hq;go_enter func254,ntmps254;go_wp2;exact Vk (v:=.int .i64 (q - 1)) H7 rfl ⟨by rw[hE.out],rfl⟩
 .have hE:=h_ (Ew hb.1 h);obtain⟨q,g⟩:∃q,a.tdiv b=q:=⟨_,rfl⟩
  rw[g] at hE hq;go_enter func254,ntmps254;go_wp2;exact Vk (v:=.int .i64 q) H7 rfl ⟨by rw[hE.out],rfl⟩
def Ds(a b:Int)(ha:iZ a)(hb:1<=b/\b<=4000000000000000000)(w):
 Kp 286 #[a,b] w λe w'=>e=.returned (a / b:Int)/\w'=w:=by
 have hz:(b==0)=false:=u_;have ba:¬b=0:=o_;have hq:=Fz hb.1 ha;by_cases h:a.tmod b<0
 .have hE:=h_ (EP hb.1 h);obtain⟨q,g⟩:∃q,a.tdiv b=q:=⟨_,rfl⟩
  rw[g] at hE hq;go_enter func286,ntmps286;go_wp2;exact Vk (v:=.int .i64 (q - 1)) Hg rfl ⟨by rw[hE.out],rfl⟩
 .have hE:=h_ (Ew hb.1 h);obtain⟨q,g⟩:∃q,a.tdiv b=q:=⟨_,rfl⟩
  rw[g] at hE hq;go_enter func286,ntmps286;go_wp2;exact Vk (v:=.int .i64 q) Hg rfl ⟨by rw[hE.out],rfl⟩
def Ic{n d m e}(hn:sV n)(hd:1<=d/\d<=1000000000)(hm:sV m)(he:1<=e/\e<=1000000000):
 (-1000000000000000000<=n*e/\n*e<=1000000000000000000)/\(-1000000000000000000<=m*d/\m*d<=1000000000000000000)/\(1<=d*e/\d*e<=1000000000000000000)/\(-1000000000000000000<=n*m/\n*m<=1000000000000000000)/\(-1000000000000000000<=d*m/\d*m<=1000000000000000000):=by
 have h1:=aN (x:=n) (y:=e) 1000000000 1000000000 hn o_;have h2:=aN (x:=m) (y:=d) 1000000000 1000000000 hm o_;have h3:=aN (x:=d) (y:=e) 1000000000 1000000000 o_ o_;have h4:=aN (x:=n) (y:=m) 1000000000 1000000000 hn hm;have h5:=aN (x:=d) (y:=m) 1000000000 1000000000 o_ hm;have h6:=Vs hd.1 he.1 o_ o_;omega
def Ez{a:Int}(h:a≠0):(a:Rat)≠0:=λe=>h (Rat.intCast_eq_zero_iff.1 e)
def rD{n d}(hd:d≠0):bK n d≠0/\n=bK n d*bc n d/\d=bK n d*aO n d:=by
 have hg:0<Int.gcd n d:=YA.2 (.inr hd);have g1:=WA n d;have g2:=Wi n d;have h1:bK n d∣n/\bK n d∣d/\bK n d≠0:=by
  unfold bK au;split
  .exact⟨Int.neg_dvd.2 g1,Int.neg_dvd.2 g2,o_⟩
  .exact⟨g1,g2,o_⟩
 refine⟨h1.2.2,?_,?_⟩
 .exact (XT h1.1).symm
 .exact (XT h1.2.1).symm
def iW(A B p:Int):Nat->Int
 |0=>0
 |k+1=>iW A B p k+fc (fV A B k) p
def gC(A B p:Int):Int:=p+1+iW A B p p.toNat
def zd(a p)(h:cH p=true)(h3:3<=p)(h1:p<1000):-1<=fc a p/\fc a p<=1:=by
 rw[<-uL a p h h3 h1];unfold gA;split<;>(try split)<;>omega
theorem uj(A B p)(h:cH p=true)(h3:3<=p)(h1:p<1000):∀k:Nat,-(k)<=iW A B p k/\iW A B p k<=k
 |0=>by simp [iW]
 |k+1=>by
  have:=uj A B p h h3 h1 k;have:=zd (fV A B k) p h h3 h1;unfold iW;omega
def RA(n d m e)(hA:bQ n d=true)(hB:bQ m e=true)(w):
 Kp 329 #[.agg #[n,d],.agg #[m,e]] w λr w'=>r=.returned (decide (n*e<m*d))/\af w w w':=by
 have⟨hd,hn⟩:=jZ hA;have⟨he,hm⟩:=jZ hB;have⟨b1,b2,_,_,_⟩:=Ic hn hd hm he;go_enter func329,ntmps329;go_wp2;exact iC
def Q4(n d m e)(hA:bQ n d=true)(hB:bQ m e=true)(w):
 Kp 345 #[.agg #[n,d],.agg #[m,e]] w λr w'=>r=.returned (.tuple #[decide (n*e<m*d),true])/\af w w w':=by
 have⟨hd,hn⟩:=jZ hA;have⟨he,hm⟩:=jZ hB;have⟨b1,b2,_,_,_⟩:=Ic hn hd hm he;have hx:Bx w n (.int .i64 d) ((w.alloc (.cells #[n,d] 96)).alloc (.cells #[m,e] 96)):=⟨by simp [go_sem],by simp [go_sem],by simp [go_sem],by simp [go_sem],u_⟩
 have hy:Bx (w.heap.size+1) m (.int .i64 e) ((w.alloc (.cells #[n,d] 96)).alloc (.cells #[m,e] 96)):=⟨by simp [go_sem],by simp [go_sem],by simp [go_sem],by simp [go_sem],s_⟩
 go_enter func345,ntmps345;go_wp2_with fail
 (go_at_call 149;refine aj (nE _ _ _) λw1 I=>?_;have⟨aZ,a6⟩:=bu I;have ac:=I.size;(try simp at ac))
 go_wp2_with fail
 (go_at_call 149;refine aj (nE _ _ _) λw2 U=>?_;have⟨bb,ab⟩:=bu U;(try simp at ba);(try (have az:=Vt ba));(try (have ae:=Vt (Vq az)));(try (have aa:w1.heap.size<w2.heap.size:=o_)))
 have⟨_,_,_,_,_⟩:=(hx.below I).below U;have⟨_,_,_,_,_⟩:=(hy.below I).below U;go_wp2;exact sI
def A5(p q r s t u:Int):Value:=.agg #[p,q,r,s,t,u]
def Kw(h:P:=by
 go_wp2_with (first|(go_at_call 62;refine aj (HC.out _) λw1 I=>?_;obtain⟨aZ,a6⟩:=bu I;have ac:=I.size;(try simp only[VG] at ac);(try (have F:w.heap.size<w1.heap.size:=o_));(try (have b7:=Vt ac));(try (have b9:=Vt (Vq b7))))|(go_at_call 209;refine aj (HG.out _) λw2 U=>?_;obtain⟨bb,ab⟩:=bu U;have ba:=U.size;(try simp only[VG] at ba);(try (have aG:w.heap.size<w2.heap.size:=o_));(try (have az:=Vt ba));(try (have ae:=Vt (Vq az)));(try (have aa:w1.heap.size<w2.heap.size:=o_))))
 exact sj):=h
def KS(h:P:=by
 go_wp2_with ((go_at_call 175;refine aj (HG.out _) λw1 I=>?_;obtain⟨aZ,a6⟩:=bu I;have ac:=I.size;(try simp only[VG] at ac);(try (have F:w.heap.size<w1.heap.size:=o_));(try (have b7:=Vt ac));(try (have b9:=Vt (Vq b7)))))
 exact sj):=h
def GM(h:P:=by
 obtain rfl:(k:Int)=p:=o_
 go_wp2;go_ret;refine⟨?_,q5⟩;unfold gC;simp only[YW];refine EF ?_;omega):=h
def PQ(A B p x:Int)(hA:bh A)(hB:a_ B)(G:1<=p/\p<=1000)(hx:0<=x/\x<=1000)(w):
 Rv 230 #[.agg #[A,B],p,x] w (fV A B x % p:Int):=by
 have⟨b1,b2,b3,_,_⟩:=IL (p:=p) hA hx G;go_enter func230,ntmps230;go_wp2_with ((go_at_call 228;refine (q_ _ _ o_ o_ _).mono ?_;rintro e w' ⟨rfl,rfl⟩))
 exact iC
def By(A B p:Int)(hA:bh A)(hB:a_ B)(G:3<=p/\p<=997)(Z:cH p=true)(w):
 Rv 210 #[.agg #[A,B],p] w (gC A B p):=by
 have HS:=h_ (uj A B p Z G.1 o_);have HE:=h_ (λa=>uL a p Z G.1 o_);have HB:=h_ (λa=>zd a p Z G.1 o_);go_enter func210,ntmps210;go_wp2;go_loopw [5,8] (λc i wr=>∃k:Nat,(k:Int)<=p/\c=.int .i64 (1+(k:Int)+iW A B p k)/\i=.int .i64 k/\(wr.cell? w=some (.int .i64 A)/\wr.cell? ⟨w,1,none⟩=some (.int .i64 B)/\w.heap.size<wr.heap.size/\w.heap.size<=wr.heap.size/\af w w wr)) (λ_ i _=>(p - intOf i).toNat)
 case atStart=>exact⟨0,o_,by simp [iW],rfl,by simp [go_sem],by simp [go_sem],s_,s_,by exact z_⟩
 case round=>
  obtain⟨k,hk,rfl,rfl,q1,q2,q3,q4,q5⟩:=hrel;have a8:=HS.out k;by_cases aG:(k:Int)<p
  .have HQ:Hid (iW A B p (k+1)=iW A B p k+fc (fV A B k) p):=rfl;have g:=HB.out (fV A B k);have HM:Hid (gA (fV A B k % p) p=fc (fV A B k) p):=by show _=_;rw[Rg,HE.out]
   have F:-1<=gA (fV A B k % p) p/\gA (fV A B k % p) p<=1:=by rw[HM.out];exact g
   go_wp2_with (first|(go_at_call 263;refine (Oc _ _ _ _ hA hB o_ o_ _).mono ?_;rintro e w1 ⟨rfl,I⟩;have⟨aZ,a6⟩:=bu I;(try simp at ac))|(go_at_call 262;refine (Dk _ _ o_ o_ _).mono ?_;rintro e w' ⟨rfl,V,rfl⟩))
   go_roundw
   case rel=>exact⟨k+1,o_,by rw[HQ.out,<-HM.out];go_num,by go_num,Fo (AT (w:=w) (B:=w.heap.size) (W:=wr) (b:=w.heap.size) ⟨q1,q2,q3,q4,q5⟩ I)⟩
   case measure=>exact aJ
  .exact GM
def CZ(A B p:Int)(hA:bh A)(hB:a_ B)(G:3<=p/\p<=997)(Z:cH p=true)(w):
 Rv 176 #[.agg #[A,B],p] w (gC A B p):=by
 have HS:=h_ (uj A B p Z G.1 o_);have HE:=h_ (λa=>uL a p Z G.1 o_);have HB:=h_ (λa=>zd a p Z G.1 o_);go_enter func176,ntmps176;go_wp2;go_loopw [5,6] (λc i wr=>∃k:Nat,(k:Int)<=p/\c=.int .i64 (p+1+iW A B p k)/\i=.int .i64 k/\(wr.cell? w=some (.int .i64 A)/\wr.cell? ⟨w,1,none⟩=some (.int .i64 B)/\w.heap.size<wr.heap.size/\w.heap.size<=wr.heap.size/\af w w wr)) (λ_ i _=>(p - intOf i).toNat)
 case atStart=>exact⟨0,o_,by simp [iW],rfl,by simp [go_sem],by simp [go_sem],s_,s_,by exact z_⟩
 case round=>
  obtain⟨k,hk,rfl,rfl,q1,q2,q3,q4,q5⟩:=hrel;have a8:=HS.out k;by_cases aG:(k:Int)<p
  .have HQ:Hid (iW A B p (k+1)=iW A B p k+fc (fV A B k) p):=rfl;have g:=HB.out (fV A B k);have HM:Hid (fc (fV A B k % p) p=fc (fV A B k) p):=by show _=_;rw[RB]
   have F:-1<=fc (fV A B k % p) p/\fc (fV A B k % p) p<=1:=by rw[HM.out];exact g
   go_wp2_with (first|(go_at_call 230;refine (PQ _ _ _ _ hA hB o_ o_ _).mono ?_;rintro e w1 ⟨rfl,I⟩;have⟨aZ,a6⟩:=bu I;(try simp at ac))|(go_at_call 229;refine (Cw _ _ o_ o_ _).mono ?_;rintro e w' ⟨rfl,rfl⟩))
   go_roundw
   case rel=>exact⟨k+1,o_,by rw[HQ.out,<-HM.out];go_num,by go_num,(AT (w:=w) (B:=w.heap.size) (W:=wr) (b:=w.heap.size) ⟨q1,q2,q3,q4,q5⟩ I)⟩
   case measure=>exact aJ
  .exact GM
def jK(A B p:Int):Int:=p+1 - gC A B p
def um{A B p}(Z:cH p=true)(G:3<=p/\p<=997):1<=gC A B p/\gC A B p<=2*p+1:=by
 have:=uj A B p Z G.1 o_ p.toNat;unfold gC;omega
def Qq(A B p:Int)(hA:bh A)(hB:a_ B)(G:3<=p/\p<=997)(Z:cH p=true)(w):
 Rv 211 #[.agg #[A,B],p] w (jK A B p):=by
 have hb:=um (A:=A) (B:=B) Z G;have HP:=h_ Z;go_enter func211,ntmps211;go_wp2_with ((go_at_call 210;refine aj (By _ _ _ hA hB G HP.out _) λw1 I=>?_;have⟨aZ,a6⟩:=bu I;(try simp at ac)))
 exact iC
def Ui(A B p:Int)(hA:bh A)(hB:a_ B)(G:3<=p/\p<=997)(Z:cH p=true)(w):
 Rv 177 #[.agg #[A,B],p] w (jK A B p):=by
 have hb:=um (A:=A) (B:=B) Z G;have HP:=h_ Z;go_enter func177,ntmps177;go_wp2_with ((go_at_call 176;refine aj (CZ _ _ _ hA hB G HP.out _) λw1 I=>?_;have⟨aZ,a6⟩:=bu I;(try simp at ac)))
 exact iC
noncomputable def km(A B p v:Int):Value:=.tuple #[.int .i64 (if fg A B p then v else 0),.bool (fg A B p)]
def pH{A B p}(h:fg A B p=true):(5<=p/\p<=997)/\cH p=true:=by
 unfold fg at h;simp at h;exact⟨bO h.1.1,h.1.2⟩
def M4(A B p:Int)(hC:be A B=true)(w):
 Rv 124 #[.agg #[A,B],p] w (km A B p (gC A B p)):=by
 have⟨hA,hB⟩:=fs hC;have h0:=λW=>D5 A B p W;rw[hC] at h0;unfold km;cases hg:fg A B p
 .rw[hg] at h0;have HG:=h_ h0;go_enter func124,ntmps124;exact KS
 .rw[hg] at h0;have HG:=h_ h0;have⟨G,Z⟩:=pH hg;have HN:=h_ (CZ A B p hA hB o_ Z);generalize gC A B p=v at *;go_enter func124,ntmps124;go_wp2_with (first|(go_at_call 175;refine aj (HG.out _) λw1 I=>?_;have⟨aZ,a6⟩:=bu I;have ac:=I.size;(try simp at ac))|(go_at_call 176;refine aj (HN.out _) λw2 U=>?_;have⟨bb,ab⟩:=bu U;(try simp at ba)))
  exact sI
def OG(A B p:Int)(hC:be A B=true)(w):
 Rv 125 #[.agg #[A,B],p] w (km A B p (jK A B p)):=by
 have⟨hA,hB⟩:=fs hC;have h0:=λW=>D5 A B p W;rw[hC] at h0;unfold km;cases hg:fg A B p
 .rw[hg] at h0;have HG:=h_ h0;go_enter func125,ntmps125;exact KS
 .rw[hg] at h0;have HG:=h_ h0;have⟨G,Z⟩:=pH hg;have HN:=h_ (Ui A B p hA hB o_ Z);generalize jK A B p=v at *;go_enter func125,ntmps125;go_wp2_with (first|(go_at_call 175;refine aj (HG.out _) λw1 I=>?_;have⟨aZ,a6⟩:=bu I;have ac:=I.size;(try simp at ac))|(go_at_call 177;refine aj (HN.out _) λw2 U=>?_;have⟨bb,ab⟩:=bu U;(try simp at ba)))
  exact sI
def MX(A B p:Int)(hC:be A B=true)(w):
 Rv 154 #[.agg #[A,B],p] w (km A B p (gC A B p)):=by
 have⟨hA,hB⟩:=fs hC;have ad:=λW=>jV A B W;rw[hC] at ad;have HC:=h_ ad;have h0:=λW=>Dy A B p hA hB W;unfold km;cases hg:fg A B p
 .rw[hg] at h0;have HG:=h_ h0;go_enter func154,ntmps154;exact Kw
 .rw[hg] at h0;have HG:=h_ h0;have⟨G,Z⟩:=pH hg;have HN:=h_ (By A B p hA hB o_ Z);generalize gC A B p=v at *;go_enter func154,ntmps154;go_wp2_with (first|(go_at_call 62;refine aj (HC.out _) λw1 I=>?_;have⟨aZ,a6⟩:=bu I;have ac:=I.size;(try simp at ac);(try (have F:w.heap.size<w1.heap.size:=o_));(try (have b7:=Vt ac));(try (have b9:=Vt (Vq b7))))|(go_at_call 209;refine aj (HG.out _) λw2 U=>?_;have⟨bb,ab⟩:=bu U;have ba:=U.size;(try simp at ba);(try (have aG:w.heap.size<w2.heap.size:=o_));(try (have az:=Vt ba));(try (have ae:=Vt (Vq az))))|(go_at_call 210;refine aj (HN.out _) λw3 aF=>?_;have⟨J,H⟩:=bu aF;(try simp at cc);(try (have aM:=Vt (Vq V)));(try (have K:w1.heap.size<w3.heap.size:=o_));(try (have g:w2.heap.size<w3.heap.size:=o_))))
  exact sI
def OT(A B p:Int)(hC:be A B=true)(w):
 Rv 155 #[.agg #[A,B],p] w (km A B p (jK A B p)):=by
 have⟨hA,hB⟩:=fs hC;have ad:=λW=>jV A B W;rw[hC] at ad;have HC:=h_ ad;have h0:=λW=>Dy A B p hA hB W;unfold km;cases hg:fg A B p
 .rw[hg] at h0;have HG:=h_ h0;go_enter func155,ntmps155;exact Kw
 .rw[hg] at h0;have HG:=h_ h0;have⟨G,Z⟩:=pH hg;have HN:=h_ (Qq A B p hA hB o_ Z);generalize jK A B p=v at *;go_enter func155,ntmps155;go_wp2_with (first|(go_at_call 62;refine aj (HC.out _) λw1 I=>?_;have⟨aZ,a6⟩:=bu I;have ac:=I.size;(try simp at ac);(try (have F:w.heap.size<w1.heap.size:=o_));(try (have b7:=Vt ac));(try (have b9:=Vt (Vq b7))))|(go_at_call 209;refine aj (HG.out _) λw2 U=>?_;have⟨bb,ab⟩:=bu U;have ba:=U.size;(try simp at ba);(try (have aG:w.heap.size<w2.heap.size:=o_));(try (have az:=Vt ba));(try (have ae:=Vt (Vq az))))|(go_at_call 211;refine aj (HN.out _) λw3 aF=>?_;have⟨J,H⟩:=bu aF;(try simp at cc);(try (have g:w2.heap.size<w3.heap.size:=o_))))
  exact sI
def gS(h:P:=by show _≠w.heap.size+1;omega):=h
def gV(h:P:=by show _≠w.heap.size;omega):=h
def ns(h:P:=by show _≠w.heap.size+1+1;omega):=h
def wi(h:P:=by show _<=w.heap.size+1;omega):=h
def FR(h:P:=by simp [results,results294,go_sem,c0,c1,c2,c3,c4,c5]):=h
def Jb(h:P:=by simp [results,results312,go_sem,R0,R1,R2,R3,R4,R5]):=h
def J8(h:P:=by
 intro E hE bs b8;(repeat (first|(refine gN ?_;go_big_quiet_step ((go_at_call 328;exact Calls.quiet_cls hE _ (a5.out _)));refine wpQuiet_nil ?_)|refine gM ?_));exact gO rfl):=h
def bT(n:Int):Int:=n.natAbs
def nt(a x b y:Int):Bool:=decide (bT b*x<bT a*y)
def kU(a x b y c z:Int):Value:=if nt a x b y then A5 (bT b) y (bT a) x (bT c) z else A5 (bT a) x (bT b) y (bT c) z
def lE{n d:Int}(h:bQ n d=true):bQ (bT n) d=true:=by
 have hb:=jZ h;unfold bQ at h ⊢;simp only[VB] at h ⊢;refine⟨⟨h.1.1,?_⟩,?_⟩
 .unfold aw bT;simp;omega
 .rw[<-h.2];congr 1
def ya(n d:Int)(hn:iZ n)(w:World):
 Rv 328 #[.agg #[n,d]] w (.agg #[bT n,d]):=by
 obtain⟨k1,k2,hB⟩:=cO w #[n,d] 96 #[(),()] 96;go_enter func328,ntmps328;go_wp2;generalize (w.alloc _).alloc _=W at *;have⟨bp,dz⟩:=k1.q2;have⟨H,F⟩:=k1.f2;have U:=k1.lt;have⟨K,V⟩:=k2.q2;have⟨G,g⟩:=k2.f2;have J:=k2.lt;have cc:w.heap.size∉[w.heap.size+1]:=s_;refine bw [w.heap.size+1] (λ_=>false) (λ_=>True) (ah (w.heap.size+1) #[(),()] 96) k_ k2 ?_;apply lw ⟨W,ai.refl _ _,k2⟩ (cj 6 0) 1 aK aB k_ k_ k_ k_ s_
 .intro E hE bs b8;(repeat (first|(refine gN ?_;go_big_quiet_step ((go_at_call 113;exact Calls.quiet_clsS _ (lK _ hn _)));refine wpQuiet_nil ?_)|refine gM ?_));exact gO rfl
 refine aD 6 ?_;refine fC (v:=.agg #[n.natAbs,d]) (w.heap.size+1) (#[(),()]) (ah (w.heap.size+1) #[n.natAbs,d] 96) (.inr s_) (λ_ hd=>hd) aK (λ_ _ _ _ hb=>hb) (λhne=>?_)
 try simp only[Value.cells]
 refine dn λWz a7 aX=>?_
 try dsimp only
 have I:af w w Wz:=a7.belowGe hB hB.size s_;have c0:=aX.cell 0;have c1:=aX.cell 1;simp only[V4,V0,VZ] at c0 c1;clear a7 hne;go_wp2;refine Vk (v:=.agg #[n.natAbs,d]) (by simp [results,results328,go_sem,c0,c1]) rfl ?_;exact⟨rfl,I⟩
def KH(w:World)(a x b y c z:Int):
 ah w.heap.size #[a,x] 96 ((((w.alloc (.cells #[a,x] 96)).alloc (.cells #[b,y] 96)).alloc (.cells #[c,z] 96)).alloc (.cells #[(),(),(),(),(),()] 175))/\
 ah (w.heap.size+1) #[b,y] 96 ((((w.alloc (.cells #[a,x] 96)).alloc (.cells #[b,y] 96)).alloc (.cells #[c,z] 96)).alloc (.cells #[(),(),(),(),(),()] 175))/\
 ah (w.heap.size+1+1) #[c,z] 96 ((((w.alloc (.cells #[a,x] 96)).alloc (.cells #[b,y] 96)).alloc (.cells #[c,z] 96)).alloc (.cells #[(),(),(),(),(),()] 175))/\
 ah (w.heap.size+1+1+1) #[(),(),(),(),(),()] 175 ((((w.alloc (.cells #[a,x] 96)).alloc (.cells #[b,y] 96)).alloc (.cells #[c,z] 96)).alloc (.cells #[(),(),(),(),(),()] 175))/\
 af w w ((((w.alloc (.cells #[a,x] 96)).alloc (.cells #[b,y] 96)).alloc (.cells #[c,z] 96)).alloc (.cells #[(),(),(),(),(),()] 175)):=by
 refine⟨(((ah.new w _ _).alloc _).alloc _).alloc _,?_,?_,?_,by exact z_⟩
 .have:=((ah.new (w.alloc (.cells #[a,x] 96)) #[b,y] 96).alloc (.cells #[c,z] 96)).alloc (.cells #[(),(),(),(),(),()] 175);simpa using this
 .have:=(ah.new ((w.alloc (.cells #[a,x] 96)).alloc (.cells #[b,y] 96)) #[c,z] 96).alloc (.cells #[(),(),(),(),(),()] 175);simpa using this
 .have:=ah.new (((w.alloc (.cells #[a,x] 96)).alloc (.cells #[b,y] 96)).alloc (.cells #[c,z] 96)) #[(),(),(),(),(),()] 175;simpa using this
def yf{a x b y c z:Int}(h:nt a x b y=true):kU a x b y c z=.agg #[bT b,y,bT a,x,bT c,z]:=by unfold kU;rw[h];rfl
def yJ{a x b y c z:Int}(h:nt a x b y=false):kU a x b y c z=.agg #[bT a,x,bT b,y,bT c,z]:=by unfold kU;rw[h];rfl
def QC(a x b y c z:Int)(h1:bQ a x=true)(h2:bQ b y=true)(h3:bQ c z=true)(w:World):
 Rv 294 #[.agg #[a,x],.agg #[b,y],.agg #[c,z]] w (kU a x b y c z):=by
 obtain⟨kA,kB,kC,kT,hB⟩:=KH w a x b y c z;have b1:=(jZ h1).2;have b2:=(jZ h2).2;have b3:=(jZ h3).2;have a4:Hid (∀w,_):=λw=>ya a x o_ w;have a1:Hid (∀w,_):=λw=>ya b y o_ w;have a5:Hid (∀w,_):=λw=>ya c z o_ w;have HL:Hid (∀w,_):=λw=>RA (bT b) y (bT a) x (lE h2) (lE h1) w;have HY:=λh=>h_ (yf (a:=a) (x:=x) (b:=b) (y:=y) (c:=c) (z:=z) h);have HN:=λh=>h_ (yJ (a:=a) (x:=x) (b:=b) (y:=y) (c:=c) (z:=z) h);have HD:Hid (decide (bT b*x<bT a*y)=nt a x b y):=rfl;rw[HD.out] at HL;clear h1 h2 h3 b1 b2 b3 HD;generalize bT a=a' at *;generalize bT b=b' at *;generalize bT c=c' at *;generalize kU a x b y c z=V at *;generalize nt a x b y=B at *;have hs:=hB.size;go_enter func294,ntmps294;go_wp2_with fail
 generalize (((w.alloc _).alloc _).alloc _).alloc _=W at *;refine aj (a4.out _) λw1 I=>?_;replace kA:=kA.next I
 replace kB:=kB.next I
 replace kC:=kC.next I
 replace kT:=kT.next I
 replace hB:=ag I hs hB;have bb:=hB.size;clear hs I;have⟨aG,F⟩:=kA.q2;have⟨a6,J⟩:=kA.f2;have bo:=kA.lt;have⟨G,ac,b5⟩:=kB.p2;go_wp2_with fail
 have bq:=(kA.set 0 a').set 1 x;have g:=(kB.far (p:=⟨w.heap.size,0,none⟩) gV a').far (p:=⟨w.heap.size,1,none⟩) gV x;have aL:=(kC.far (p:=⟨w.heap.size,0,none⟩) gV a').far (p:=⟨w.heap.size,1,none⟩) gV x;have ax:=(kT.far (p:=⟨w.heap.size,0,none⟩) gV a').far (p:=⟨w.heap.size,1,none⟩) gV x;have aa:af w w ((w1.setCell ⟨w.heap.size,0,none⟩ a').setCell ⟨w.heap.size,1,none⟩ x):=(hB.setCell (Vj _) _).setCell (Vj _) _;have ad:=aa.size;clear kA kB kC kT hB bb aG F a6 J bo G ac b5;simp only[V7,Wj,Wx] at bq;generalize (w1.setCell _ _).setCell _ _=W2 at *;refine aj (a1.out _) λw3 aF=>?_;replace bq:=bq.next aF
 replace g:=g.next aF
 replace aL:=aL.next aF
 replace ax:=ax.next aF
 replace aa:=ag aF ad aa;have a8:=aa.size;clear ad aF;have q0:=bq.cell 0;have q1:=bq.cell 1;simp only[V4,V0,VZ] at q0 q1;have qA:=bq.lt;have⟨bv,bi⟩:=g.q2;have⟨ba,a9⟩:=g.f2;have bx:=g.lt;go_wp2_with fail
 have aZ:=(bq.far (p:=⟨w.heap.size+1,0,none⟩) gS b').far (p:=⟨w.heap.size+1,1,none⟩) gS y;have K:=(g.set 0 b').set 1 y;have bp:=(aL.far (p:=⟨w.heap.size+1,0,none⟩) gS b').far (p:=⟨w.heap.size+1,1,none⟩) gS y;have Z:=(ax.far (p:=⟨w.heap.size+1,0,none⟩) gS b').far (p:=⟨w.heap.size+1,1,none⟩) gS y;have aM:af w w ((w3.setCell ⟨w.heap.size+1,0,none⟩ b').setCell ⟨w.heap.size+1,1,none⟩ y):=(aa.setCell wi _).setCell wi _;have bz:=aM.size;clear bq g aL ax aa a8 q0 q1 qA bv bi ba a9 bx;simp only[V7,Wj,Wx] at K;generalize (w3.setCell _ _).setCell _ _=W4 at *;refine aj (HL.out _) λW5 ae=>?_;have az:=aZ.next ae
 have U:=K.next ae
 have a3:=bp.next ae
 have H:=Z.next ae
 have a2:=ag ae bz aM;clear aZ K bp Z aM bz ae;have q0:=az.cell 0;have q1:=az.cell 1;have r0:=U.cell 0;have r1:=U.cell 1;have s0:=a3.cell 0;have s1:=a3.cell 1;simp only[V4,V0,VZ] at q0 q1 r0 r1 s0 s1;have bZ:=az.lt;have bX:=U.lt;have bY:=a3.lt;have n1:w.heap.size∉[w.heap.size+1+1+1]:=u_;have n2:w.heap.size+1∉[w.heap.size+1+1+1]:=s_;have n3:w.heap.size+1+1∉[w.heap.size+1+1+1]:=s_;clear a4 a1 HL;cases B
 .have HV:=HN rfl;clear HY HN;go_wp2;refine bw [w.heap.size+1+1+1] (λ_=>false) (λ_=>True) (ah (w.heap.size+1+1+1) #[(),(),(),(),(),()] 175) k_ H ?_;apply lw ⟨W5,ai.refl _ _,H⟩ (cj 5 0) 1 aK aB k_ k_ k_ k_ s_
  .exact J8
  refine aD 5 ?_;refine fC (v:=.agg #[a',x,b',y,c',z]) (w.heap.size+1+1+1) (#[(),(),(),(),(),()]) (ah (w.heap.size+1+1+1) #[a',x,b',y,c',z] 175) (.inr s_) (λ_ hd=>hd) aK (λ_ _ _ _ hb=>hb) (λhne=>?_)
  try simp only[Value.cells]
  refine dn λWz a7 aX=>?_
  try dsimp only
  have ab:af w w Wz:=a7.belowGe a2 a2.size u_;have c0:=aX.cell 0;have c1:=aX.cell 1;have c2:=aX.cell 2;have c3:=aX.cell 3;have c4:=aX.cell 4;have c5:=aX.cell 5;simp only[V4,V0,VZ] at c0 c1 c2 c3 c4 c5;clear a7 hne;go_wp2;refine Vk (v:=.agg #[a',x,b',y,c',z]) FR rfl ?_;exact⟨by rw[HV.out],ab⟩
 .have HV:=HY rfl;clear HY HN;go_wp2;refine bw [w.heap.size+1+1+1] (λ_=>false) (λ_=>True) (ah (w.heap.size+1+1+1) #[(),(),(),(),(),()] 175) k_ H ?_;apply lw ⟨W5,ai.refl _ _,H⟩ (cj 5 0) 1 aK aB k_ k_ k_ k_ s_
  .exact J8
  refine aD 5 ?_;refine fC (v:=.agg #[b',y,a',x,c',z]) (w.heap.size+1+1+1) (#[(),(),(),(),(),()]) (ah (w.heap.size+1+1+1) #[b',y,a',x,c',z] 175) (.inr s_) (λ_ hd=>hd) aK (λ_ _ _ _ hb=>hb) (λhne=>?_)
  try simp only[Value.cells]
  refine dn λWz a7 aX=>?_
  try dsimp only
  have ab:af w w Wz:=a7.belowGe a2 a2.size u_;have c0:=aX.cell 0;have c1:=aX.cell 1;have c2:=aX.cell 2;have c3:=aX.cell 3;have c4:=aX.cell 4;have c5:=aX.cell 5;simp only[V4,V0,VZ] at c0 c1 c2 c3 c4 c5;clear a7 hne;go_wp2;refine Vk (v:=.agg #[b',y,a',x,c',z]) FR rfl ?_;exact⟨by rw[HV.out],ab⟩
def MH(a x b y c z:Int)(h1:bQ a x=true)(h2:bQ b y=true)(h3:bQ c z=true)(w:World):
 Rv 312 #[.agg #[a,x],.agg #[b,y],.agg #[c,z]] w (kU a x b y c z):=by
 obtain⟨kA,kB,kC,kT,hB⟩:=KH w a x b y c z;have b1:=(jZ h1).2;have b2:=(jZ h2).2;have b3:=(jZ h3).2;have HL:Hid (∀w,_):=λw=>Q4 (bT b) y (bT a) x (lE h2) (lE h1) w;have HY:=λh=>h_ (yf (a:=a) (x:=x) (b:=b) (y:=y) (c:=c) (z:=z) h);have HN:=λh=>h_ (yJ (a:=a) (x:=x) (b:=b) (y:=y) (c:=c) (z:=z) h);have HD:Hid (decide (bT b*x<bT a*y)=nt a x b y):=rfl;rw[HD.out] at HL;clear h1 h2 h3 HD;generalize kU a x b y c z=V at *;generalize nt a x b y=B at *;have kA:=kA.alloc (.cells #[.pointer (some ⟨w.heap.size,0,none⟩),.pointer (some ⟨w.heap.size+1,0,none⟩),.pointer (some ⟨w.heap.size+1+1,0,none⟩)] 278);have kB:=kB.alloc (.cells #[.pointer (some ⟨w.heap.size,0,none⟩),.pointer (some ⟨w.heap.size+1,0,none⟩),.pointer (some ⟨w.heap.size+1+1,0,none⟩)] 278);have kC:=kC.alloc (.cells #[.pointer (some ⟨w.heap.size,0,none⟩),.pointer (some ⟨w.heap.size+1,0,none⟩),.pointer (some ⟨w.heap.size+1+1,0,none⟩)] 278);obtain⟨-,-,-,-,kP,-⟩:=U_ w #[a,x] 96 #[b,y] 96 #[c,z] 96 #[(),(),(),(),(),()] 175 #[.pointer (some ⟨w.heap.size,0,none⟩),.pointer (some ⟨w.heap.size+1,0,none⟩),.pointer (some ⟨w.heap.size+1+1,0,none⟩)] 278;have kT:=kT.alloc (.cells #[.pointer (some ⟨w.heap.size,0,none⟩),.pointer (some ⟨w.heap.size+1,0,none⟩),.pointer (some ⟨w.heap.size+1+1,0,none⟩)] 278);have hB:=hB.alloc hB.size (.cells #[.pointer (some ⟨w.heap.size,0,none⟩),.pointer (some ⟨w.heap.size+1,0,none⟩),.pointer (some ⟨w.heap.size+1+1,0,none⟩)] 278);have hs:=hB.size;go_enter func312,ntmps312;go_wp2;generalize ((((w.alloc _).alloc _).alloc _).alloc _).alloc _=W at *;go_loopw [13] (λi wr=>∃k:Nat,k<=3/\i=.int .i64 k/\ah (w.heap.size) #[.int .i64 (if 0<k then bT a else a),x] 96 wr/\ah (w.heap.size+1) #[.int .i64 (if 1<k then bT b else b),y] 96 wr/\ah (w.heap.size+1+1) #[.int .i64 (if 2<k then bT c else c),z] 96 wr/\ah (w.heap.size+1+1+1) #[(),(),(),(),(),()] 175 wr/\ah (w.heap.size+1+1+1+1) #[.pointer (some ⟨w.heap.size,0,none⟩),.pointer (some ⟨w.heap.size+1,0,none⟩),.pointer (some ⟨w.heap.size+1+1,0,none⟩)] 278 wr/\af w w wr) (λi _=>3 - (intOf i).toNat)
 case atStart=>exact⟨0,o_,rfl,kA,kB,kC,kT,kP,hB⟩
 case round=>
  clear kA kB kC kT kP hB;obtain⟨k,hk,rfl,kA,kB,kC,kT,kP,K⟩:=hrel;rcases (by omega:k=0\/k=1\/k=2\/k=3) with rfl|rfl|rfl|rfl
  .rw[Vm d_] at kA;rw[Vm d_] at kB;rw[Vm d_] at kC;rcases VJ a 0 with a9|a9
   .have ea:bT a=-a:=by unfold bT;omega
    have⟨aG,F⟩:=kA.q2;have⟨a6,J⟩:=kA.f2;have bo:=kA.lt;have p0:=kP.cell 0;simp only[V4,V0] at p0;have ca:=kP.lt;clear ea;go_wp2
    go_big_region
    all_goals go_wp2
    have ea:bT a=-a:=by unfold bT;omega
    go_roundw
    case rel=>
     refine⟨1,o_,by go_num,?_,?_,?_,?_,?_,?_⟩
     .rw[Vo d_,ea];exact ah.drew (kA.set 0 (-a:Int))
     .rw[Vm d_];exact ah.drew (kB.far gV _)
     .rw[Vm d_];exact ah.drew (kC.far gV _)
     .exact ah.drew (kT.far gV _)
     .exact ah.drew (kP.far gV _)
     .exact (K.setCell (by show _<=w.heap.size;omega) _).drew
    case measure=>simp [intOf]
   .have ea:bT a=a:=by unfold bT;omega
    have⟨aG,F⟩:=kA.q2;have⟨a6,J⟩:=kA.f2;have bo:=kA.lt;have p0:=kP.cell 0;simp only[V4,V0] at p0;have ca:=kP.lt;clear ea;go_wp2
    go_big_region
    all_goals go_wp2
    have ea:bT a=a:=by unfold bT;omega
    go_roundw
    case rel=>
     refine⟨1,o_,by go_num,?_,?_,?_,?_,?_,?_⟩
     .rw[Vo d_,ea];exact ah.drew (kA.set 0 a)
     .rw[Vm d_];exact ah.drew (kB.far gV _)
     .rw[Vm d_];exact ah.drew (kC.far gV _)
     .exact ah.drew (kT.far gV _)
     .exact ah.drew (kP.far gV _)
     .exact (K.setCell (by show _<=w.heap.size;omega) _).drew
    case measure=>simp [intOf]
  .rw[Vo d_] at kA;rw[Vm d_] at kB;rw[Vm d_] at kC;rcases VJ b 0 with a8|a8
   .have eb:bT b=-b:=by unfold bT;omega
    have⟨G,ac⟩:=kB.q2;have⟨bz,a2⟩:=kB.f2;have b5:=kB.lt;have p0:=kP.cell 1;simp only[V4,V0,VZ] at p0;have ca:=kP.lt;clear eb;go_wp2
    go_big_region
    all_goals go_wp2
    have eb:bT b=-b:=by unfold bT;omega
    go_roundw
    case rel=>
     refine⟨2,o_,by go_num,?_,?_,?_,?_,?_,?_⟩
     .rw[Vo d_];exact ah.drew (kA.far gS _)
     .rw[Vo d_,eb];exact ah.drew (kB.set 0 (-b:Int))
     .rw[Vm d_];exact ah.drew (kC.far gS _)
     .exact ah.drew (kT.far gS _)
     .exact ah.drew (kP.far gS _)
     .exact (K.setCell wi _).drew
    case measure=>simp [intOf]
   .have eb:bT b=b:=by unfold bT;omega
    have⟨G,ac⟩:=kB.q2;have⟨bz,a2⟩:=kB.f2;have b5:=kB.lt;have p0:=kP.cell 1;simp only[V4,V0,VZ] at p0;have ca:=kP.lt;clear eb;go_wp2
    go_big_region
    all_goals go_wp2
    have eb:bT b=b:=by unfold bT;omega
    go_roundw
    case rel=>
     refine⟨2,o_,by go_num,?_,?_,?_,?_,?_,?_⟩
     .rw[Vo d_];exact ah.drew (kA.far gS _)
     .rw[Vo d_,eb];exact ah.drew (kB.set 0 b)
     .rw[Vm d_];exact ah.drew (kC.far gS _)
     .exact ah.drew (kT.far gS _)
     .exact ah.drew (kP.far gS _)
     .exact (K.setCell wi _).drew
    case measure=>simp [intOf]
  .rw[Vo d_] at kA;rw[Vo d_] at kB;rw[Vm d_] at kC;rcases VJ c 0 with aF|aF
   .have ec:bT c=-c:=by unfold bT;omega
    have⟨a4,a3⟩:=kC.q2;have⟨ba,bq⟩:=kC.f2;have a5:=kC.lt;have p0:=kP.cell 2;simp only[V4,V0,VZ] at p0;have ca:=kP.lt;clear ec;go_wp2
    go_big_region
    all_goals go_wp2
    have ec:bT c=-c:=by unfold bT;omega
    go_roundw
    case rel=>
     refine⟨3,o_,by go_num,?_,?_,?_,?_,?_,?_⟩
     .rw[Vo d_];exact ah.drew (kA.far ns _)
     .rw[Vo d_];exact ah.drew (kB.far ns _)
     .rw[Vo d_,ec];exact ah.drew (kC.set 0 (-c:Int))
     .exact ah.drew (kT.far ns _)
     .exact ah.drew (kP.far ns _)
     .exact (K.setCell (by show _<=w.heap.size+1+1;omega) _).drew
    case measure=>simp [intOf]
   .have ec:bT c=c:=by unfold bT;omega
    have⟨a4,a3⟩:=kC.q2;have⟨ba,bq⟩:=kC.f2;have a5:=kC.lt;have p0:=kP.cell 2;simp only[V4,V0,VZ] at p0;have ca:=kP.lt;clear ec;go_wp2
    go_big_region
    all_goals go_wp2
    have ec:bT c=c:=by unfold bT;omega
    go_roundw
    case rel=>
     refine⟨3,o_,by go_num,?_,?_,?_,?_,?_,?_⟩
     .rw[Vo d_];exact ah.drew (kA.far ns _)
     .rw[Vo d_];exact ah.drew (kB.far ns _)
     .rw[Vo d_,ec];exact ah.drew (kC.set 0 c)
     .exact ah.drew (kT.far ns _)
     .exact ah.drew (kP.far ns _)
     .exact (K.setCell (by show _<=w.heap.size+1+1;omega) _).drew
    case measure=>simp [intOf]
  .rw[Vo d_] at kA kB kC;clear b1 b2 b3;generalize bT a=a' at *;generalize bT b=b' at *;generalize bT c=c' at *;have⟨aG,F,bo⟩:=kA.p2;have⟨G,ac,b5⟩:=kB.p2;have ad:=K.size;go_wp2_with fail
   refine aj (HL.out _) λw5 ae=>?_;have lA:=kA.next ae
   have lB:=kB.next ae
   have lC:=kC.next ae
   have lT:=kT.next ae
   have aX:=ag ae ad K;have cT:=aX.size;clear kA kB kC kT kP K ae ad HL aG F G ac bo b5;have⟨bi,b4⟩:=lA.q2;have⟨H,Z⟩:=lA.f2;have aM:=lA.lt;have⟨bY,a7⟩:=lB.q2;have⟨aa,U⟩:=lB.f2;have b6:=lB.lt;have⟨a1,bp,b0⟩:=lC.p2;have⟨aZ,bZ,bx,bb,bX,bs⟩:=lT.q6;have⟨g,az,ax,I,aL,ab⟩:=lT.f6;have bv:=lT.lt;cases B
   .have HV:=HN rfl;clear HY HN;go_wp2;have R:=((((((lT.set 0 a').set 1 x).set 2 b').set 3 y).set 4 c').set 5 z)
    have hR:af w w ((((((w5.setCell ⟨w.heap.size+1+1+1,0,none⟩ a').setCell ⟨w.heap.size+1+1+1,1,none⟩ x).setCell ⟨w.heap.size+1+1+1,2,none⟩ b').setCell ⟨w.heap.size+1+1+1,3,none⟩ y).setCell ⟨w.heap.size+1+1+1,4,none⟩ c').setCell ⟨w.heap.size+1+1+1,5,none⟩ z):=by exact z_
    simp only[V7,Wj,Wx] at R;clear lA lB lC lT bi b4 H Z aM bY a7 aa U b6 a1 bp b0 aZ bZ bx bb bX bs g az ax I aL ab bv;generalize ((((((w5.setCell ⟨w.heap.size+1+1+1,0,none⟩ a').setCell ⟨w.heap.size+1+1+1,1,none⟩ x).setCell ⟨w.heap.size+1+1+1,2,none⟩ b').setCell ⟨w.heap.size+1+1+1,3,none⟩ y).setCell ⟨w.heap.size+1+1+1,4,none⟩ c').setCell ⟨w.heap.size+1+1+1,5,none⟩ z)=W9 at R hR ⊢;have⟨R0,R1,R2,R3,R4,R5,Rl⟩:=R.p6;refine Vk (v:=.agg #[a',x,b',y,c',z]) Jb rfl ?_;exact⟨by rw[HV.out],hR⟩
   .have HV:=HY rfl;clear HY HN;go_wp2;have R:=((((((((((lT.far (p:=⟨w.heap.size,0,none⟩) gV b').far (p:=⟨w.heap.size,1,none⟩) gV y).far (p:=⟨w.heap.size+1,0,none⟩) gS a').far (p:=⟨w.heap.size+1,1,none⟩) gS x).set 0 b').set 1 y).set 2 a').set 3 x).set 4 c').set 5 z)
    have hR:af w w ((((((((((w5.setCell ⟨w.heap.size,0,none⟩ b').setCell ⟨w.heap.size,1,none⟩ y).setCell ⟨w.heap.size+1,0,none⟩ a').setCell ⟨w.heap.size+1,1,none⟩ x).setCell ⟨w.heap.size+1+1+1,0,none⟩ b').setCell ⟨w.heap.size+1+1+1,1,none⟩ y).setCell ⟨w.heap.size+1+1+1,2,none⟩ a').setCell ⟨w.heap.size+1+1+1,3,none⟩ x).setCell ⟨w.heap.size+1+1+1,4,none⟩ c').setCell ⟨w.heap.size+1+1+1,5,none⟩ z):=by exact z_
    simp only[V7,Wj,Wx] at R;clear lA lB lC lT bi b4 H Z aM bY a7 aa U b6 a1 bp b0 aZ bZ bx bb bX bs g az ax I aL ab bv;generalize ((((((((((w5.setCell ⟨w.heap.size,0,none⟩ b').setCell ⟨w.heap.size,1,none⟩ y).setCell ⟨w.heap.size+1,0,none⟩ a').setCell ⟨w.heap.size+1,1,none⟩ x).setCell ⟨w.heap.size+1+1+1,0,none⟩ b').setCell ⟨w.heap.size+1+1+1,1,none⟩ y).setCell ⟨w.heap.size+1+1+1,2,none⟩ a').setCell ⟨w.heap.size+1+1+1,3,none⟩ x).setCell ⟨w.heap.size+1+1+1,4,none⟩ c').setCell ⟨w.heap.size+1+1+1,5,none⟩ z)=W9 at R hR ⊢;have⟨R0,R1,R2,R3,R4,R5,Rl⟩:=R.p6;refine Vk (v:=.agg #[b',y,a',x,c',z]) Jb rfl ?_;exact⟨by rw[HV.out],hR⟩
def cvV(A B x e:Int):Int:=x*x*x+A*x*e*e*e*e+B*e*e*e*e*e*e
def gZ{x y}{a b}(hx:-a<=x/\x<=a)(hy:-b<=y/\y<=b):-(a*b)<=x*y/\x*y<=a*b:=aN a b hx hy
def AW{A B x e}(hA:bh A)(hB:a_ B)(hx:a_ x)(he:1<=e/\e<=20):
 (1<=e*e/\e*e<=400)/\(-100000000<=x*x/\x*x<=100000000)/\(-1000000000000<=x*x*x/\x*x*x<=1000000000000)/\
 (-10000000<=A*x/\A*x<=10000000)/\(-200000000<=A*x*e/\A*x*e<=200000000)/\(-4000000000<=A*x*e*e/\A*x*e*e<=4000000000)/\(-80000000000<=A*x*e*e*e/\A*x*e*e*e<=80000000000)/\(-1600000000000<=A*x*e*e*e*e/\A*x*e*e*e*e<=1600000000000)/\
 (-200000<=B*e/\B*e<=200000)/\(-4000000<=B*e*e/\B*e*e<=4000000)/\(-80000000<=B*e*e*e/\B*e*e*e<=80000000)/\(-1600000000<=B*e*e*e*e/\B*e*e*e*e<=1600000000)/\(-32000000000<=B*e*e*e*e*e/\B*e*e*e*e*e<=32000000000)/\(-640000000000<=B*e*e*e*e*e*e/\B*e*e*e*e*e*e<=640000000000):=by
 have g:-20<=e/\e<=20:=o_;have h0:=Vs he.1 he.1 o_ o_;have h1:=gZ g g;have h2:=gZ hx hx;have h3:=gZ (a:=100000000) h2 hx;have h4:=gZ hA hx;have h5:=gZ (a:=10000000) h4 g;have h6:=gZ (a:=200000000) h5 g;have h7:=gZ (a:=4000000000) h6 g;have h8:=gZ (a:=80000000000) h7 g;have k1:=gZ hB g;have k2:=gZ (a:=200000) k1 g;have J:=gZ (a:=4000000) k2 g;have k4:=gZ (a:=80000000) J g;have k5:=gZ (a:=1600000000) k4 g;have U:=gZ (a:=32000000000) k5 g;omega
def tu(A B x e:Int)(hA:bh A)(hB:a_ B)(hx:a_ x)(he:1<=e/\e<=20)(w):
 Kp 65 #[.agg #[A,B],x,e] w λr w'=>r=.returned (cvV A B x e)/\af w w w':=by
 have⟨_,a2,a3,a4,a5,g,F,G,b1,b2,b3,b4,b5,b6⟩:=AW hA hB hx he;go_enter func65,ntmps65;go_wp2;exact iC
def xG(A B x e:Int)(hA:bh A)(hB:a_ B)(hx:a_ x)(he:1<=e/\e<=20)(w):
 Kp 170 #[.agg #[A,B],x,e] w λr w'=>r=.returned (cvV A B x e)/\af w w w':=by
 have⟨a1,a2,a3,a4,_,g,_,G,_,b2,_,b4,_,b6⟩:=AW hA hB hx he;have e1:A*x*(e*e)=A*x*e*e:=by ac_rfl
 have e2:A*x*(e*e)*(e*e)=A*x*e*e*e*e:=by ac_rfl
 have e3:B*(e*e)=B*e*e:=by ac_rfl
 have e4:B*(e*e)*(e*e)=B*e*e*e*e:=by ac_rfl
 have e5:B*(e*e)*(e*e)*(e*e)=B*e*e*e*e*e*e:=by ac_rfl
 have g1:-4000000000<=A*x*(e*e)/\A*x*(e*e)<=4000000000:=by rw[e1];exact g
 have g2:-1600000000000<=A*x*(e*e)*(e*e)/\A*x*(e*e)*(e*e)<=1600000000000:=by rw[e2];exact G
 have g3:-4000000<=B*(e*e)/\B*(e*e)<=4000000:=by rw[e3];exact b2
 have g4:-1600000000<=B*(e*e)*(e*e)/\B*(e*e)*(e*e)<=1600000000:=by rw[e4];exact b4
 have g5:-640000000000<=B*(e*e)*(e*e)*(e*e)/\B*(e*e)*(e*e)*(e*e)<=640000000000:=by rw[e5];exact b6
 have HV:Hid (cvV A B x e=x*x*x+A*x*(e*e)*(e*e)+B*(e*e)*(e*e)*(e*e)):=by show _=_;unfold cvV;rw[e2,e5]
 rw[HV.out];clear e1 e2 e3 e4 e5;go_enter func170,ntmps170;go_wp2;exact iC
def kf(A B X Y E:Int):Bool:=aw X (-10000) 10000&&aw E 1 20&&(au X E==1)&&aw Y (-3000000) 3000000&&(Y*Y==cvV A B X E)
def dS(A B X Y E:Int):Bool:=(X==0&&Y==0&&E==0)||kf A B X Y E
def lV{A B x e}(hA:bh A)(hB:a_ B)(hx:a_ x)(he:1<=e/\e<=20):-4000000000000<=cvV A B x e/\cvV A B x e<=4000000000000:=by
 have⟨_,_,a3,_,_,_,_,G,_,_,_,_,_,b6⟩:=AW hA hB hx he;unfold cvV;omega
def S_{A B x e Y}(hA:bh A)(hB:a_ B)(hx:a_ x)(he:1<=e/\e<=20):(aw Y (-10000000) 10000000&&(Y*Y==cvV A B x e))=(aw Y (-3000000) 3000000&&(Y*Y==cvV A B x e)):=by
 have hv:=lV hA hB hx he;cases hq:(Y*Y==cvV A B x e)
 .simp
 .have hy:=by simpa using hq
  have hb:-3000000<=Y/\Y<=3000000:=by
   constructor
   .rcases VJ Y (-3000000) with h|h
    .have:=Vs (show 3000000<=-Y by omega) (show 3000000<=-Y by omega) o_ o_;rw[V8] at this;omega
    .exact h
   .rcases VJ 3000000 Y with h|h
    .have:=Vs (show 3000000<=Y by omega) (show 3000000<=Y by omega) o_ o_;omega
    .exact h
  rw[gv o_ o_,gv hb.1 hb.2]
def GZ(h:P:=by
 go_enter func243,ntmps243;go_wp2_with ((go_at_call 110;refine aA (HQ.out _) ?_))
 refine Vk (v:=.tuple #[.agg #[(),(),(),(),(),()],false]) (by simp [results,results243,go_sem]) rfl ?_;exact ED HE.out (by exact z_)):=h
def Gv(h:P:=by
 go_enter func273,ntmps273;go_wp2_with ((go_at_call 148;refine aA (HQ.out _) ?_))
 refine Vk (v:=.tuple #[.agg #[(),(),(),(),(),()],false]) (by simp [results,results273,go_sem]) rfl ?_;exact ED HE.out (by exact z_)):=h
def nM{n d}(hn:1<=n/\n<=1000000000)(hd:1<=d/\d<=1000000000):jO n d=true:=by
 have hg:0<Int.gcd n d:=YA.2 (.inl o_);have h1:=WA n d;have h2:=Wi n d;have hG:bK n d=(Int.gcd n d:Nat):=by unfold bK au;rw[Vm o_]
 have e1:bc n d=n / (Int.gcd n d:Nat):=by unfold bc;rw[hG,WY o_]
 have e2:aO n d=d / (Int.gcd n d:Nat):=by unfold aO;rw[hG,WY o_]
 have hc:=Int.gcd_ediv_gcd_ediv_gcd hg;have p1:1<=n / (Int.gcd n d:Nat):=by have:=XU (show 0<n by omega) o_ h1;omega
 have p2:1<=d / (Int.gcd n d:Nat):=by have:=XU (show 0<d by omega) o_ h2;omega
 have p3:=WZ ((Int.gcd n d:Nat):Int) (show 0<=n by omega);have p4:=WZ ((Int.gcd n d:Nat):Int) (show 0<=d by omega);have cF:(d==0)=false:=u_;unfold jO kV;rw[cF,e1,e2];unfold bQ;simp;refine⟨⟨gv o_ o_,gv o_ o_⟩,?_⟩;unfold au;rw[hc];rfl
def mp{n d}(hn:1<=n/\n<=1000000000)(hd:1<=d/\d<=1000000000):bQ (bc n d) (aO n d)=true:=by
 have h:=nM hn hd;unfold jO at h;simp at h;exact h.2
def bj(u v:Int):Int:=u*v*(u*u - v*v)
def fm(n u v:Int):Bool:=(bj u v % n==0)&&cl (bj u v / n)
def md(n u v:Int):Value:=kU (bc (u*u - v*v) (aq (bj u v / n))) (aO (u*u - v*v) (aq (bj u v / n))) (bc (2*u*v) (aq (bj u v / n))) (aO (2*u*v) (aq (bj u v / n))) (bc (u*u+v*v) (aq (bj u v / n))) (aO (u*u+v*v) (aq (bj u v / n)))
def A4:Value:=.agg #[(),(),(),(),(),()]
def ma(n u v:Int):Value:=if fm n u v then md n u v else A4
def nj(w:World)(V:Value)(b:Bool)(e:Ending)(w':World):Prop:=e=.returned (.tuple #[V,b])/\af w w w'
def ED{w w'}{n u v}(h:fm n u v=false)(hb:af w.heap.size w w'):nj w (ma n u v) (fm n u v) (.returned (.tuple #[.agg #[(),(),(),(),(),()],false])) w':=by
 unfold ma;rw[h];exact⟨rfl,hb⟩
def En{w w'}{n u v a b c d e f:Int}(h:fm n u v=true)(hV:md n u v=.agg #[a,b,c,d,e,f])(hb:af w.heap.size w w'):nj w (ma n u v) (fm n u v) (.returned (.tuple #[.agg #[a,b,c,d,e,f],true])) w':=by
 unfold ma;rw[h,<-hV];exact⟨rfl,hb⟩
def tJ(a x b y c z):∃p q r s t u:Int,kU a x b y c z=.agg #[p,q,r,s,t,u]:=by
 unfold kU A5;split<;>exact⟨_,_,_,_,_,_,rfl⟩
def sp{u v}(hu:1<=u/\u<=100)(hv:1<=v/\v<=u - 1):
 (1<=u*v/\u*v<=10000)/\(1<=u*u/\u*u<=10000)/\(1<=v*v/\v*v<=10000)/\(1<=u*u - v*v/\u*u - v*v<=10000)/\(1<=bj u v/\bj u v<=100000000):=by
 have h1:=Vs hu.1 hv.1 o_ o_;have h2:=Vs hu.2 (show v<=100 by omega) o_ o_;have h3:=Vs hu.2 hu.2 o_ o_;have h4:=Vs hv.1 hv.1 o_ o_;have h5:(v+1)*(v+1)<=u*u:=Vs o_ o_ o_ o_;have h6:(v+1)*(v+1)=v*v+2*v+1:=by rw[YJ,Wn];omega
 have h7:1<=u*u - v*v/\u*u - v*v<=10000:=o_;have h8:1*1<=u*v*(u*u - v*v):=Vs o_ h7.1 o_ o_;have h9:u*v*(u*u - v*v)<=10000*10000:=Vs o_ h7.2 o_ o_;unfold bj;omega
def U2{a}(h:1<=a/\a<=100000000):1<=aq a/\aq a<=20000:=by
 have h1:=nU (n:=a) o_;have h2:=oh (n:=a) (b:=20001) o_ o_ o_;have h3:=lu a;refine⟨?_,o_⟩;rcases VJ 0 (aq a) with h|h
 .exact h
 .have e:aq a=0:=o_;rw[e] at h1;omega
def Bg{a n:Int}(hn:1<=n)(ha:1<=a/\a<=100000000):0<=a / n/\a / n<=100000000:=by
 have:=WZ n (show 0<=a by omega);have:=Xh (show 0<=a by omega) (show 0<=n by omega);omega
def US{a n:Int}(hn:1<=n)(ha:1<=a)(h:a % n=0):1<=a / n:=by
 have:=XU (show 0<a by omega) (show 0<=n by omega) (VT h);omega
def yk{n u v}(hn:1<=n/\n<=31)(hu:1<=u/\u<=100)(hv:1<=v/\v<=u - 1)(hm:bj u v % n=0):
 (1<=aq (bj u v / n)/\aq (bj u v / n)<=20000):=U2 ⟨US hn.1 (sp hu hv).2.2.2.2.1 hm,(Bg hn.1 (sp hu hv).2.2.2.2).2⟩
def OX(n u v:Int)(hn:1<=n/\n<=31)(hu:1<=u/\u<=100)(hv:1<=v/\v<=u - 1)(w):
 Kp 243 #[n,u,v] w (nj w (ma n u v) (fm n u v)):=by
 have⟨b1,b2,b3,b4,b5⟩:=sp hu hv;have⟨b6,b7⟩:=Bg hn.1 b5;have HA:Hid (bj u v=u*v*(u*u - v*v)):=rfl;have⟨kT,J⟩:=ay w #[(),(),(),(),(),()] 175;have V:Hid (fm n u v=((bj u v % n==0)&&cl (bj u v / n))):=rfl;have HQ:Hid (∀w,_):=λw=>xy (bj u v / n) o_ w;cases h1:(bj u v % n==0)
 .have HE:Hid (fm n u v=false):=by show _=_;rw[V.out,h1];rfl
  have ab:(bj u v % n != 0)=true:=by unfold bne;rw[h1];rfl
  rw[HA.out] at h1 ab b5 b6 b7 HQ;generalize cl (u*v*(u*u - v*v) / n)=bq at HQ
  skip
  exact GZ
 .have hm:=by simpa using h1
  cases h2:cl (bj u v / n)
  .have HE:Hid (fm n u v=false):=by show _=_;rw[V.out,h2,Yh]
   have ab:(bj u v % n != 0)=false:=by unfold bne;rw[h1];rfl
   rw[h2] at HQ
   skip
   rw[HA.out] at h1 ab b5 b6 b7 HQ hm;exact GZ
  .have HE:Hid (fm n u v=true):=by show _=_;rw[V.out,h1,h2];rfl
   have ab:(bj u v % n != 0)=false:=by unfold bne;rw[h1];rfl
   have hk:=yk hn hu hv hm;rw[h2] at HQ;have HR:Hid (∀w,_):=λw=>pg (bj u v / n) o_ w;have f1:=mp (n:=u*u - v*v) (d:=aq (bj u v / n)) o_ o_;have f2:=mp (n:=2*u*v) (d:=aq (bj u v / n)) (by rw[Wd];omega) o_;have f3:=mp (n:=u*u+v*v) (d:=aq (bj u v / n)) o_ o_;have g2:1<=2*u*v/\2*u*v<=20000:=by rw[Wd];omega
   have b8:=λw=>qW (u*u - v*v) (aq (bj u v / n)) o_ o_ w;rw[nM o_ o_] at b8;simp only[ie,WB] at b8;have bz:=λw=>qW (2*u*v) (aq (bj u v / n)) o_ o_ w;rw[nM o_ o_] at bz;simp only[ie,WB] at bz;have G:=λw=>qW (u*u+v*v) (aq (bj u v / n)) o_ o_ w;rw[nM o_ o_] at G;simp only[ie,WB] at G;have HO:=λw=>QC _ _ _ _ _ _ f1 f2 f3 w;have HV:Hid (md n u v=_):=rfl;have⟨p1,p2,p3,p4,p5,p6,hf⟩:=tJ (bc (u*u - v*v) (aq (bj u v / n))) (aO (u*u - v*v) (aq (bj u v / n))) (bc (2*u*v) (aq (bj u v / n))) (aO (2*u*v) (aq (bj u v / n))) (bc (u*u+v*v) (aq (bj u v / n))) (aO (u*u+v*v) (aq (bj u v / n)));have HF:Hid (md n u v=.agg #[p1,p2,p3,p4,p5,p6]):=hf;rw[hf] at HO;generalize bc (u*u - v*v) (aq (bj u v / n))=F,aO (u*u - v*v) (aq (bj u v / n))=D1 at b8 HO;generalize bc (2*u*v) (aq (bj u v / n))=g,aO (2*u*v) (aq (bj u v / n))=D2 at bz HO;generalize bc (u*u+v*v) (aq (bj u v / n))=N3,aO (u*u+v*v) (aq (bj u v / n))=D3 at G HO;generalize aq (bj u v / n)=k at *;rw[HA.out] at h1 ab b5 b6 b7 HQ hm HR;go_enter func243,ntmps243;go_wp2_with (first|(go_at_call 110;refine aA (HQ.out _) ?_)|(go_at_call 106;refine aA (HR.out _) ?_))
   generalize w.alloc _=W at *;refine aj ((h_ b8).out _) λw1 I=>?_;have ax:=(kT.next I).alloc (.cells #[F,D1] 96);have a1:=ag I J.size J;have bb:=a1.size;go_wp2_with fail
   refine aj ((h_ bz).out _) λw2 U=>?_;have bp:=((ah.new w1 #[F,D1] 96).next U).alloc (.cells #[g,D2] 96);have aL:=(ax.next U).alloc (.cells #[g,D2] 96);have aa:af w w w2:=by exact z_
   have ad:=aa.size;go_wp2_with fail
   refine aj ((h_ G).out _) λw3 aF=>?_;have aG:=bp.next aF
   have aX:=(ah.new w2 #[g,D2] 96).next aF
   have aM:af w w w3:=by exact z_
   have a8:=aM.size;have⟨bY,bi,bv⟩:=aG.p2;have⟨bs,a6,a7⟩:=aX.p2;go_wp2_with fail
   refine aj ((h_ HO).out _) λw4 K=>?_;have H:=((aL.next aF).alloc (.cells #[N3,D3] 96)).next K
   have a2:af w w w4:=by exact z_
   have⟨a5,bo,ba,a9,bX,a4⟩:=H.q6;have⟨Z,ae,aZ,az,ac,a3⟩:=H.f6;have bx:=H.lt;go_wp2;have R:=((((((H.set 0 p1).set 1 p2).set 2 p3).set 3 p4).set 4 p5).set 5 p6)
   have hR:af w w ((((((w4.setCell w p1).setCell ⟨w,1,none⟩ p2).setCell ⟨w,2,none⟩ p3).setCell ⟨w,3,none⟩ p4).setCell ⟨w,4,none⟩ p5).setCell ⟨w,5,none⟩ p6):=by exact z_
   simp at R;generalize ((((((w4.setCell w p1).setCell ⟨w,1,none⟩ p2).setCell ⟨w,2,none⟩ p3).setCell ⟨w,3,none⟩ p4).setCell ⟨w,4,none⟩ p5).setCell ⟨w,5,none⟩ p6)=W9 at R hR ⊢;have⟨R0,R1,R2,R3,R4,R5⟩:=R.q6;exact Vk (v:=.tuple #[.agg #[p1,p2,p3,p4,p5,p6],true]) (by simp [results,results243,go_sem,R0,R1,R2,R3,R4,R5]) rfl (En HE.out HF.out hR)
def MF(n u v:Int)(hn:1<=n/\n<=31)(hu:1<=u/\u<=100)(hv:1<=v/\v<=u - 1)(w):
 Kp 273 #[n,u,v] w (nj w (ma n u v) (fm n u v)):=by
 have⟨b1,b2,b3,b4,b5⟩:=sp hu hv;have⟨b6,b7⟩:=Bg hn.1 b5;have HA:Hid (bj u v=u*v*(u*u - v*v)):=rfl;have⟨kT,J⟩:=ay w #[(),(),(),(),(),()] 175;have V:Hid (fm n u v=((bj u v % n==0)&&cl (bj u v / n))):=rfl;have HQ:Hid (∀w,_):=λw=>xj (bj u v / n) o_ w;cases h1:(bj u v % n==0)
 .have HE:Hid (fm n u v=false):=by show _=_;rw[V.out,h1];rfl
  have ab:(bj u v % n != 0)=true:=by unfold bne;rw[h1];rfl
  rw[HA.out] at h1 ab b5 b6 b7 HQ;generalize (if cl (u*v*(u*u - v*v) / n) then aq (u*v*(u*u - v*v) / n) else 0)=r0 at HQ;generalize cl (u*v*(u*u - v*v) / n)=bq at HQ;exact Gv
 .have hm:=by simpa using h1
  cases h2:cl (bj u v / n)
  .have HE:Hid (fm n u v=false):=by show _=_;rw[V.out,h2,Yh]
   have ab:(bj u v % n != 0)=false:=by unfold bne;rw[h1];rfl
   rw[h2] at HQ;rw[Vm Bool.false_ne_true] at HQ;rw[HA.out] at h1 ab b5 b6 b7 HQ hm;exact Gv
  .have HE:Hid (fm n u v=true):=by show _=_;rw[V.out,h1,h2];rfl
   have ab:(bj u v % n != 0)=false:=by unfold bne;rw[h1];rfl
   have hk:=yk hn hu hv hm;rw[h2] at HQ;rw[Vo rfl] at HQ;have f1:=mp (n:=u*u - v*v) (d:=aq (bj u v / n)) o_ o_;have f2:=mp (n:=2*u*v) (d:=aq (bj u v / n)) (by rw[Wd];omega) o_;have f3:=mp (n:=u*u+v*v) (d:=aq (bj u v / n)) o_ o_;have g2:1<=2*u*v/\2*u*v<=20000:=by rw[Wd];omega
   have b8:=λw=>qz (u*u - v*v) (aq (bj u v / n)) o_ o_ o_ w;rw[nM o_ o_] at b8;simp only[ie,WB] at b8;have bz:=λw=>qz (2*u*v) (aq (bj u v / n)) o_ o_ o_ w;rw[nM o_ o_] at bz;simp only[ie,WB] at bz;have G:=λw=>qz (u*u+v*v) (aq (bj u v / n)) o_ o_ o_ w;rw[nM o_ o_] at G;simp only[ie,WB] at G;have HO:=λw=>MH _ _ _ _ _ _ f1 f2 f3 w;have HV:Hid (md n u v=_):=rfl;have⟨p1,p2,p3,p4,p5,p6,hf⟩:=tJ (bc (u*u - v*v) (aq (bj u v / n))) (aO (u*u - v*v) (aq (bj u v / n))) (bc (2*u*v) (aq (bj u v / n))) (aO (2*u*v) (aq (bj u v / n))) (bc (u*u+v*v) (aq (bj u v / n))) (aO (u*u+v*v) (aq (bj u v / n)));have HF:Hid (md n u v=.agg #[p1,p2,p3,p4,p5,p6]):=hf;rw[hf] at HO;generalize bc (u*u - v*v) (aq (bj u v / n))=F,aO (u*u - v*v) (aq (bj u v / n))=D1 at b8 HO;generalize bc (2*u*v) (aq (bj u v / n))=g,aO (2*u*v) (aq (bj u v / n))=D2 at bz HO;generalize bc (u*u+v*v) (aq (bj u v / n))=N3,aO (u*u+v*v) (aq (bj u v / n))=D3 at G HO;generalize aq (bj u v / n)=k at *;rw[HA.out] at h1 ab b5 b6 b7 HQ hm;go_enter func273,ntmps273;go_wp2_with ((go_at_call 148;refine aA (HQ.out _) ?_))
   generalize w.alloc _=W at *;refine aj ((h_ b8).out _) λw1 I=>?_;have ax:=(kT.next I).alloc (.cells #[F,D1] 96);have a1:=ag I J.size J;have bb:=a1.size;go_wp2_with fail
   refine aj ((h_ bz).out _) λw2 U=>?_;have bp:=((ah.new w1 #[F,D1] 96).next U).alloc (.cells #[g,D2] 96);have aL:=(ax.next U).alloc (.cells #[g,D2] 96);have aa:af w w w2:=by exact z_
   have ad:=aa.size;go_wp2_with fail
   refine aj ((h_ G).out _) λw3 aF=>?_;have aG:=bp.next aF
   have aX:=(ah.new w2 #[g,D2] 96).next aF
   have aM:af w w w3:=by exact z_
   have a8:=aM.size;have⟨bY,bi,bv⟩:=aG.p2;have⟨bs,a6,a7⟩:=aX.p2;go_wp2_with fail
   refine aj ((h_ HO).out _) λw4 K=>?_;have H:=((aL.next aF).alloc (.cells #[N3,D3] 96)).next K
   have a2:af w w w4:=by exact z_
   have⟨a5,bo,ba,a9,bX,a4⟩:=H.q6;have⟨Z,ae,aZ,az,ac,a3⟩:=H.f6;have bx:=H.lt;go_wp2;have R:=((((((H.set 0 p1).set 1 p2).set 2 p3).set 3 p4).set 4 p5).set 5 p6)
   have hR:af w w ((((((w4.setCell w p1).setCell ⟨w,1,none⟩ p2).setCell ⟨w,2,none⟩ p3).setCell ⟨w,3,none⟩ p4).setCell ⟨w,4,none⟩ p5).setCell ⟨w,5,none⟩ p6):=by exact z_
   simp at R;generalize ((((((w4.setCell w p1).setCell ⟨w,1,none⟩ p2).setCell ⟨w,2,none⟩ p3).setCell ⟨w,3,none⟩ p4).setCell ⟨w,4,none⟩ p5).setCell ⟨w,5,none⟩ p6)=W9 at R hR ⊢;have⟨R0,R1,R2,R3,R4,R5⟩:=R.q6;exact Vk (v:=.tuple #[.agg #[p1,p2,p3,p4,p5,p6],true]) (by simp [results,results273,go_sem,R0,R1,R2,R3,R4,R5]) rfl (En HE.out HF.out hR)
def KK(h:P:=by
 cases bx
 all_goals
  go_enter func49,ntmps49;go_wp2_with fail
  (go_at_call 62;refine aj (HC.out _) λw1 I=>?_;obtain⟨aZ,a6⟩:=bu I;have ac:=I.size;(try simp only[VG] at ac);(try (have F:w.heap.size<w1.heap.size:=o_));(try (have b7:=Vt ac));(try (have b9:=Vt (Vq b7))))
  replace kP:=kP.next I
  have⟨bY,bZ,bX,b0⟩:=kP.p3;go_wp2_with (first|((with_reducible (go_at_call 63;refine aA (H1.out _) ?_)))|((with_reducible (go_at_call 63;refine aA (H2.out _) ?_))))
  go_ret;exact⟨by rw[HR.out];rfl,by exact z_⟩):=h
def sq(h:P:=by
 go_wp2;go_ret;exact⟨by rw[HR.out];rfl,by exact z_⟩):=h
def tN(A B X Y E:Int)(hC:be A B=true)(w):
 Kp 49 #[.agg #[A,B],.agg #[X,Y,E]] w λr w'=>r=.returned (.bool (dS A B X Y E))/\af w w w':=by
 obtain⟨hA,b6⟩:(-1000<=A/\A<=1000)/\(-10000<=B/\B<=10000):=by
  exact Gf
 have HC:Hid (∀w,_):=λw=>jV A B w;rw[hC] at HC;have⟨kC,kP,hB⟩:=cO w #[A,B] 42 #[X,Y,E] 46;have G:Hid (dS A B X Y E=((X==0&&Y==0&&E==0)||kf A B X Y E)):=rfl;have g:Hid (kf A B X Y E=(aw X (-10000) 10000&&aw E 1 20&&(au X E==1)&&aw Y (-3000000) 3000000&&(Y*Y==cvV A B X E))):=rfl;by_cases Z:E=0
 .subst Z;have U:Hid (kf A B X Y 0=false):=by show _=_;rw[g.out,show aw 0 1 20=false by decide,Yh];rfl
  have H2:Hid (∀w,_):=λw=>dh 0 1 20 w;rw[show aw 0 1 20=false by decide] at H2;have H1:Hid (∀w,_):=λw=>dh X (-10000) 10000 w;generalize aw X (-10000) 10000=bx at H1;by_cases H:X=0
  .subst H;by_cases J:Y=0
   .subst J;have HR:Hid (dS A B 0 0 0=true):=by show _=_;rw[G.out];rfl
    go_enter func49,ntmps49;go_wp2_with fail
    (go_at_call 62;refine aj (HC.out _) λw1 I=>?_)
    replace kP:=kP.next I
    have⟨_,_,_⟩:=kP.q3;exact sq
   .have cB:(Y==0)=false:=by simpa using J
    have HR:Hid (dS A B 0 Y 0=false):=by show _=_;rw[G.out,U.out,cB];rfl
    exact KK
  .have c4:(X==0)=false:=by simpa using H
   have HR:Hid (dS A B X Y 0=false):=by show _=_;rw[G.out,U.out,c4];rfl
   exact KK
 .have bs:(E==0)=false:=by simpa using Z
  have HP:Hid (dS A B X Y E=kf A B X Y E):=by show _=_;rw[G.out,bs];simp
  have H1:=h_ (dh X (-10000) 10000);have H2:=h_ (dh E 1 20);have H4:=h_ (dh Y (-3000000) 3000000);cases h1:aw X (-10000) 10000
  .have HR:Hid (dS A B X Y E=false):=by show _=_;rw[HP.out,g.out,h1];rfl
   rw[h1] at H1;go_enter func49,ntmps49;go_wp2_with fail
   (go_at_call 62;refine aj (HC.out _) λw1 I=>?_)
   replace kP:=kP.next I
   have⟨_,_,_⟩:=kP.q3;go_wp2_with fail
   exact aA (H1.out _) sq
  .have hx:=bO h1;rw[h1] at H1;cases h2:aw E 1 20
   .have HR:Hid (dS A B X Y E=false):=by show _=_;rw[HP.out,g.out,h1,h2];rfl
    rw[h2] at H2;go_enter func49,ntmps49;go_wp2_with fail
    (go_at_call 62;refine aj (HC.out _) λw1 I=>?_)
    replace kP:=kP.next I
    have⟨_,_,_⟩:=kP.q3;go_wp2_with fail
    refine aA (H1.out _) ?_;go_wp2_with fail
    exact aA (H2.out _) sq
   .have he:=bO h2;rw[h2] at H2;have HG:=h_ (ow X E o_ o_);cases h3:(au X E==1)
    .have HR:Hid (dS A B X Y E=false):=by show _=_;rw[HP.out,g.out,h1,h2,h3];rfl
     have ab:(au X E != 1)=true:=by unfold bne;rw[h3];rfl
     go_enter func49,ntmps49;go_wp2_with fail
     (go_at_call 62;refine aj (HC.out _) λw1 I=>?_)
     replace kP:=kP.next I
     have⟨_,_,_⟩:=kP.q3;go_wp2_with fail
     refine aA (H1.out _) ?_;go_wp2_with fail
     refine aA (H2.out _) ?_;go_wp2_with fail
     refine (HG.out _).mono ?_;rintro e w' ⟨rfl,V,rfl⟩;exact sq
    .have ab:(au X E != 1)=false:=by unfold bne;rw[h3];rfl
     cases h4:aw Y (-3000000) 3000000
     .have HR:Hid (dS A B X Y E=false):=by show _=_;rw[HP.out,g.out,h1,h2,h3,h4];rfl
      rw[h4] at H4;go_enter func49,ntmps49;go_wp2_with fail
      (go_at_call 62;refine aj (HC.out _) λw1 I=>?_)
      replace kP:=kP.next I
      have⟨_,_,_⟩:=kP.q3;go_wp2_with fail
      refine aA (H1.out _) ?_;go_wp2_with fail
      refine aA (H2.out _) ?_;go_wp2_with fail
      refine (HG.out _).mono ?_;rintro e w' ⟨rfl,V,rfl⟩;go_wp2_with fail
      exact aA (H4.out _) sq
     .have hy:=bO h4;have HR:Hid (dS A B X Y E=(Y*Y==cvV A B X E)):=by show _=_;rw[HP.out,g.out,h1,h2,h3,h4];rfl
      rw[h4] at H4;have b1:0<=Y*Y/\Y*Y<=9000000000000:=⟨by
       rcases YB 0 Y with h|h
       .exact VP h h
       .have:=VP (show 0<=-Y by omega) (show 0<=-Y by omega);rw[V8] at this;exact this,by have:=gZ (a:=3000000) (b:=3000000) hy hy;omega⟩
      have a4:IntKind.i64.wrap (Y*Y)=Y*Y:=Wg _ o_;have K:=h_ (tu A B X E hA b6 hx he);go_enter func49,ntmps49;go_wp2_with fail
      (go_at_call 62;refine aj (HC.out _) λw1 I=>?_)
      replace kP:=kP.next I
      replace kC:=kC.next I
      have ax:af w w w1:=by exact z_
      have⟨_,_,_⟩:=kP.q3;go_wp2_with fail
      refine aA (H1.out _) ?_;go_wp2_with fail
      refine aA (H2.out _) ?_;go_wp2_with fail
      refine (HG.out _).mono ?_;rintro e w' ⟨rfl,V,rfl⟩;go_wp2_with fail
      refine aA (H4.out _) ?_;go_wp2;have bX:=kP.drewN V;have aL:=kC.drewN V;have aa:=lr ax V;generalize w1.drewN V=W at *;have⟨a3,a1,aM,az⟩:=bX.p3;have⟨aX,aG,a2⟩:=aL.p2;have ad:=aa.size
      (refine bR k_ k_ ?_;(repeat (go_big_quiet_step ((go_at_call 65;exact Calls.quiet_cls ao _ (K.out _)))));refine wpQuiet_nil ?_;intro w5 ae)
      go_wp2;go_ret;exact⟨by rw[HR.out];rfl,ag ae ad aa⟩
def GJ(h:P:=by
 go_enter func107,ntmps107;go_wp2;generalize (w.alloc _).alloc _=W at *;have⟨bY,bZ,bX,b0⟩:=kP.p3
 (refine bR k_ k_ ?_;(repeat (go_big_quiet_step ((first|(with_reducible (go_at_call 104;exact Calls.quiet_clsS _ (H1.out _)))|(with_reducible (go_at_call 104;exact Calls.quiet_clsS _ (H2.out _)))|(with_reducible (go_at_call 104;exact Calls.quiet_clsS _ (H4.out _)))|(go_at_call 113;exact Calls.quiet_clsS _ (ac.out _))|(go_at_call 169;exact Calls.quiet_clsS _ (HG.out _))))));refine wpQuiet_nil ?_;intro w3 aF;obtain⟨J,H⟩:=bu aF;have cc:=aF.size;(try simp only[VG] at cc))
 have aZ:=ag aF hB.size hB;go_wp2;go_ret;exact⟨by rw[HR.out];rfl,aZ⟩):=h
def LZ(h:P:=by
 clear h1 h2 h4 HP g F;exact GJ):=h
def KW(h:P:=by
 exact GJ):=h
def Fu(A B X Y E:Int)(hA:bh A)(b6:a_ B)(w:World):
 Kp 107 #[.agg #[A,B],.agg #[X,Y,E]] w λr w'=>r=.returned (.bool (dS A B X Y E))/\af w w w':=by
 obtain⟨kC,kP,hB⟩:=cO w #[A,B] 42 #[X,Y,E] 46;have G:Hid (dS A B X Y E=((X==0&&Y==0&&E==0)||kf A B X Y E)):=rfl;have g:Hid (kf A B X Y E=(aw X (-10000) 10000&&aw E 1 20&&(au X E==1)&&aw Y (-3000000) 3000000&&(Y*Y==cvV A B X E))):=rfl;by_cases Z:E=0
 .subst Z;have U:Hid (kf A B X Y 0=false):=by show _=_;rw[g.out,show aw 0 1 20=false by decide,Yh];rfl
  have HR:Hid (dS A B X Y 0=(X==0&&Y==0)):=by show _=_;rw[G.out,U.out];simp
  clear G g U;cases hx:(X==0)<;>cases hy:(Y==0)
  all_goals
   rw[hx,hy] at HR;go_enter func107,ntmps107;go_wp2;go_ret;refine⟨by rw[HR.out];rfl,?_⟩;exact z_
 .have bs:(E==0)=false:=by simpa using Z
  have HP:Hid (dS A B X Y E=kf A B X Y E):=by show _=_;rw[G.out,bs];simp
  clear G Z;have H1:=h_ (cK X (-10000) 10000);have H2:=h_ (cK E 1 20);have H4:=h_ (cK Y (-10000000) 10000000);have ac:Hid True:=trivial;have HG:Hid True:=trivial;cases h1:aw X (-10000) 10000
  .have HR:Hid (dS A B X Y E=false):=by show _=_;rw[HP.out,g.out,h1];rfl
   rw[h1] at H1;clear h1 HP g;exact KW
  .have hx:=bO h1;rw[h1] at H1;cases h2:aw E 1 20
   .have HR:Hid (dS A B X Y E=false):=by show _=_;rw[HP.out,g.out,h1,h2];rfl
    rw[h2] at H2;clear h1 h2 HP g;exact KW
   .have he:=bO h2;rw[h2] at H2;have F:=h_ (S_ (Y:=Y) hA b6 hx he);cases h4:aw Y (-10000000) 10000000
    .have HR:Hid (dS A B X Y E=false):=by
      show _=_;have:=F.out;rw[h4,Bool.false_and] at this;rw[HP.out,g.out,h1,h2,Bool.and_assoc,<-this,Yh]
     rw[h4] at H4;exact LZ
    .have hy:=bO h4;rw[h4] at H4;clear ac HG;have ac:=h_ (lK X o_);have hg:=λw=>nJ X.natAbs E o_ o_ w;rw[Dd] at hg;have HG:=h_ hg;clear hg;cases h3:(au X E==1)
     .have HR:Hid (dS A B X Y E=false):=by show _=_;rw[HP.out,g.out,h1,h2,h3];rfl
      have ab:(au X E != 1)=true:=by unfold bne;rw[h3];rfl
      exact LZ
     .have ab:(au X E != 1)=false:=by unfold bne;rw[h3];rfl
      have HR:Hid (dS A B X Y E=(Y*Y==cvV A B X E)):=by
       show _=_;have:=F.out;rw[h4,YV] at this;rw[HP.out,g.out,h1,h2,h3,Bool.and_assoc,<-this];rfl
      have b1:0<=Y*Y/\Y*Y<=100000000000000:=⟨by
       rcases YB 0 Y with h|h
       .exact VP h h
       .have:=VP (show 0<=-Y by omega) (show 0<=-Y by omega);rw[V8] at this;exact this,by have:=gZ (a:=10000000) (b:=10000000) hy hy;omega⟩
      have a4:IntKind.i64.wrap (Y*Y)=Y*Y:=Wg _ o_;have K:=h_ (xG A B X E hA b6 hx he);clear h1 h2 h4 HP g F;go_enter func107,ntmps107;go_wp2;generalize (w.alloc _).alloc _=W at *;have⟨bY,bZ,bX,b0⟩:=kP.p3
      (refine bR k_ k_ ?_;(repeat (go_big_quiet_step ((first|(with_reducible (go_at_call 104;exact Calls.quiet_clsS _ (H1.out _)))|(with_reducible (go_at_call 104;exact Calls.quiet_clsS _ (H2.out _)))|(with_reducible (go_at_call 104;exact Calls.quiet_clsS _ (H4.out _)))|(go_at_call 113;exact Calls.quiet_clsS _ (ac.out _))|(go_at_call 169;exact Calls.quiet_clsS _ (HG.out _))))));refine wpQuiet_nil ?_;intro w3 aF;obtain⟨J,H⟩:=bu aF;have cc:=aF.size;(try simp only[VG] at cc))
      have aZ:=ag aF hB.size hB;have bX:=kP.next aF
      have aL:=kC.next aF
      clear aF J H kP kC hB;go_wp2;have⟨a3,a1,aM,az⟩:=bX.p3;have⟨aX,aG,a2⟩:=aL.p2;have V:=aZ.size
      (refine bR k_ k_ ?_;(repeat (go_big_quiet_step ((go_at_call 170;exact Calls.quiet_cls ao _ (K.out _)))));refine wpQuiet_nil ?_;intro w5 ae;obtain⟨aa,I⟩:=bu ae;have d0:=ae.size;(try simp only[VG] at d0))
      go_wp2;go_ret;exact⟨by rw[HR.out];rfl,ag ae V aZ⟩
def Sk{n}(h:jz n=true):1<=n/\n<=31:=by
 unfold jz at h;simp at h;exact bO h.1
def DK(n u v):∃p q r s t g:Int,ma n u v=.agg #[p,q,r,s,t,g]:=by
 unfold ma;split
 .exact tJ _ _ _ _ _ _
 .exact⟨0,0,0,0,0,0,rfl⟩
end Go.Proofs.YtaamhakdhaolmaaGreatDoor
