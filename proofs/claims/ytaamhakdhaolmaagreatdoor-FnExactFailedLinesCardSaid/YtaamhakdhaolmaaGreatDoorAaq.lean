/- Part 16. -/
import Derived.Test.YtaamhakdhaolmaaGreatDoorShelf
import Derived.Lib.AppendIntMem
import Derived.Lib.ItoaLen
import Derived.Lib.AtoiErrMem
import Derived.Test.YtaamhakdhaolmaaGreatDoorAag
import Derived.Test.YtaamhakdhaolmaaGreatDoorAap
namespace Go.Proofs.YtaamhakdhaolmaaGreatDoor
open Go.RowKit
set_option maxHeartbeats 8000000
set_option maxRecDepth 100000
variable {P:Prop}
set_option linter.all false
def vv(h:P:=by
 go_wp2;go_ret;exact⟨rfl,I⟩):=h
def IU(h:P:=by
 intro E hE bv cb;have hk:∀c:aU [] w E,c.wd.cell? ⟨r,0,none⟩=some (.int .u8 (48+(u:Int) % 10)):=λc=>(bv _ c.more).cell 0;(repeat (first|(refine gB ?_;go_big_quiet_step (fail);refine wpQuiet_nil ?_)|refine gA ?_));exact gC rfl):=h
def Gq(h:P:=by
 refine cV λWz a7 aX=>?_
 try dsimp only
 go_wp2;go_ret;exact⟨congrArg (λs=>Ending.returned (.string s)) HS.out,a7.below⟩):=h
def I2(h:P:=by
 go_enter Tryz.func57,Tryz.ntmps57;go_wp2_with fail
 refine ai (HC.out _) λw1 I=>?_;exact vv):=h
def EW(h:P:=by
 go_enter Tryz.func93,Tryz.ntmps93;go_wp2;exact vJ):=h
def Nq(w)(q)(os:Array Obj):Below w.heap.size w (Sort.grow (w.drewN q) os):=
 ⟨rfl,rfl,rfl,by simp [Sort.grow,World.drewN],λk hk=>by
   show (w.heap++os)[k]?=_;rw[Array.getElem?_append_left hk]⟩
abbrev TabI(w:World):Prop:=Lib.TabIs Tryz.prog w "internal/strconv.uint64pow10" .u64 Lib.pow10Tab
def TabI.below{w w'}(h:TabI w)(hb:Below w w w'):TabI w':=Lib.tabBelow_of_tabIs h w' hb
def pt(n:Int)(h0:-9223372036854775808<=n)(h1:n<=9223372036854775807)(w)(ht:TabI w):
 Rv 136 #[n] w (.string ⟨(Lib.itoa n).toArray⟩):=
 (Tryz.strconv_Itoa n h0 h1 w ht).mono λ_ _ ⟨he,k,os,G⟩=>⟨he,by rw[G];exact Nq w k os⟩
def As(u)(h:u<10):∀(w1) (r:Nat),w1.cell? ⟨r,0,none⟩=some (.int .u8 (48+(u)))->(convert 33 9 (.slice r 1 1)).run Tryz.prog w1=.ok (.string ⟨(Lib.decDigits u).toArray⟩) w1:=by
 intro w1 r hc;have:=run_convert_bytes_back (P:=Tryz.prog) w1 33 9 5 ⟨r,0,none⟩ 1 [UInt8.ofNat (48+u)] k_ k_ k_ (λj hj=>by
  have:=by simpa using hj
  subst this;have e:((UInt8.ofNat (48+u)).toNat:Int)=48+(u:Int):=u_;show w1.cell? r=_;rw[hc,Ws,e])
 rw[Lib.decDigits_one h];exact this
def xu(u)(h:u<1000000000000000000):(⟨(Lib.decDigits u).toArray⟩:aj).size<=20:=by
 show (Lib.decDigits u).toArray.size<=20;rw[Xk,Lib.decDigits_length];exact Lib.nDigits_le20 u o_
def Sp(u)(h:¬u<10):(⟨(Lib.decDigits (u / 10)).toArray⟩:aj)++⟨(Lib.decDigits (u % 10)).toArray⟩=⟨(Lib.decDigits u).toArray⟩:=by
 rw[Lib.decDigits_one (show u % 10<10 by omega)]
 conv=>rhs;rw[Lib.decDigits,XZ h]
 apply Yq;simp
def tX:∀(m u:Nat),u<=m->u<1000000000000000000->∀w:World,
 Rv 93 #[.int .i64 (u)] w (.string ⟨(Lib.decDigits u).toArray⟩):=by
 intro m
 induction m with
 |zero=>
  intro u hu bz w;have F:(u:Int)<10:=o_;have a9:=As u o_;exact EW
 |succ m g=>
  intro u hu bz w;by_cases F:u<10
  .have H:(u:Int)<10:=o_;have a9:=As u F;exact EW
  .have H:¬((u:Int)<10):=o_;have a9:=As (u % 10) o_;have G:=g (u / 10) o_ o_;have hs:=Sp u F;have z1:=xu (u / 10) o_;have z2:=xu (u % 10) o_;rw[Int.natCast_emod] at a9;rw[Int.natCast_ediv] at G;generalize (⟨(Lib.decDigits (u / 10)).toArray⟩:aj)=A at *;generalize (⟨(Lib.decDigits (u % 10)).toArray⟩:aj)=B at *;have HA:=λw=>Up (P:=Tryz.prog) w A B o_;have HS:=h_ hs;have I:=h_ G;clear g G hs;go_enter Tryz.func93,Tryz.ntmps93;go_wp2;refine br [] (λ_=>false) (λ_=>True) (λ_=>True) k_ trivial (aD ⟨w,ah.refl _ _,trivial⟩ [ae,ae,ac,ae,ae,ae,ae] 5 an aA ?_);refine aR [2,7] (ak.cons ?_ (ak.cons ?_ ak.nil))
   .refine lO (v:=.string A) (some 12) (λ_=>True) r_ r_ r_ (λ_=>by go_simp) an (λw1 _ _=>(I.out w1).mono λ_ _ ⟨he,hb⟩=>⟨he,ah.of_below hb,trivial⟩) (λhne=>?_);refine ao (aB 7 ?_);refine Cv (d:=17) (λr=>.slice r 1 1) #[.int .u8 (48+(u:Int) % 10)] 5 r_ r_ r_ (λ_=>by go_simp) an (λr hr hne=>?_);refine ao (xS (N':=ag r #[.int .u8 (48+(u:Int) % 10)] 5) ?_);apply lc hne [ac,ac,ac,ac,ac,ac,ac,ac,ae,ae,ae] 0 (aQ.and an aI) (λ_ h=>h.2) k_ k_ k_ k_ s_
    .exact IU
    exact Gq
   .refine Cv (d:=17) (λr=>.slice r 1 1) #[.int .u8 (48+(u:Int) % 10)] 5 r_ r_ r_ (λ_=>by go_simp) an (λr hr hne=>?_);refine ao (xS (N':=ag r #[.int .u8 (48+(u:Int) % 10)] 5) ?_);apply lc hne [ac,ac,ac,ac,ac,ac,ac,ac,ae] 3 (aQ.and an aI) (λ_ h=>h.2) k_ k_ k_ k_ s_
    .exact IU
    refine aB 2 (Ou (v:=.string A) (some 12) (λw'=>True/\ag r #[.int .u8 (48+(u:Int) % 10)] 5 w') r_ r_ r_ (λ_=>by go_simp) (aQ.and an aI) (λ_ h=>h.2) (λw1 _ hd=>(I.out w1).mono λ_ _ ⟨he,hb⟩=>⟨he,ah.of_below hb,trivial,ag.closed _ _ _ _ _ hd.2 hb⟩) (λhne=>?_));refine ao ?_;refine aD hne [ac,ac,ac,ac,ac,ac,ac,ac,ac,ae,ae] 0 (aQ.and an aI) (λ_ h=>h.2) ?_;exact Gq
def aC(n:Int):aj:=⟨(Lib.itoa n).toArray⟩
def xJ(u:Nat):aC (u)=⟨(Lib.decDigits u).toArray⟩:=by unfold aC;rw[Lib.itoa_nonneg]
def Qw(u:Nat)(h:1<=u):aC (-(u))=(⟨#[45]⟩:aj)++⟨(Lib.decDigits u).toArray⟩:=by
 unfold aC;rw[Lib.itoa_neg u h];apply Yq;simp
def dS(n)(h:-1000000000000<=n/\n<=1000000000000):(aC n).size<=21:=by
 show (Lib.itoa n).toArray.size<=21;rw[Xk];exact Lib.itoa_length_le n o_ o_
def Eg(n:Int)(h:-1000000000000<=n/\n<=1000000000000)(w):
 Rv 57 #[n] w (.string (aC n)):=by
 by_cases h0:n<0
 .obtain⟨u,rfl⟩:∃u:Nat,n=-(u:Int):=⟨n.natAbs,by omega⟩
  have hc:=tX u u (Ug _) o_;have hs:=Qw u o_;have z2:=xu u o_;generalize (⟨(Lib.decDigits u).toArray⟩:aj)=B at *;have z1:(⟨#[45]⟩:aj).size=1:=rfl;have HA:=λw=>Up (P:=Tryz.prog) w ⟨#[45]⟩ B o_;rw[hs];have HC:=h_ hc;have hn:IntKind.i64.wrap (-(-(u:Int)))=(u:Int):=by rw[Int.neg_neg];exact Vd _ o_
  exact I2
 .obtain⟨u,rfl⟩:=Vu (show 0<=n by omega);have hc:=tX u u (Ug _) o_;rw[xJ];generalize (⟨(Lib.decDigits u).toArray⟩:aj)=B at *;have HC:=h_ hc;exact I2
def uT(h:P:=by
 go_wp2;go_ret;exact⟨rfl,af I hB.size hB⟩):=h
def vu(h:P:=by
 simp only[Uu];omega):=h
def aE(a b:Int):aj:=if b=1 then aC a else aC a++⟨#[47]⟩++aC b
def nu(a b)(h1:(0<=b/\b<=1000000000)/\(-1000000000<=a/\a<=1000000000)):(aE a b).size<=50:=by
 have z1:=dS a o_;have z2:=dS b o_;have e1:(⟨#[47]⟩:aj).size=1:=rfl;unfold aE;split
 .omega
 .exact vu
def tF{a b}(h:bJ a b=true):(0<=b/\b<=1000000000)/\(-1000000000<=a/\a<=1000000000):=by
 have:=jK h;omega
def jg(a b)(h:bJ a b=true):(aE a b).size<=50:=nu a b (tF h)
def xh(a b:Int)(h1:(0<=b/\b<=1000000000)/\(-1000000000<=a/\a<=1000000000))(w):
 Rv 168 #[.agg #[a,b]] w (.string (aE a b)):=by
 have z1:=dS a o_;have z2:=dS b o_;have hF:aE a b=if b=1 then aC a else aC a++⟨#[47]⟩++aC b:=rfl
 have ha:=λw1=>Eg a o_ w1;have hb:∀w1:World,Rv 93 #[b] w1 (.string (aC b)):=λw1=>by
  obtain⟨u,rfl⟩:=Vu (show 0<=b by omega);rw[xJ];exact tX u u (Ug _) o_ w1
 rw[hF];generalize aC a=g,aC b=G at *;have HA:=h_ ha;have HB:=h_ hb;have e1:(⟨#[47]⟩:aj).size=1:=rfl;have f1:(g++⟨#[47]⟩:aj).size=g.size+1:=by rw[Uu];rfl
 have HX:=λw=>Up (P:=Tryz.prog) w g ⟨#[47]⟩ o_;have HY:=λw=>Up (P:=Tryz.prog) w (g++⟨#[47]⟩) G o_;have⟨kF,hB⟩:=aw w #[a,b] 96;by_cases hq:b=1
 .subst hq;rw[Um rfl];go_enter Tryz.func168,Tryz.ntmps168;go_wp2_with fail
  generalize w.alloc _=W at *;have⟨_,_⟩:=kF.q2;go_wp2_with fail
  exact ai (HA.out _) λw1 I=>uT
 .rw[Uj hq];have H:(b==1)=false:=by simpa using hq
  go_enter Tryz.func168,Tryz.ntmps168;go_wp2_with fail
  generalize w.alloc _=W at *;have⟨F,Z⟩:=kF.q2;have aL:=kF.lt;go_wp2
  (refine bP k_ k_ ?_;(repeat (go_big_quiet_step ((first|(go_at_call 57;exact Calls.quiet_cls an _ (HA.out _))|(go_at_call 93;exact Calls.quiet_cls an _ (HB.out _))))));refine wpQuiet_nil ?_;intro w1 I;have⟨aZ,a6⟩:=bf I;have ax:=I.size;(try simp at ax))
  exact uT
def oV(a b)(h:bJ a b=true)(w):
 Rv 168 #[.agg #[a,b]] w (.string (aE a b)):=xh a b (tF h) w
def wq(a b:Int)(h1:(0<=b/\b<=1000000000)/\(-1000000000<=a/\a<=1000000000))(w)(ht:TabI w):
 Rv 150 #[.agg #[a,b]] w (.string (aE a b)):=by
 have z1:=dS a o_;have z2:=dS b o_;have hF:aE a b=if b=1 then aC a else aC a++⟨#[47]⟩++aC b:=rfl
 have ha:∀w1:World,TabI w1->Rv 136 #[a] w1 (.string (aC a)):=λw1 ht=>pt a o_ o_ w1 ht;have hb:∀w1:World,TabI w1->Rv 136 #[b] w1 (.string (aC b)):=λw1 ht=>pt b o_ o_ w1 ht;rw[hF];generalize aC a=g,aC b=G at *;have HA:=h_ ha;have HB:=h_ hb;have e1:(⟨#[47]⟩:aj).size=1:=rfl;have f1:(g++⟨#[47]⟩:aj).size=g.size+1:=by rw[Uu];rfl
 have HX:=λw=>Up (P:=Tryz.prog) w g ⟨#[47]⟩ o_;have HY:=λw=>Up (P:=Tryz.prog) w (g++⟨#[47]⟩) G o_;have⟨kF,hB⟩:=aw w #[a,b] 96;have HW:=h_ (ht.below hB);by_cases hq:b=1
 .subst hq;rw[Um rfl];go_enter Tryz.func150,Tryz.ntmps150;go_wp2_with fail
  generalize w.alloc _=W at *;have⟨_,_⟩:=kF.q2;go_wp2_with fail
  exact ai (HA.out _ (HW.out)) λw1 I=>uT
 .rw[Uj hq];have H:(b==1)=false:=by simpa using hq
  go_enter Tryz.func150,Tryz.ntmps150;go_wp2_with fail
  generalize w.alloc _=W at *;have⟨F,Z⟩:=kF.q2;have aL:=kF.lt;go_wp2
  (refine bP k_ k_ ?_;(repeat (go_big_quiet_step ((first|(go_at_call 136;exact Calls.quiet_cls an _ (HA.out _ (HW.out.below (aU.over _).below)))|(go_at_call 136;exact Calls.quiet_cls an _ (HB.out _ (HW.out.below (aU.over _).below)))))));refine wpQuiet_nil ?_;intro w1 I;have⟨aZ,a6⟩:=bf I;have ax:=I.size;(try simp at ax))
  exact uT
def qh(a b)(h:bJ a b=true)(w)(ht:TabI w):
 Rv 150 #[.agg #[a,b]] w (.string (aE a b)):=wq a b (tF h) w ht
def vQ(h:P:=by have e:(⟨#[44]⟩:aj).size=1:=rfl;omega):=h
def Cd{P}{W F:World}{n:String}{I}(h:W.var? P n=some I)(hb:Below W W F):F.var? P n=some I:=by
 unfold World.var? at h ⊢;cases hg:P.globalNamed n with
 |none=>simp [hg] at h
 |some g=>
  simp only[hg,Xu] at h ⊢;have aG:g<W.heap.size:=by
   rcases Vn g W with J|J
   .exact J
   .simp [Xr J] at h
  rw[hb.block g aG];exact h
def PEnv(w:World):Prop:=TabI w/\(∃m,w.cell? ⟨0,0,none⟩=some (.int .i64 m))/\(∃tp p,w.var? Tryz.prog "strconv.ErrSyntax"=some #[.iface tp p])/\(∃tp p,w.var? Tryz.prog "strconv.ErrRange"=some #[.iface tp p])
def PEnv.below{w w'}(h:PEnv w)(hb:Below w w w'):PEnv w':=by
 have⟨h1,⟨m,h2⟩,⟨t3,p3,h3⟩,⟨t4,p4,h4⟩⟩:=h;exact⟨h1.below hb,⟨m,(hb.cell (World.block_lt_of_cell? _ _ h2)).trans h2⟩,⟨t3,p3,Cd h3 hb⟩,⟨t4,p4,Cd h4 hb⟩⟩
def tE(t:aj)(ht:t.size<=1048576)(v)(h:Lib.atoiAll t.data.toList=.ok v)(w):
 Rv 135 #[t] w (.tuple #[v,.nilIface]):=
 (Tryz.strconv_Atoi_ok t o_ v h w).mono λ_ _ ⟨h1,h2⟩=>⟨h1,by
   rcases h2 with rfl|⟨u,rfl⟩
   .exact Uk _ _
   .exact Lib.bytesWorld_below _ _ _⟩
def tf(t:aj)(ht:t.size<=1048576)(h:∀v,Lib.atoiAll t.data.toList≠.ok v)(w)(hE:PEnv w):
 Kp 135 #[t] w λe w'=>∃x tp q,e=.returned (.tuple #[.int .i64 x,.iface tp q])/\Below w w w':=by
 have⟨_,_,⟨t3,p3,h3⟩,⟨t4,p4,h4⟩⟩:=hE;rcases hz:Lib.atoiAll t.data.toList with v|_|_
 .exact absurd hz (h v)
 .exact (Tryz.strconv_Atoi_syntax_var t o_ ⟨h,by rw[hz];exactλh9=>by cases h9⟩ t3 p3 w h3).mono λ_ _ ⟨N,h1,_,_,h2⟩=>⟨_,_,_,h1,h2⟩
 .exact (Tryz.strconv_Atoi_range_var t o_ hz t4 p4 w h4).mono λ_ _ ⟨N,h1,_,_,h2⟩=>⟨_,_,_,h1,h2⟩
def Ey(p:aj)(c:UInt8)(G:p.size<=1048576)(w)(hE:PEnv w):
 Rv 146 #[p,.string ⟨#[c]⟩] w (.tuple #[.string ⟨(Lib.cut p.data.toList [c]).1.toArray⟩,.string ⟨(Lib.cut p.data.toList [c]).2.1.toArray⟩,.bool (Lib.cut p.data.toList [c]).2.2]):=by
 have⟨_,⟨m,hm⟩,_,_⟩:=hE;exact (Tryz.strings_Cut p ⟨#[c]⟩ m w o_ hm).mono λ_ _ ⟨h1,k,h2⟩=>⟨h1,h2▸lN (Uk _ _) k⟩
def xK(p:aj)(c:UInt8)(G:p.size<=1048576)(w):
 Rw 54 #[p,.string ⟨#[c]⟩] w (.string ⟨(Lib.trimSuffix p.data.toList [c]).toArray⟩):=
 (Tryz.strings_TrimSuffix p ⟨#[c]⟩ w o_).mono λ_ _ ⟨h1,h2⟩=>⟨h1,h2.symm⟩
def QB(p:aj)(c:UInt8)(w):
 Rw 147 #[p,.string ⟨#[c]⟩] w (.string ⟨(Lib.trimPrefix p.data.toList [c]).toArray⟩):=
 (Tryz.strings_TrimPrefix p ⟨#[c]⟩ w).mono λ_ _ ⟨h1,h2⟩=>⟨h1,h2.symm⟩
def oZ(n:Int)(h0:-9223372036854775808<=n)(h1:n<=9223372036854775807)(w)(hE:PEnv w):
 Rv 136 #[n] w (.string (aC n)):=pt n h0 h1 w hE.1
def tQ(l):(∃v,Lib.atoiAll l=.ok v)\/∀v,Lib.atoiAll l≠.ok v:=by
 by_cases h:∃v,Lib.atoiAll l=.ok v
 .exact .inl h
 .exact .inr λv hv=>h ⟨v,hv⟩
def EP(l)(c:UInt8):(Lib.cut l [c]).1.length<=l.length/\(Lib.cut l [c]).2.1.length<=l.length:=by
 unfold Lib.cut;split
 .simp;omega
 .simp
def vT(h:P:=by
 go_wp2;go_ret2;exact⟨rfl,I⟩):=h
def ER(h:P:=by
 go_wp2_with fail
 refine ai (HF.out _) λw2 U=>?_;have aa:=af U I.size I;go_wp2;go_ret2;exact⟨rfl,aa.alloc aa.size _⟩):=h
def EQ(h:P:=by
 go_wp2_with fail
 refine ai (HG.out _) λw1 I=>?_;exact vT):=h
def TU{n m}(hn:1<=n/\n<=31)(hm:2<=m/\m<=100)(h:gS n m=true):∃p q r s t u:Int,ip n m=.agg #[p,q,r,s,t,u]/\bJ p q=true/\bJ r s=true/\bJ t u=true:=by
 by_cases hx:∃p,iT n m p
 case neg=>
  have h9:gS n m=false:=by unfold gS;simp [hx]
  rw[h9] at h;cases h
 have⟨⟨u,v⟩,G⟩:=hx;rw[(Ev G).2];have⟨⟨h1,h2,h3⟩,h4,_⟩:=G;simp only at h1 h2 h3 h4;have hu:1<=u/\u<=100:=o_;have hv:1<=v/\v<=u - 1:=o_;have b8:=by
  unfold fc at h4;simp at h4;exact h4.1
 have hd:=xL hn hu hv b8;have⟨b1,b2,b3,b4,_⟩:=rq hu hv;have g:=Va 2 u v;have g1:=mb (n:=u*u - v*v) (d:=ap (bh u v / n)) o_ o_;have g2:=mb (n:=2*u*v) (d:=ap (bh u v / n)) o_ o_;have g3:=mb (n:=u*u+v*v) (d:=ap (bh u v / n)) o_ o_;unfold lL;generalize bc (u*u - v*v) (ap (bh u v / n))=a,aN (u*u - v*v) (ap (bh u v / n))=x,bc (2*u*v) (ap (bh u v / n))=b,aN (2*u*v) (ap (bh u v / n))=y,bc (u*u+v*v) (ap (bh u v / n))=c,aN (u*u+v*v) (ap (bh u v / n))=z at *;cases Z:ni a x b y
 .exact⟨_,_,_,_,_,_,yh Z,lg g1,lg g2,lg g3⟩
 .exact⟨_,_,_,_,_,_,xG Z,lg g2,lg g1,lg g3⟩
def jU(S:aj)(b:Bool)(w:World)(e:Ending)(w':World):Prop:=e=.returned (.tuple #[S,b])/\Below w w w'
def si(p q r s t u:Int):aj:=aE p q++⟨#[32]⟩++aE r s++⟨#[32]⟩++aE t u
def LH(n m)(h:jw n m=false)(w):
 Kp 132 #[n,m] w (jU ⟨#[]⟩ false w):=by
 have HG:Hid (∀w,_):=λw=>tq n m w;rw[h] at HG;go_enter Tryz.func132,Tryz.ntmps132;exact EQ
def LE(n m)(h:jw n m=true)(hM:nj n=false)(w):
 Kp 132 #[n,m] w (jU ⟨#[110,111]⟩ true w):=by
 have⟨hn,hm⟩:=nS h;have HG:Hid (∀w,_):=λw=>tq n m w;rw[h] at HG;have HM:Hid (∀w,_):=λw=>x_ n hn w;rw[hM] at HM;go_enter Tryz.func132,Tryz.ntmps132;go_wp2_with fail
 refine ai (HG.out _) λw1 I=>?_;go_wp2_with fail
 exact ay (HM.out _) vT
def LA(n m p q r s t u:Int)(h:jw n m=true)(hM:nj n=true)(hV:ip n m=.agg #[p,q,r,s,t,u])(hO:gS n m=false)(w):
 Kp 132 #[n,m] w (jU ⟨#[111,112,101,110]⟩ true w):=by
 have⟨hn,hm⟩:=nS h;have HG:Hid (∀w,_):=λw=>tq n m w;rw[h] at HG;have HM:Hid (∀w,_):=λw=>x_ n hn w;rw[hM] at HM;have hf:=λw=>Ch n m hn hm w;rw[hV,hO] at hf;have HF:=h_ hf;go_enter Tryz.func132,Tryz.ntmps132;go_wp2_with fail
 refine ai (HG.out _) λw1 I=>?_;go_wp2_with fail
 exact ay (HM.out _) ER
def LC(n m p q r s t u:Int)(h:jw n m=true)(hM:nj n=true)(hV:ip n m=.agg #[p,q,r,s,t,u])(hO:gS n m=true)(h1:bJ p q=true)(h2:bJ r s=true)(h3:bJ t u=true)(w):
 Kp 132 #[n,m] w (jU (si p q r s t u) true w):=by
 have kG:=λa b w1 h=>oV a b h w1;have zA:=jg p q h1;have zB:=jg r s h2;have zC:=jg t u h3;have hT:si p q r s t u=aE p q++⟨#[32]⟩++aE r s++⟨#[32]⟩++aE t u:=rfl;rw[hT];have f1:(aE p q++⟨#[32]⟩:aj).size=(aE p q).size+1:=by rw[Uu];rfl
 have f2:(aE p q++⟨#[32]⟩++aE r s:aj).size=(aE p q).size+1+(aE r s).size:=by rw[Uu,f1]
 have f3:(aE p q++⟨#[32]⟩++aE r s++⟨#[32]⟩:aj).size=(aE p q).size+1+(aE r s).size+1:=by rw[Uu,f2];rfl
 have e1:(⟨#[32]⟩:aj).size=1:=rfl;have ac:=λw=>Up (P:=Tryz.prog) w (aE p q) ⟨#[32]⟩ o_;have ae:=λw=>Up (P:=Tryz.prog) w (aE p q++⟨#[32]⟩) (aE r s) o_;have V:=λw=>Up (P:=Tryz.prog) w (aE p q++⟨#[32]⟩++aE r s) ⟨#[32]⟩ o_;have ad:=λw=>Up (P:=Tryz.prog) w (aE p q++⟨#[32]⟩++aE r s++⟨#[32]⟩) (aE t u) o_;have Z:=h_ kG;have⟨hn,hm⟩:=nS h;have HG:Hid (∀w,_):=λw=>tq n m w;rw[h] at HG;have HM:Hid (∀w,_):=λw=>x_ n hn w;rw[hM] at HM;have hf:=λw=>Ch n m hn hm w;rw[hV,hO] at hf;have HF:=h_ hf;go_enter Tryz.func132,Tryz.ntmps132;go_wp2_with fail
 refine ai (HG.out _) λw1 I=>?_;go_wp2_with fail
 refine ay (HM.out _) ?_;go_wp2_with fail
 refine ai (HF.out _) λw2 U=>?_;have aa:=af U I.size I;have kT:=ag.new w2 #[p,q,r,s,t,u] 175;have a4:=aa.alloc aa.size (.cells #[p,q,r,s,t,u] 175);go_wp2;generalize w2.alloc _=W,w2.heap.size=r6 at *;have⟨aL,aM,H,G,F,ax⟩:=kT.q6;have ab:=kT.lt
 (refine bP k_ k_ ?_;(repeat (go_big_quiet_step ((go_at_call 168;exact Calls.quiet_cls an _ (Z.out _ _ _ rk)))));refine wpQuiet_nil ?_;intro w9 aZ)
 go_wp2;go_ret2;exact⟨rfl,af aZ a4.size a4⟩
def LG(n m)(h:jw n m=false)(w):
 Kp 162 #[n,m] w (jU ⟨#[]⟩ false w):=by
 have HG:Hid (∀w,_):=λw=>tC n w;have H1:Hid (∀w,_):=λw=>cR m 2 100 w;have J:(jl n&&av m 2 100)=false:=h;cases h1:jl n
 .rw[h1] at HG;go_enter Tryz.func162,Tryz.ntmps162;exact EQ
 .rw[h1] at HG J;rw[Wl] at J;rw[J] at H1;go_enter Tryz.func162,Tryz.ntmps162;go_wp2_with fail
  refine ai (HG.out _) λw1 I=>?_;go_wp2_with fail
  exact ay (H1.out _) vT
def LD(n m)(h:jw n m=true)(hM:nj n=false)(w):
 Kp 162 #[n,m] w (jU ⟨#[110,111]⟩ true w):=by
 have⟨hn,hm⟩:=nS h;have HG:Hid (∀w,_):=λw=>tC n w;have H1:Hid (∀w,_):=λw=>cR m 2 100 w;have J:(jl n&&av m 2 100)=true:=h;rw[Ux] at J;rw[J.1] at HG;rw[J.2] at H1;have HC:Hid (∀w,_):=λw=>wB n hn w;have g:(gv n==2*gu n)=false:=hM;have K:(gv n != 2*gu n)=true:=by unfold bne;rw[g];rfl
 have b5:=vy n;generalize gv n=A,gu n=B at *;have a8:IntKind.i64.wrap (2*B)=2*B:=Vd _ o_;go_enter Tryz.func162,Tryz.ntmps162;go_wp2_with fail
 refine ai (HG.out _) λw1 I=>?_;go_wp2_with fail
 refine ay (H1.out _) ?_;go_wp2_with fail
 exact ay (HC.out _) vT
def LB(n m p q r s t u:Int)(h:jw n m=true)(hM:nj n=true)(hV:ip n m=.agg #[p,q,r,s,t,u])(hO:gS n m=false)(w):
 Kp 162 #[n,m] w (jU ⟨#[111,112,101,110]⟩ true w):=by
 have⟨hn,hm⟩:=nS h;have HG:Hid (∀w,_):=λw=>tC n w;have H1:Hid (∀w,_):=λw=>cR m 2 100 w;have J:(jl n&&av m 2 100)=true:=h;rw[Ux] at J;rw[J.1] at HG;rw[J.2] at H1;have HC:Hid (∀w,_):=λw=>wB n hn w;have g:(gv n==2*gu n)=true:=hM;have K:(gv n != 2*gu n)=false:=by unfold bne;rw[g];rfl
 have b5:=vy n;generalize gv n=A,gu n=B at *;have a8:IntKind.i64.wrap (2*B)=2*B:=Vd _ o_;have hf:=λw=>AR n m hn hm w;rw[hV,hO] at hf;have HF:=h_ hf;go_enter Tryz.func162,Tryz.ntmps162;go_wp2_with fail
 refine ai (HG.out _) λw1 I=>?_;go_wp2_with fail
 refine ay (H1.out _) ?_;go_wp2_with fail
 exact ay (HC.out _) ER
def LF(n m p q r s t u:Int)(h:jw n m=true)(hM:nj n=true)(hV:ip n m=.agg #[p,q,r,s,t,u])(hO:gS n m=true)(h1:bJ p q=true)(h2:bJ r s=true)(h3:bJ t u=true)(w)(ht:TabI w):
 Kp 162 #[n,m] w (jU (si p q r s t u) true w):=by
 have aF:=h_ ht;have kG:=λa b w1 h ht=>qh a b h w1 ht;have zA:=jg p q h1;have zB:=jg r s h2;have zC:=jg t u h3;have hT:si p q r s t u=aE p q++⟨#[32]⟩++aE r s++⟨#[32]⟩++aE t u:=rfl;rw[hT];have f1:(aE p q++⟨#[32]⟩:aj).size=(aE p q).size+1:=by rw[Uu];rfl
 have f2:(aE p q++⟨#[32]⟩++aE r s:aj).size=(aE p q).size+1+(aE r s).size:=by rw[Uu,f1]
 have f3:(aE p q++⟨#[32]⟩++aE r s++⟨#[32]⟩:aj).size=(aE p q).size+1+(aE r s).size+1:=by rw[Uu,f2];rfl
 have e1:(⟨#[32]⟩:aj).size=1:=rfl;have ac:=λw=>Up (P:=Tryz.prog) w (aE p q) ⟨#[32]⟩ o_;have ae:=λw=>Up (P:=Tryz.prog) w (aE p q++⟨#[32]⟩) (aE r s) o_;have V:=λw=>Up (P:=Tryz.prog) w (aE p q++⟨#[32]⟩++aE r s) ⟨#[32]⟩ o_;have ad:=λw=>Up (P:=Tryz.prog) w (aE p q++⟨#[32]⟩++aE r s++⟨#[32]⟩) (aE t u) o_;have Z:=h_ kG;have⟨hn,hm⟩:=nS h;have HG:Hid (∀w,_):=λw=>tC n w;have H1:Hid (∀w,_):=λw=>cR m 2 100 w;have J:(jl n&&av m 2 100)=true:=h;rw[Ux] at J;rw[J.1] at HG;rw[J.2] at H1;have HC:Hid (∀w,_):=λw=>wB n hn w;have g:(gv n==2*gu n)=true:=hM;have K:(gv n != 2*gu n)=false:=by unfold bne;rw[g];rfl
 have b5:=vy n;generalize gv n=A,gu n=B at *;have a8:IntKind.i64.wrap (2*B)=2*B:=Vd _ o_;have hf:=λw=>AR n m hn hm w;rw[hV,hO] at hf;have HF:=h_ hf;go_enter Tryz.func162,Tryz.ntmps162;go_wp2_with fail
 refine ai (HG.out _) λw1 I=>?_;go_wp2_with fail
 refine ay (H1.out _) ?_;go_wp2_with fail
 refine ay (HC.out _) ?_;go_wp2_with fail
 refine ai (HF.out _) λw2 U=>?_;have aa:=af U I.size I;have kT:=ag.new w2 #[p,q,r,s,t,u] 175;have a4:=aa.alloc aa.size (.cells #[p,q,r,s,t,u] 175);go_wp2;generalize w2.alloc _=W,w2.heap.size=r6 at *;have⟨aL,aM,H,G,F,ax⟩:=kT.q6;have ab:=kT.lt;have HW:=h_ (aF.out.below a4)
 (refine bP k_ k_ ?_;(repeat (go_big_quiet_step ((go_at_call 150;exact Calls.quiet_cls an _ (Z.out _ _ _ rk (HW.out.below (aU.over _).below))))));refine wpQuiet_nil ?_;intro w9 aZ)
 go_wp2;go_ret2;exact⟨rfl,af aZ a4.size a4⟩
def qZ(n m:Int):∃(S:aj) (b:Bool),(∀w:World,TabI w->Kp 132 #[n,m] w (jU S b w))/\(∀w:World,TabI w->Kp 162 #[n,m] w (jU S b w))/\S.size<=400:=by
 cases h:jw n m
 .exact⟨_,_,λw _=>LH n m h w,λw _=>LG n m h w,by decide⟩
 .cases hM:nj n
  .exact⟨_,_,λw _=>LE n m h hM w,λw _=>LD n m h hM w,by decide⟩
  .cases hO:gS n m
   .have⟨p,q,r,s,t,u,hV⟩:=Qx n m;exact⟨_,_,λw _=>LA n m p q r s t u h hM hV hO w,λw _=>LB n m p q r s t u h hM hV hO w,by decide⟩
   .have⟨hn,hm⟩:=nS h;have⟨p,q,r,s,t,u,hV,h1,h2,h3⟩:=TU hn hm hO;exact⟨_,_,λw _=>LC n m p q r s t u h hM hV hO h1 h2 h3 w,λw ht=>LF n m p q r s t u h hM hV hO h1 h2 h3 w ht,by
     have z1:=jg p q h1;have z2:=jg r s h2;have z3:=jg t u h3;have e1:(⟨#[32]⟩:aj).size=1:=rfl;unfold si;simp;omega⟩
end Go.Proofs.YtaamhakdhaolmaaGreatDoor
