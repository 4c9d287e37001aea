/- Part 19. -/
import Derived.Test.YtaamhakdhaolmaaGreatDoorShelf
import Derived.Lib.AppendIntMem
import Derived.Lib.ItoaLen
import Derived.Lib.AtoiErrMem
import Derived.Test.YtaamhakdhaolmaaGreatDoorSaf
import Derived.Test.YtaamhakdhaolmaaGreatDoorSas
namespace Go.Proofs.YtaamhakdhaolmaaGreatDoor
open Go.RowKit Go.Proofs.Tryz
set_option maxHeartbeats 8000000
set_option maxRecDepth 100000
variable {P:Prop}
set_option linter.all false
def vW(h:P:=by
 go_wp2;go_ret;exact⟨rfl,I⟩):=h
def Jy(h:P:=by
 intro E hE bs b8;have hk:∀c:aU [] w E,c.wd.cell? ⟨r,0,none⟩=some (.int .u8 (48+(u:Int) % 10)):=λc=>(bs _ c.more).cell 0;(repeat (first|(refine gN ?_;go_big_quiet_step (fail);refine wpQuiet_nil ?_)|refine gM ?_));exact gO rfl):=h
def G7(h:P:=by
 refine dn λWz a7 aX=>?_
 try dsimp only
 go_wp2;go_ret;exact⟨congrArg (λs=>Ending.returned (.string s)) HS.out,a7.below⟩):=h
def JG(h:P:=by
 go_enter func57,ntmps57;go_wp2_with fail
 refine aj (HC.out _) λw1 I=>?_;exact vW):=h
def FH(h:P:=by
 go_enter func93,ntmps93;go_wp2;exact wj):=h
def Oj(w)(q)(os:Array Obj):af w.heap.size w (Sort.grow (w.drewN q) os):=
 ⟨rfl,rfl,rfl,by simp [Sort.grow,World.drewN],λk hk=>by
   show (w.heap++os)[k]?=_;rw[Array.getElem?_append_left hk]⟩
abbrev TabI(w:World):Prop:=Lib.TabIs prog w "internal/strconv.uint64pow10" .u64 Lib.pow10Tab
def TabI.below{w w'}(h:TabI w)(hb:af w w w'):TabI w':=Lib.tabBelow_of_tabIs h w' hb
def pL(n:Int)(h0:-9223372036854775808<=n)(h1:n<=9223372036854775807)(w)(ht:TabI w):
 Rv 136 #[n] w (.string ⟨(Lib.itoa n).toArray⟩):=
 (Tryz.strconv_Itoa n h0 h1 w ht).mono λ_ _ ⟨he,k,os,G⟩=>⟨he,by rw[G];exact Oj w k os⟩
def AV(u)(h:u<10):∀(w1) (r:Nat),w1.cell? ⟨r,0,none⟩=some (.int .u8 (48+(u)))->(convert 33 9 (.slice r 1 1)).run prog w1=.ok (.string ⟨(Lib.decDigits u).toArray⟩) w1:=by
 intro w1 r hc;have:=run_convert_bytes_back (P:=prog) w1 33 9 5 ⟨r,0,none⟩ 1 [UInt8.ofNat (48+u)] k_ k_ k_ (λj hj=>by
  have:=by simpa using hj
  subst this;have e:((UInt8.ofNat (48+u)).toNat:Int)=48+(u:Int):=u_;show w1.cell? r=_;rw[hc,XI,e])
 rw[Lib.decDigits_one h];exact this
def xY(u)(h:u<1000000000000000000):(⟨(Lib.decDigits u).toArray⟩:ak).size<=20:=by
 show (Lib.decDigits u).toArray.size<=20;rw[Yl,Lib.decDigits_length];exact Lib.nDigits_le20 u o_
def Tm(u)(h:¬u<10):(⟨(Lib.decDigits (u / 10)).toArray⟩:ak)++⟨(Lib.decDigits (u % 10)).toArray⟩=⟨(Lib.decDigits u).toArray⟩:=by
 rw[Lib.decDigits_one (show u % 10<10 by omega)]
 conv=>rhs;rw[Lib.decDigits,Y4 h]
 apply Zv;simp
def uv:∀(m u:Nat),u<=m->u<1000000000000000000->∀w:World,
 Rv 93 #[.int .i64 (u)] w (.string ⟨(Lib.decDigits u).toArray⟩):=by
 intro m
 induction m with
 |zero=>
  intro u hu bz w;have F:(u:Int)<10:=o_;have a9:=AV u o_;exact FH
 |succ m g=>
  intro u hu bz w;by_cases F:u<10
  .have H:(u:Int)<10:=o_;have a9:=AV u F;exact FH
  .have H:¬((u:Int)<10):=o_;have a9:=AV (u % 10) o_;have G:=g (u / 10) o_ o_;have hs:=Tm u F;have z1:=xY (u / 10) o_;have z2:=xY (u % 10) o_;rw[Int.natCast_emod] at a9;rw[Int.natCast_ediv] at G;generalize (⟨(Lib.decDigits (u / 10)).toArray⟩:ak)=A at *;generalize (⟨(Lib.decDigits (u % 10)).toArray⟩:ak)=B at *;have HA:=λw=>Vr (P:=prog) w A B o_;have HS:=h_ hs;have I:=h_ G;clear g G hs;go_enter func93,ntmps93;go_wp2;refine bw [] (λ_=>false) (λ_=>True) (λ_=>True) k_ trivial (aE ⟨w,ai.refl _ _,trivial⟩ [ae,ae,ac,ae,ae,ae,ae] 5 ao aB ?_);refine aR [2,7] (am.cons ?_ (am.cons ?_ am.nil))
   .refine mf (v:=.string A) (some 12) (λ_=>True) r_ r_ r_ (λ_=>by go_simp) ao (λw1 _ _=>(I.out w1).mono λ_ _ ⟨he,hb⟩=>⟨he,ai.of_below hb,trivial⟩) (λhne=>?_);refine ap (aD 7 ?_);refine C2 (d:=17) (λr=>.slice r 1 1) #[.int .u8 (48+(u:Int) % 10)] 5 r_ r_ r_ (λ_=>by go_simp) ao (λr hr hne=>?_);refine ap (yt (N':=ah r #[.int .u8 (48+(u:Int) % 10)] 5) ?_);apply lw hne (bk 8 3) 0 (aQ.and ao aK) (λ_ h=>h.2) k_ k_ k_ k_ s_
    .exact Jy
    exact G7
   .refine C2 (d:=17) (λr=>.slice r 1 1) #[.int .u8 (48+(u:Int) % 10)] 5 r_ r_ r_ (λ_=>by go_simp) ao (λr hr hne=>?_);refine ap (yt (N':=ah r #[.int .u8 (48+(u:Int) % 10)] 5) ?_);apply lw hne (bk 8 1) 3 (aQ.and ao aK) (λ_ h=>h.2) k_ k_ k_ k_ s_
    .exact Jy
    refine aD 2 (Pe (v:=.string A) (some 12) (λw'=>True/\ah r #[.int .u8 (48+(u:Int) % 10)] 5 w') r_ r_ r_ (λ_=>by go_simp) (aQ.and ao aK) (λ_ h=>h.2) (λw1 _ hd=>(I.out w1).mono λ_ _ ⟨he,hb⟩=>⟨he,ai.of_below hb,trivial,ah.closed _ _ _ _ _ hd.2 hb⟩) (λhne=>?_));refine ap ?_;refine aE hne (bk 9 2) 0 (aQ.and ao aK) (λ_ h=>h.2) ?_;exact G7
def aC(n:Int):ak:=⟨(Lib.itoa n).toArray⟩
def yi(u:Nat):aC (u)=⟨(Lib.decDigits u).toArray⟩:=by unfold aC;rw[Lib.itoa_nonneg]
def Ri(u:Nat)(h:1<=u):aC (-(u))=(⟨#[45]⟩:ak)++⟨(Lib.decDigits u).toArray⟩:=by
 unfold aC;rw[Lib.itoa_neg u h];apply Zv;simp
def dX(n)(h:-1000000000000<=n/\n<=1000000000000):(aC n).size<=21:=by
 show (Lib.itoa n).toArray.size<=21;rw[Yl];exact Lib.itoa_length_le n o_ o_
def yS(n:Int)(h:-1000000000000<=n/\n<=1000000000000)(w):
 Rv 57 #[n] w (.string (aC n)):=by
 by_cases h0:n<0
 .obtain⟨u,rfl⟩:∃u:Nat,n=-(u:Int):=⟨n.natAbs,o_⟩
  have hc:=uv u u (Vj _) o_;have hs:=Ri u o_;have z2:=xY u o_;generalize (⟨(Lib.decDigits u).toArray⟩:ak)=B at *;have z1:(⟨#[45]⟩:ak).size=1:=rfl;have HA:=λw=>Vr (P:=prog) w ⟨#[45]⟩ B o_;rw[hs];have HC:=h_ hc;have hn:IntKind.i64.wrap (-(-(u:Int)))=(u:Int):=by rw[Int.neg_neg];exact Wg _ o_
  exact JG
 .obtain⟨u,rfl⟩:=Wr (show 0<=n by omega);have hc:=uv u u (Vj _) o_;rw[yi];generalize (⟨(Lib.decDigits u).toArray⟩:ak)=B at *;have HC:=h_ hc;exact JG
def vA(h:P:=by
 go_wp2;go_ret;exact⟨rfl,ag I hB.size hB⟩):=h
def vV(h:P:=by
 simp only[Vu];omega):=h
def aH(a b:Int):ak:=if b=1 then aC a else aC a++⟨#[47]⟩++aC b
def nK(a b)(h1:(0<=b/\b<=1000000000)/\(-1000000000<=a/\a<=1000000000)):(aH a b).size<=50:=by
 have z1:=dX a o_;have z2:=dX b o_;have e1:(⟨#[47]⟩:ak).size=1:=rfl;unfold aH;split
 .omega
 .exact vV
def ud{a b}(h:bQ a b=true):(0<=b/\b<=1000000000)/\(-1000000000<=a/\a<=1000000000):=by
 have:=jZ h;omega
def ju(a b)(h:bQ a b=true):(aH a b).size<=50:=nK a b (ud h)
def xO(a b:Int)(h1:(0<=b/\b<=1000000000)/\(-1000000000<=a/\a<=1000000000))(w):
 Rv 168 #[.agg #[a,b]] w (.string (aH a b)):=by
 have z1:=dX a o_;have z2:=dX b o_;have hF:aH a b=if b=1 then aC a else aC a++⟨#[47]⟩++aC b:=rfl
 have ha:=λw1=>yS a o_ w1;have hb:∀w1:World,Rv 93 #[b] w1 (.string (aC b)):=λw1=>by
  obtain⟨u,rfl⟩:=Wr (show 0<=b by omega);rw[yi];exact uv u u (Vj _) o_ w1
 rw[hF];generalize aC a=g,aC b=F at *;have HA:=h_ ha;have HB:=h_ hb;have e1:(⟨#[47]⟩:ak).size=1:=rfl;have f1:(g++⟨#[47]⟩:ak).size=g.size+1:=by rw[Vu];rfl
 have HX:=λw=>Vr (P:=prog) w g ⟨#[47]⟩ o_;have HY:=λw=>Vr (P:=prog) w (g++⟨#[47]⟩) F o_;have⟨kF,hB⟩:=ay w #[a,b] 96;by_cases hq:b=1
 .subst hq;rw[Vo rfl];go_enter func168,ntmps168;go_wp2_with fail
  generalize w.alloc _=W at *;have⟨_,_⟩:=kF.q2;go_wp2_with fail
  exact aj (HA.out _) λw1 I=>vA
 .rw[Vm hq];have G:(b==1)=false:=by simpa using hq
  go_enter func168,ntmps168;go_wp2_with fail
  generalize w.alloc _=W at *;have⟨Z,aL,a2⟩:=kF.p2;go_wp2
  (refine bR k_ k_ ?_;(repeat (go_big_quiet_step ((first|(go_at_call 57;exact Calls.quiet_cls ao _ (HA.out _))|(go_at_call 93;exact Calls.quiet_cls ao _ (HB.out _))))));refine wpQuiet_nil ?_;intro w1 I;have⟨aZ,a6⟩:=bu I;(try simp at ac))
  exact vA
def ph(a b)(h:bQ a b=true)(w):
 Rv 168 #[.agg #[a,b]] w (.string (aH a b)):=xO a b (ud h) w
def wV(a b:Int)(h1:(0<=b/\b<=1000000000)/\(-1000000000<=a/\a<=1000000000))(w)(ht:TabI w):
 Rv 150 #[.agg #[a,b]] w (.string (aH a b)):=by
 have z1:=dX a o_;have z2:=dX b o_;have hF:aH a b=if b=1 then aC a else aC a++⟨#[47]⟩++aC b:=rfl
 have ha:∀w1:World,TabI w1->Rv 136 #[a] w1 (.string (aC a)):=λw1 ht=>pL a o_ o_ w1 ht;have hb:∀w1:World,TabI w1->Rv 136 #[b] w1 (.string (aC b)):=λw1 ht=>pL b o_ o_ w1 ht;rw[hF];generalize aC a=g,aC b=F at *;have HA:=h_ ha;have HB:=h_ hb;have e1:(⟨#[47]⟩:ak).size=1:=rfl;have f1:(g++⟨#[47]⟩:ak).size=g.size+1:=by rw[Vu];rfl
 have HX:=λw=>Vr (P:=prog) w g ⟨#[47]⟩ o_;have HY:=λw=>Vr (P:=prog) w (g++⟨#[47]⟩) F o_;have⟨kF,hB⟩:=ay w #[a,b] 96;have HW:=h_ (ht.below hB);by_cases hq:b=1
 .subst hq;rw[Vo rfl];go_enter func150,ntmps150;go_wp2_with fail
  generalize w.alloc _=W at *;have⟨_,_⟩:=kF.q2;go_wp2_with fail
  exact aj (HA.out _ (HW.out)) λw1 I=>vA
 .rw[Vm hq];have G:(b==1)=false:=by simpa using hq
  go_enter func150,ntmps150;go_wp2_with fail
  generalize w.alloc _=W at *;have⟨Z,aL,a2⟩:=kF.p2;go_wp2
  (refine bR k_ k_ ?_;(repeat (go_big_quiet_step ((first|(go_at_call 136;exact Calls.quiet_cls ao _ (HA.out _ (HW.out.below (aU.over _).below)))|(go_at_call 136;exact Calls.quiet_cls ao _ (HB.out _ (HW.out.below (aU.over _).below)))))));refine wpQuiet_nil ?_;intro w1 I;have⟨aZ,a6⟩:=bu I;(try simp at ac))
  exact vA
def qw(a b)(h:bQ a b=true)(w)(ht:TabI w):
 Rv 150 #[.agg #[a,b]] w (.string (aH a b)):=wV a b (ud h) w ht
def ww(h:P:=by have e:(⟨#[44]⟩:ak).size=1:=rfl;omega):=h
def CK{P}{W F:World}{n:String}{cs}(h:W.var? P n=some cs)(hb:af W W F):F.var? P n=some cs:=by
 unfold World.var? at h ⊢;cases hg:P.globalNamed n with
 |none=>simp [hg] at h
 |some g=>
  simp only[hg,Yu] at h ⊢;have aG:g<W.heap.size:=by
   rcases Wv g W with J|J
   .exact J
   .simp [Yr J] at h
  rw[hb.block g aG];exact h
def PEnv(w:World):Prop:=TabI w/\(∃m,w.cell? ⟨0,0,none⟩=some (.int .i64 m))/\(∃tp p,w.var? prog "strconv.ErrSyntax"=some #[.iface tp p])/\(∃tp p,w.var? prog "strconv.ErrRange"=some #[.iface tp p])
def PEnv.below{w w'}(h:PEnv w)(hb:af w w w'):PEnv w':=by
 have⟨h1,⟨m,h2⟩,⟨t3,p3,h3⟩,⟨t4,p4,h4⟩⟩:=h;exact⟨h1.below hb,⟨m,(hb.cell (World.block_lt_of_cell? _ _ h2)).trans h2⟩,⟨t3,p3,CK h3 hb⟩,⟨t4,p4,CK h4 hb⟩⟩
def uc(t:ak)(ht:t.size<=1048576)(v)(h:Lib.atoiAll t.data.toList=.ok v)(w):
 Rv 135 #[t] w (.tuple #[v,.nilIface]):=
 (Tryz.strconv_Atoi_ok t o_ v h w).mono λ_ _ ⟨h1,h2⟩=>⟨h1,by
   rcases h2 with rfl|⟨u,rfl⟩
   .exact Vn _ _
   .exact Lib.bytesWorld_below _ _ _⟩
def tI(t:ak)(ht:t.size<=1048576)(h:∀v,Lib.atoiAll t.data.toList≠.ok v)(w)(hE:PEnv w):
 Kp 135 #[t] w λe w'=>∃x tp q,e=.returned (.tuple #[.int .i64 x,.iface tp q])/\af w w w':=by
 have⟨_,_,⟨t3,p3,h3⟩,⟨t4,p4,h4⟩⟩:=hE;rcases hz:Lib.atoiAll t.data.toList with v|_|_
 .exact absurd hz (h v)
 .exact (Tryz.strconv_Atoi_syntax_var t o_ ⟨h,by rw[hz];exactλh9=>by cases h9⟩ t3 p3 w h3).mono λ_ _ ⟨N,h1,_,_,h2⟩=>⟨_,_,_,h1,h2⟩
 .exact (Tryz.strconv_Atoi_range_var t o_ hz t4 p4 w h4).mono λ_ _ ⟨N,h1,_,_,h2⟩=>⟨_,_,_,h1,h2⟩
def Fk(p:ak)(c:UInt8)(G:p.size<=1048576)(w)(hE:PEnv w):
 Rv 146 #[p,.string ⟨#[c]⟩] w (.tuple #[.string ⟨(Lib.cut p.data.toList [c]).1.toArray⟩,.string ⟨(Lib.cut p.data.toList [c]).2.1.toArray⟩,.bool (Lib.cut p.data.toList [c]).2.2]):=by
 have⟨_,⟨m,hm⟩,_,_⟩:=hE;exact (Tryz.strings_Cut p ⟨#[c]⟩ m w o_ hm).mono λ_ _ ⟨h1,k,h2⟩=>⟨h1,h2▸lr (Vn _ _) k⟩
def yj(p:ak)(c:UInt8)(G:p.size<=1048576)(w):
 Rw 54 #[p,.string ⟨#[c]⟩] w (.string ⟨(Lib.trimSuffix p.data.toList [c]).toArray⟩):=
 (Tryz.strings_TrimSuffix p ⟨#[c]⟩ w o_).mono λ_ _ ⟨h1,h2⟩=>⟨h1,h2.symm⟩
def Rp(p:ak)(c:UInt8)(w):
 Rw 147 #[p,.string ⟨#[c]⟩] w (.string ⟨(Lib.trimPrefix p.data.toList [c]).toArray⟩):=
 (Tryz.strings_TrimPrefix p ⟨#[c]⟩ w).mono λ_ _ ⟨h1,h2⟩=>⟨h1,h2.symm⟩
def pn(n:Int)(h0:-9223372036854775808<=n)(h1:n<=9223372036854775807)(w)(hE:PEnv w):
 Rv 136 #[n] w (.string (aC n)):=pL n h0 h1 w hE.1
def uo(l):(∃v,Lib.atoiAll l=.ok v)\/∀v,Lib.atoiAll l≠.ok v:=by
 by_cases h:∃v,Lib.atoiAll l=.ok v
 .exact .inl h
 .exact .inr λv hv=>h ⟨v,hv⟩
def FA(l)(c:UInt8):(Lib.cut l [c]).1.length<=l.length/\(Lib.cut l [c]).2.1.length<=l.length:=by
 unfold Lib.cut;split
 .simp;omega
 .simp
end Go.Proofs.YtaamhakdhaolmaaGreatDoor
