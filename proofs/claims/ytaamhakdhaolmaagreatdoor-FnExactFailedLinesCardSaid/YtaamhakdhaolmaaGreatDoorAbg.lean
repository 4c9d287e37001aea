/- Part 32. -/
import Derived.Test.YtaamhakdhaolmaaGreatDoorAar
import Derived.Test.YtaamhakdhaolmaaGreatDoorAav
import Derived.Test.YtaamhakdhaolmaaGreatDoorAax
import Derived.Test.YtaamhakdhaolmaaGreatDoorAbc
import Derived.Test.YtaamhakdhaolmaaGreatDoorAbf
namespace Go.Proofs.YtaamhakdhaolmaaGreatDoor
open Go.RowKit
set_option maxHeartbeats 8000000
set_option maxRecDepth 100000
variable {P:Prop}
set_option linter.all false
structure CS where
 A:Int
 B:Int
 X:Int
 Y:Int
 E:Int
 L:aK
def CS.ok(s:CS):Prop:=be s.A s.B=true/\bW s.A s.B (s.X,s.Y,s.E)/\eA s.L
def np:aj:=⟨#[110,111]⟩
def eW:aj:=⟨#[111,107]⟩
def cC:aj:=⟨#[119,104,97,116]⟩
abbrev fd:=aj×CS
def cY(s:CS):Option P3->fd
 |some p=>(eW,⟨s.A,s.B,p.1,p.2.1,p.2.2,s.L⟩)
 |none=>(np,s)
def iJ(s:CS)(b:Bool)(A B:Int):fd:=if b then (eW,⟨A,B,0,0,0,s.L⟩) else (np,s)
def eY(s:CS):Option (aK)->fd
 |some L=>(eW,⟨s.A,s.B,s.X,s.Y,s.E,L⟩)
 |none=>(np,s)
def cf(s:CS)(t:aj)(b:Bool):fd:=if b then (t,s) else (np,s)
def iF:aj:=⟨#[109,105,110,117,115]⟩
def iC:aj:=⟨#[100,111,117,98,108,101]⟩
def iK:aj:=⟨#[115,104,111,119]⟩
def iE:aj:=⟨#[111,114,100,101,114]⟩
def iy:aj:=⟨#[116,111,114,115,105,111,110]⟩
def iG:aj:=⟨#[100,114,111,112]⟩
def iI:aj:=⟨#[114,97,110,107]⟩
def iu:aj:=⟨#[101,110,116,114,105,101,115]⟩
def ic:aj:=⟨#[116,105,109,101,115]⟩
def g_:aj:=⟨#[115,99,97,108,101]⟩
def ia:aj:=⟨#[99,111,117,110,116]⟩
def ib:aj:=⟨#[116,114,97,99,101]⟩
def ig:aj:=⟨#[107,105,110,100]⟩
def gZ:aj:=⟨#[104,101,105,103,104,116]⟩
def ie:aj:=⟨#[99,117,114,118,101]⟩
def gV:aj:=⟨#[99,111,110,103,114,117,101,110,116]⟩
def gX:aj:=⟨#[114,101,99,111,114,100]⟩
def wPoint:aj:=⟨#[112,111,105,110,116]⟩
def wAt:aj:=⟨#[97,116]⟩
def km:Option E5->aj
 |none=>⟨#[110,111,110,101]⟩
 |some e=>aC e.2.1++⟨#[46,46]⟩++aC e.2.2.1
noncomputable def fo(A B:Int):Int:=((dC A B).length:Int) / (dh A B (dC A B) 1)
noncomputable def fK(A B:Int):Int:=dh A B (dC A B) 1
noncomputable def mv(A B:Int):aj:=aC (fo A B)++⟨#[44]⟩++aC (fK A B)
noncomputable def vH(A B p:Int):aj:=im (dH A B p) B p++⟨#[44]⟩++ej (dB (dH A B p) B p)
def wi(o:Option (Int×Int)):aj:=match o with|some p=>gP (dr p.1) (cK p.1) (dr p.2) (cK p.2)|none=>⟨#[]⟩
noncomputable def jW(n m:Int):aj:=(qZ n m).choose
noncomputable def kK(n m:Int):Bool:=(qZ n m).choose_spec.choose
noncomputable def jh(w:aj)(s:CS):fd:=
 if w=iF then cY s (some (s.X,-s.Y,s.E))
 else if w=iC then cY s (dZ s.A s.B (s.X,s.Y,s.E) (s.X,s.Y,s.E))
 else if w=iK then (gT s.X s.Y s.E,s)
 else if w=iE then cf s (aC ((b_ s.A s.B (s.X,s.Y,s.E)).getD 0)) (b_ s.A s.B (s.X,s.Y,s.E)).isSome
 else if w=iy then (mv s.A s.B,s)
 else if w=iG then eY s (iH s.L (s.A,s.B))
 else if w=iI then (km (fA s.L (s.A,s.B)),s)
 else if w=iu then (aC s.L.length,s)
 else (cC,s)
noncomputable def iz(w:aj)(n:Int)(s:CS):fd:=
 if w=ic then cY s (if av n (-12) 12 then gy s.A s.B (s.X,s.Y,s.E) n else none)
 else if w=g_ then iJ s (av n 1 5&&be (s.A*n*n*n*n) (s.B*n*n*n*n*n*n)) (s.A*n*n*n*n) (s.B*n*n*n*n*n*n)
 else if w=ia then cf s (aC (gk s.A s.B n)) (eX s.A s.B n)
 else if w=ib then cf s (aC (jx s.A s.B n)) (eX s.A s.B n)
 else if w=ig then cf s (vH s.A s.B n) (fj n)
 else if w=gZ then cf s (wi (iq s.A s.B s.X s.E n)) (iq s.A s.B s.X s.E n).isSome
 else (cC,s)
noncomputable def iA(w:aj)(a b:Int)(s:CS):fd:=
 if w=ie then iJ s (be a b) a b
 else if w=gV then cf s (jW a b) (kK a b)
 else if w=gX then eY s (js s.L ((s.A,s.B),a,b,0))
 else (cC,s)
noncomputable def ir(t:aj)(s:CS):fd:=match bu t.data.toList with
 |none=>(cC,s)
 |some x=>cY s (jt s.A s.B x.1 x.2).head?
noncomputable def eF(ws:bV)(s:CS):fd:=match ws with
 |[w]=>jh w s
 |[w,t]=>if w=wPoint then cY s (dM s.A s.B t.data.toList) else if w=wAt then ir t s else match jn t.data.toList with|some n=>iz w n s|none=>(cC,s)
 |[w,t,u]=>match jn t.data.toList,jn u.data.toList with|some a,some b=>iA w a b s|_,_=>(cC,s)
 |_=>(cC,s)
def vp(h:P:=by
 go_wp2;go_ret;exact⟨rfl,hO,k9⟩):=h
def H5(h:P:=by
 go_upto_region 1 with fail
 generalize w.alloc _=W at *;go_wp2_with fail
 refine (HD.out W).mono ?_;rintro e w2 ⟨rfl,rfl⟩;go_wp2;go_ret;exact⟨rfl,.of_below J,ab⟩):=h
def Fc(h:P:=by
 go_wp2_with fail
 refine HI.out.mono ?_;rintro e w1 ⟨rfl,I⟩;go_wp2_with fail
 refine (HT.out w1).mono ?_;rintro e w2 ⟨rfl,rfl⟩;exact vv):=h
def Fh(h:P:=by
 go_enter Tryz.func79,Tryz.ntmps79;go_wp2_with fail
 refine (HD.out _).mono ?_;rintro e w2 ⟨rfl,rfl⟩;go_wp2;go_ret;exact⟨rfl,.refl _ _,hk⟩):=h
def JA(h:P:=by
 go_upto_region 1 with fail
 generalize w.alloc _=W at *;go_wp2;go_ret;exact⟨rfl,.of_below J,ab⟩):=h
def zo(h:P:=by
 go_wp2_with fail
 refine (HD.out _).mono ?_;rintro e w2 ⟨rfl,rfl⟩;exact vp):=h
def Hp(h:P:=by
 go_enter Tryz.func144,Tryz.ntmps144;go_wp2;go_ret;exact⟨rfl,.refl _ _,hk⟩):=h
def cD(S:aj)(b:Bool):aj:=if b then S else np
def uc(S:aj)(b:Bool)(w):Rw 158 #[S,b] w (.string (cD S b)):=by
 cases b
 all_goals
  go_enter Tryz.func158,Tryz.ntmps158;exact nh
def tH(S:aj)(b:Bool)(w):Rw 128 #[S,b] w (.string (cD S b)):=by
 cases b
 all_goals
  go_enter Tryz.func128,Tryz.ntmps128;exact nh
def tD(b:Bool)(w):Rw 103 #[b] w (.string (cD eW b)):=by
 cases b
 all_goals
  go_enter Tryz.func103,Tryz.ntmps103;exact nh
def wx(n:Int)(b:Bool)(hn:-1000000000000<=n/\n<=1000000000000)(w)(ht:TabI w):
 Rv 140 #[n,b] w (.string (cD (aC n) b)):=by
 have HI:=h_ (pt n o_ o_ w ht);have HT:=h_ (uc (aC n) b);have hI:(⟨(Lib.itoa n).toArray⟩:aj)=aC n:=rfl;rw[hI] at HI;generalize aC n=S at *;generalize cD S b=R at *;go_enter Tryz.func140,Tryz.ntmps140;exact Fc
def xg(n:Int)(b:Bool)(hn:-1000000000000<=n/\n<=1000000000000)(w):
 Rv 122 #[n,b] w (.string (cD (aC n) b)):=by
 have HI:=h_ (Eg n hn w);have HT:=h_ (tH (aC n) b);generalize aC n=S at *;generalize cD S b=R at *;go_enter Tryz.func122,Tryz.ntmps122;exact Fc
def bB(r:Nat)(A B X Y E:Int)(vl vr:Value)(w:World):Prop:=ag r #[A,B,X,Y,E,vl,vr] 65 w
def ct(r:Nat)(A B X Y E:Int)(vl v0 v1 v2:Value)(w:World):Prop:=ag r #[A,B,X,Y,E,vl,v0,v1,v2] 61 w
def fG(r:Nat)(T:aj)(P:au)(w:World)(e:Ending)(w':World):Prop:=e=.returned T/\ah [r] w w'/\P w'
def mH(r)(A B X Y E x y z:Int)(vl vr)(b:Bool)(w)(hk:bB r A B X Y E vl vr w):
 Kp 88 #[.pointer r,.agg #[x,y,z],b] w (fG r (cD eW b) (if b then bB r A B x y z vl vr else bB r A B X Y E vl vr) w):=by
 have⟨kP,J⟩:=aw w #[x,y,z] 46;have ab:=hk.next J
 cases b
 .go_enter Tryz.func88,Tryz.ntmps88;exact JA
 .go_enter Tryz.func88,Tryz.ntmps88;go_upto_region 1 with fail
  generalize w.alloc _=W at *;have⟨bY,bZ,bX⟩:=kP.q3;have⟨_,_,s2,s3,s4,_⟩:=ab.q6;have z2:=ab.frozen 2;have z3:=ab.frozen 3;have z4:=ab.frozen 4;have k9:=((ab.set 2 x).set 3 y).set 4 z;have hO:=(((ah.of_below (ex:=[r]) J).setCell (p:=⟨r,2,none⟩) (.inr s_) x).setCell (p:=⟨r,3,none⟩) (.inr s_) y).setCell (p:=⟨r,4,none⟩) (.inr s_) z;exact vp
def Bi(r)(A B X Y E x y:Int)(vl vr)(b:Bool)(w)(hk:bB r A B X Y E vl vr w):
 Kp 153 #[.pointer r,.agg #[x,y],b] w (fG r (cD eW b) (if b then bB r x y 0 0 0 vl vr else bB r A B X Y E vl vr) w):=by
 have⟨kP,J⟩:=aw w #[x,y] 42;have ab:=hk.next J
 cases b
 .go_enter Tryz.func153,Tryz.ntmps153;exact JA
 .go_enter Tryz.func153,Tryz.ntmps153;go_upto_region 1 with fail
  generalize w.alloc _=W at *;have⟨bY,bZ⟩:=kP.q2;have⟨s0,s1,s2,s3,s4,s5⟩:=ab.q6;have z0:=ab.frozen 0;have z1:=ab.frozen 1;have z2:=ab.frozen 2;have z3:=ab.frozen 3;have z4:=ab.frozen 4;have z5:=ab.frozen 5;have k9:=((((ab.set 0 x).set 1 y).set 2 ()).set 3 ()).set 4 ();have hO:=(((((ah.of_below (ex:=[r]) J).setCell (p:=r) (.inr s_) x).setCell (p:=⟨r,1,none⟩) (.inr s_) y).setCell (p:=⟨r,2,none⟩) (.inr s_) ()).setCell (p:=⟨r,3,none⟩) (.inr s_) ()).setCell (p:=⟨r,4,none⟩) (.inr s_) ();go_upto_region 4 with fail
  generalize World.setCell _ _ _=W9 at hO k9 ⊢;exact vp
def AQ(r)(A B X Y E)(vl vr)(a)(n c)(b:Bool)(w)(hk:bB r A B X Y E vl vr w):
 Kp 144 #[.pointer r,.slice a n c,b] w (fG r (cD eW b) (if b then bB r A B X Y E (.slice a n c) vr else bB r A B X Y E vl vr) w):=by
 cases b
 .exact Hp
 .
   have⟨_,_,_,_,_,s5⟩:=hk.q6;have z5:=hk.frozen 5;have k9:=hk.set 5 (.slice a n c);have hO:=((ah.refl [r] w).setCell (p:=⟨r,5,none⟩) (.inr s_) (.slice a n c))
   go_enter Tryz.func144,Tryz.ntmps144;exact vp
def mM(r)(A B X Y E x y z:Int)(vl v0 v1 v2)(b:Bool)(w)(hk:ct r A B X Y E vl v0 v1 v2 w):
 Kp 73 #[.pointer r,.agg #[x,y,z],b] w (fG r (cD eW b) (if b then ct r A B x y z vl v0 v1 v2 else ct r A B X Y E vl v0 v1 v2) w):=by
 have⟨kP,J⟩:=aw w #[x,y,z] 46;have ab:=hk.next J
 have HD:=h_ (tD b);cases b
 .go_enter Tryz.func73,Tryz.ntmps73;exact H5
 .go_enter Tryz.func73,Tryz.ntmps73;go_upto_region 1 with fail
  generalize w.alloc _=W at *;have⟨bY,bZ,bX⟩:=kP.q3;have⟨_,_,s2,s3,s4,_⟩:=ab.q6;have z2:=ab.frozen 2;have z3:=ab.frozen 3;have z4:=ab.frozen 4;have k9:=((ab.set 2 x).set 3 y).set 4 z;have hO:=(((ah.of_below (ex:=[r]) J).setCell (p:=⟨r,2,none⟩) (.inr s_) x).setCell (p:=⟨r,3,none⟩) (.inr s_) y).setCell (p:=⟨r,4,none⟩) (.inr s_) z;exact zo
def Dq(r)(A B X Y E x y:Int)(vl v0 v1 v2)(b:Bool)(w)(hk:ct r A B X Y E vl v0 v1 v2 w):
 Kp 70 #[.pointer r,.agg #[x,y],b] w (fG r (cD eW b) (if b then ct r x y 0 0 0 vl v0 v1 v2 else ct r A B X Y E vl v0 v1 v2) w):=by
 have⟨kP,J⟩:=aw w #[x,y] 42;have ab:=hk.next J
 have HD:=h_ (tD b);cases b
 .go_enter Tryz.func70,Tryz.ntmps70;exact H5
 .go_enter Tryz.func70,Tryz.ntmps70;go_upto_region 1 with fail
  generalize w.alloc _=W at *;have⟨bY,bZ⟩:=kP.q2;have⟨s0,s1,s2,s3,s4,s5⟩:=ab.q6;have z0:=ab.frozen 0;have z1:=ab.frozen 1;have z2:=ab.frozen 2;have z3:=ab.frozen 3;have z4:=ab.frozen 4;have z5:=ab.frozen 5;have k9:=((((ab.set 0 x).set 1 y).set 2 ()).set 3 ()).set 4 ();have hO:=(((((ah.of_below (ex:=[r]) J).setCell (p:=r) (.inr s_) x).setCell (p:=⟨r,1,none⟩) (.inr s_) y).setCell (p:=⟨r,2,none⟩) (.inr s_) ()).setCell (p:=⟨r,3,none⟩) (.inr s_) ()).setCell (p:=⟨r,4,none⟩) (.inr s_) ();go_upto_region 4 with fail
  generalize World.setCell _ _ _=W9 at hO k9 ⊢;exact zo
def C0(r)(A B X Y E)(vl v0 v1 v2)(a)(n c)(b:Bool)(w)(hk:ct r A B X Y E vl v0 v1 v2 w):
 Kp 79 #[.pointer r,.slice a n c,b] w (fG r (cD eW b) (if b then ct r A B X Y E (.slice a n c) v0 v1 v2 else ct r A B X Y E vl v0 v1 v2) w):=by
 have HD:=h_ (tD b);cases b
 .exact Fh
 .
   have⟨_,_,_,_,_,s5⟩:=hk.q6;have z5:=hk.frozen 5;have k9:=hk.set 5 (.slice a n c);have hO:=((ah.refl [r] w).setCell (p:=⟨r,5,none⟩) (.inr s_) (.slice a n c))
   go_enter Tryz.func79,Tryz.ntmps79;exact zo
def Iu(h:P:=by
 simp only[UD] at h;subst h;rw[ByteArray.size_extract];omega):=h
def snoc_ind{α:Type}{P:List α->Prop}(h0:P [])(h1:∀l a,P l->P (l++[a])):∀l,P l:=by
 intro l;rw[<-l.reverse_reverse]
 induction l.reverse with
 |nil=>exact h0
 |cons a t g=>rw[List.reverse_cons];exact h1 _ _ g
def Lv{b x:UInt8}{l}(h:x≠b):Lib.index (x::l) [b]=if Lib.index l [b]==-1 then -1 else Lib.index l [b]+1:=by
 rw[Lib.index,Uj];simp [List.isPrefixOf];exactλe=>h e.symm
def AL{b:UInt8}{l}:Lib.index (b::l) [b]=0:=by
 rw[Lib.index,Um];simp [List.isPrefixOf]
theorem wO(b:UInt8):∀l:List UInt8,Lib.splitK [b] 0 (Lib.count l [b]) l=cU b l/\(Lib.index l [b]=-1->cU b l=[l])
 |[]=>⟨rfl,λ_=>rfl⟩
 |x::l=>by
  have g:=wO b l;by_cases hx:x=b
  .subst hx;have hc:=Lib.count_hit (s:=x::l) (sub:=[x]) (i:=0) s_ AL;rw[hc,ki,Um rfl];refine⟨?_,λh=>?_⟩
   .rw[Wg,Lib.splitK,AL];simpa using g.1
   .rw[AL] at h;simp at h
  .rw[ki,Uj hx];rcases Lib.index_spec l [b] with ⟨h,_⟩|⟨i,h,_⟩
   .have h2:Lib.index (x::l) [b]=-1:=by rw[Lv hx,h];rfl
    rw[Lib.count_miss h2,g.2 h];exact⟨rfl,λ_=>rfl⟩
   .have h2:Lib.index (x::l) [b]=((i+1:Nat):Int):=by
     rw[Lv hx,h,Uj]
     .simp
     .simp
    refine⟨?_,λh9=>by rw[h2] at h9;omega⟩;rw[(Lib.count_hit (s:=x::l) (sub:=[b]) (i:=i+1) s_ h2),<-g.1,(Lib.count_hit (s:=l) (sub:=[b]) (i:=i) s_ h),Wg 1,Wg 1];simp only[Lib.splitK,h,h2,Uw,Vc,UI];have e1:¬(((i+1:Nat):Int)==-1)=true:=u_;have e2:¬((i:Int)==-1)=true:=s_;rw[Uj e1,Uj e2];simp [jm]
theorem B_(b:UInt8):∀l:List UInt8,cU b (l++[b])=cU b l++[[]]
 |[]=>by simp [cU]
 |x::l=>by
  rw[V3,ki,ki,B_ b l];split
  .rfl
  .have:=tZ b l;cases h:cU b l with
   |nil=>exact absurd h this
   |cons p g=>rfl
def yR{a b:aj}(h:a.data.toList=b.data.toList):a=b:=by
 cases a;cases b;congr 1;exact Array.toList_inj.1 h
theorem xX:∀{L M:bV},L.map (·.data.toList)=M.map (·.data.toList)->L=M
 |[],[],_=>rfl
 |[],_::_,h=>by simp at h
 |_::_,[],h=>by simp at h
 |a::L,b::M,h=>by
  simp only[VF,List.cons.injEq] at h;rw[yR h.1,xX h.2]
def Oj(s)(c:UInt8):Lib.splitB ⟨#[c]⟩ 0 (Lib.countB s ⟨#[c]⟩) s=bL s c:=by
 apply xX;rw[oU,Lib.splitB_data];exact (wO c s.data.toList).1
theorem sS(b:UInt8):∀l:List UInt8,(cU b l).length=l.count b+1
 |[]=>rfl
 |x::l=>by
  rw[ki,Yh];split
  .rename_i h;subst h;simp [sS]
  .rename_i h;have h2:(x==b)=false:=by simpa using h
   rw[h2];have:=sS b l;cases hc:cU b l with
   |nil=>rw[hc] at this;simp at this
   |cons p g=>rw[hc] at this;simpa[jm] using this
def wQ(s)(b:UInt8):(bL s b).length=s.data.toList.count b+1:=by
 rw[<-sS,<-oU,Wm]
def NV(s)(c:UInt8):Lib.countB s ⟨#[c]⟩+1=(bL s c).length:=by
 rw[wQ];have h:∀l:List UInt8,Lib.count l [c]=l.count c:=by
  intro l;have h2:∀(k:Nat) (l:List UInt8),k<=Lib.count l [c]->(Lib.splitK [c] 0 k l).length=k+1:=by
   intro k
   induction k with
   |zero=>intro l _;rfl
   |succ k g=>
    intro l hk;rcases Lib.index_spec l [c] with ⟨h,_⟩|⟨i,h,_⟩
    .rw[Lib.count_miss h] at hk;omega
    .have hc:=Lib.count_hit (s:=l) (sub:=[c]) (i:=i) s_ h;have e2:¬((i:Int)==-1)=true:=s_;simp only[Lib.splitK,h,Uj e2,Uw];rw[g];simp only[XT];simp at hc ⊢;omega
  have h3:=h2 (Lib.count l [c]) l (Ug _);rw[((wO c l).1),sS] at h3;omega
 have:=h s.data.toList;show Lib.count _ _+1=_;simpa using this
theorem BI(s)(b:UInt8):∀k,k<=s.size->∀x∈(dE s b k).1,x.size<=s.size
 |0,_,x,h=>by simp [dE] at h
 |k+1,hk,x,h=>by
  have g:=BI s b k o_;rw[dE] at h;split at h
  .rcases Vx.1 h with h|h
   .exact g x h
   .exact Iu
  .exact g x h
def xi(s)(b:UInt8):∀x∈bL s b,x.size<=s.size:=by
 intro x h;unfold bL at h;rcases Vx.1 h with h|h
 .exact BI s b s.size (Ug _) x h
 .exact Iu
def dW(s:aj):bV:=(bL s 10).dropLast
def yg(s):(dW s).length=s.data.toList.count 10:=by
 unfold dW;rw[List.length_dropLast,wQ];omega
def CV(s):∀x∈dW s,x.size<=s.size:=λx h=>xi s 10 x ((List.dropLast_sublist _).subset h)
def RU:dW ⟨#[]⟩=[]:=rfl
def Qs(s)(h:Lib.hasSuffix s.data.toList [10]=true):bL ⟨(Lib.trimSuffix s.data.toList [10]).toArray⟩ 10=dW s:=by
 unfold Lib.trimSuffix;rw[Um h];unfold Lib.hasSuffix at h;have⟨t,ht⟩:=Wa.1 h;have h2:s.data.toList.take (s.data.toList.length - [(10:UInt8)].length)=t:=by rw[<-ht];simp
 rw[h2];apply xX;unfold dW;rw[oU,List.map_dropLast,oU,<-ht,B_];simp
noncomputable def cJ(K:bV)(s:CS):bV×CS:=K.foldl (λq l=>(q.1++[(eF (bL l 32) q.2).1],(eF (bL l 32) q.2).2)) ([],s)
def Q1(s:CS):cJ [] s=([],s):=rfl
def tt(K)(l)(s:CS):cJ (K++[l]) s=((cJ K s).1++[(eF (bL l 32) (cJ K s).2).1],(eF (bL l 32) (cJ K s).2).2):=by
 unfold cJ;rw[Ww];rfl
def Cn(K:bV)(k)(h:k<K.length)(s:CS):cJ (K.take (k+1)) s=((cJ (K.take k) s).1++[(eF (bL K[k] 32) (cJ (K.take k) s).2).1],(eF (bL K[k] 32) (cJ (K.take k) s).2).2):=by
 rw[UL h,tt]
def qI(s:CS):∀K:bV,(cJ K s).1.length=K.length:=by
 intro K
 induction K using snoc_ind with
 |h0=>rfl
 |h1 K l g=>rw[tt];simp [g]
def gm(rs:bV):aj:=rs.foldl (λo r=>o++(r++⟨#[10]⟩)) ⟨#[]⟩
def xm(rs)(r):gm (rs++[r])=gm rs++(r++⟨#[10]⟩):=by
 unfold gm;rw[Ww];rfl
def CC(B):∀rs:bV,(∀r∈rs,r.size<=B)->(gm rs).size<=rs.length*(B+1):=by
 intro rs
 induction rs using snoc_ind with
 |h0=>intro _;exact UB _
 |h1 rs r g=>
  intro h;have h1:=g λx hx=>h x (by simp [hx]);have h2:=h r s_;have e1:(⟨#[10]⟩:aj).size=1:=rfl;rw[xm,UE,WM];simp;omega
def bK(p:aj->Bool)(rs:bV):List Int:=(rs.zipIdx.filter λx=>p x.1).map λx=>(x.2:Int)+1
def ma(p:aj->Bool)(rs)(r):bK p (rs++[r])=if p r then bK p rs++[(rs.length:Int)+1] else bK p rs:=by
 unfold bK;rw[List.zipIdx_append,List.filter_append,VN];cases h:p r
 .simp [h]
 .simp [h]
def tV(p:aj->Bool)(rs)(n):n∈bK p rs↔∃i,∃h:i<rs.length,p rs[i]=true/\n=(i)+1:=by
 unfold bK;simp only[WY,Yd];constructor
 .rintro⟨⟨x,i⟩,⟨h1,h2⟩,rfl⟩;have h3:=List.mem_zipIdx h1;simp only[U7,Nat.sub_zero] at h3;exact⟨i,by omega,by rw[<-h3.2.2];exact h2,rfl⟩
 .rintro⟨i,hi,h1,rfl⟩;exact⟨(rs[i],i),⟨by rw[List.mk_mem_zipIdx_iff_getElem?];exact Us hi,h1⟩,rfl⟩
def ll(p:aj->Bool)(rs):(bK p rs).length<=rs.length:=by
 unfold bK;rw[Wm];exact Ui (Xv _ _) s_
def S6(p:aj->Bool)(rs){n}(h:n∈bK p rs):1<=n/\n<=rs.length:=by
 obtain⟨i,hi,_,rfl⟩:=(tV p rs n).1 h;omega
def OI(p:aj->Bool)(rs):(bK p rs).Pairwise (·<·):=by
 induction rs using snoc_ind with
 |h0=>simp [bK]
 |h1 rs r g=>
  rw[ma];split
  .rw[List.pairwise_append];refine⟨g,by simp,λa ha b hb=>?_⟩;have:=S6 p rs ha;simp at hb;omega
  .exact g
def F2(h:P:=by
 try simp only[Value.cells]
 refine aD hne [ac,ac,ac,ac,ac,ac,ac,ac,ac,ac,ac,ac,ac,ac,ac,ac,ac,ac,ae] 0 (KD.closed an _) aA ?_;refine jc k_ (λWz a7 aX=>?_) _;exact bp r5 Wz ⟨a7,aX.1,o_,aX.2.head⟩):=h
def EY(h:P:=by
 go_wp2_with fail
 refine (HM.out W3 (hk.below aM)).mono ?_;intro e w9 G;have HP:=h_ (HF.out W3 e w9 aM G);obtain⟨rfl,_,_⟩:=G;go_wp2;go_ret;exact HP.out):=h
def zc(h:P:=by
 exact⟨rfl,kf hb h2,vl,h3,(Z.below hb).past h2⟩):=h
def uR(h:P:=by
 obtain⟨rfl,_,_⟩:=G;go_wp2;go_ret;exact HP.out):=h
def Lc(h:P:=by
 refine aR [17] ?_;refine ak.cons ?_ ?_
 .refine fk (v:=.agg #[(),(),()]) [] [] (.inl b7) an (λ_ _ h _=>h) s_ (λhne=>?_);exact F2
 exact ak.nil):=h
def KW(h:P:=by
 refine aR [17] ?_;refine ak.cons ?_ ?_
 .refine fk (v:=.agg #[x,y,z]) [] [] (.inl b7) an (λ_ _ h _=>h) s_ (λhne=>?_);exact F2
 exact ak.nil):=h
def vw(h:P:=by
 try dsimp only
 rintro rM W3 ⟨bi,_,b4,kM⟩;have aM:=bi.below;obtain⟨a8,bx,cu⟩:=kM.q3;have bX:=kM.lt;clear s0 s1 s2 s3 s4 s5 bi;exact EY):=h
def FM(h:P:=by
 obtain⟨rfl,h2,h3⟩:=h;cases f
 .exact zc
 .obtain⟨rfl,rfl⟩:=hf rfl;exact zc):=h
def Fp(h:P:=by
 cases hv:b_ A B (X,Y,E) with
 |none=>exact⟨0,false,rfl,by omega,rfl⟩
 |some k=>
  have:=ug 12 1 (0,0,0) k hv;exact⟨k,true,rfl,by omega,rfl⟩):=h
def vq(h:P:=by
 obtain⟨rfl,h2,h3⟩:=h;exact zc):=h
def zE(h:P:=by
 exact uR):=h
def dk(r:Nat)(s:CS)(vr:Value)(w:World):Prop:=∃vl,bB r s.A s.B s.X s.Y s.E vl vr w/\am w (r+1) vl s.L
def aY(r:Nat)(vr:Value)(w:World)(o:fd)(e:Ending)(w':World):Prop:=e=.returned o.1/\ah [r] w w'/\dk r o.2 vr w'
def fs(r:Nat)(s:CS)(v0 v1 v2:Value)(w:World):Prop:=∃vl,ct r s.A s.B s.X s.Y s.E vl v0 v1 v2 w/\am w (r+1) vl s.L
def aH(r:Nat)(v0 v1 v2:Value)(w:World)(o:fd)(e:Ending)(w':World):Prop:=e=.returned o.1/\ah [r] w w'/\fs r o.2 v0 v1 v2 w'
def dI(r:Nat)(w:World):Prop:=∀w',ah [r] w w'->PEnv w'
def dI.env{r:Nat}{w:World}(h:dI r w):PEnv w:=h w (.refl _ _)
def dI.over{r:Nat}{w w':World}(h:dI r w)(Z:ah [r] w w'):dI r w':=λ_ h2=>h _ (Z.trans h2)
def dI.below{r:Nat}{w w':World}(h:dI r w)(hb:Below w.heap.size w w'):dI r w':=h.over (.of_below hb)
def kf{ex:List Nat}{w w1 w2:World}(hb:Below w.heap.size w w1)(h:ah ex w1 w2):ah ex w w2:=
 ⟨h.os.trans hb.os,h.tape.trans hb.tape,h.output.trans hb.output,Ui hb.size h.size,λk hk hn=>(h.block k (Un hk hb.size) hn).trans (hb.block k hk)⟩
def dI.of{r:Nat}{w w':World}(h:PEnv w)(hb:Below w.heap.size w w')(hr:w.heap.size<=r):dI r w':=λ_ h2=>h.below (h2.belowGe hb hb.size (by intro k hk;rw[UD] at hk;omega))
def bB.below{r:Nat}{A B X Y E:Int}{vl vr:Value}{w w':World}(h:bB r A B X Y E vl vr w)(hb:Below w.heap.size w w'):bB r A B X Y E vl vr w':=ag.next h hb
def ct.below{r:Nat}{A B X Y E:Int}{vl v0 v1 v2:Value}{w w':World}(h:ct r A B X Y E vl v0 v1 v2 w)(hb:Below w.heap.size w w'):ct r A B X Y E vl v0 v1 v2 w':=ag.next h hb
def am.past{w w':World}{r:Nat}{v:Value}{L:aK}(h:am w (r+1) v L)(Z:ah [r] w w'):am w' (r+1) v L:=
 h.over Z (λk hk hm=>by have:=(h.lt k hk).1;rw[UD] at hm;omega)
def aY.same{r:Nat}{vr vl:Value}{s:CS}{T:aj}{w w':World}(hk:bB r s.A s.B s.X s.Y s.E vl vr w)(Z:am w (r+1) vl s.L)(hb:Below w.heap.size w w'):aY r vr w (T,s) (.returned T) w':=
 ⟨rfl,.of_below hb,vl,hk.below hb,Z.below hb⟩
def aY.move{r:Nat}{A B X Y E:Int}{L:aK}{vr vl:Value}{w w1 w2:World}{e:Ending}{x y z:Int}(Z:am w (r+1) vl L)(hb:Below w.heap.size w w1)(h:fG r (cD eW true) (if true then bB r A B x y z vl vr else bB r A B X Y E vl vr) w1 e w2):aY r vr w (cY ⟨A,B,X,Y,E,L⟩ (some (x,y,z))) e w2:=by
 exact vq
def aY.stay{r:Nat}{A B X Y E:Int}{L:aK}{vr vl:Value}{w w1 w2:World}{e:Ending}{x y z:Int}(Z:am w (r+1) vl L)(hb:Below w.heap.size w w1)(h:fG r (cD eW false) (if false then bB r A B x y z vl vr else bB r A B X Y E vl vr) w1 e w2):aY r vr w (cY ⟨A,B,X,Y,E,L⟩ none) e w2:=by
 exact vq
def aY.told{r:Nat}{vr vl:Value}{s:CS}{t:aj}{b:Bool}{w w':World}(hk:bB r s.A s.B s.X s.Y s.E vl vr w)(Z:am w (r+1) vl s.L)(hb:Below w.heap.size w w'):aY r vr w (cf s t b) (.returned (.string (cD t b))) w':=by
 cases b
 .exact aY.same hk Z hb
 .exact aY.same hk Z hb
def aY.keep{r:Nat}{A B X Y E:Int}{L M:aK}{vr vl v:Value}{w w1 w2:World}{e:Ending}(Z:am w1 w.heap.size v M)(hr:r<w.heap.size)(hb:Below w.heap.size w w1)(h:fG r (cD eW true) (if true then bB r A B X Y E v vr else bB r A B X Y E vl vr) w1 e w2):aY r vr w (eY ⟨A,B,X,Y,E,L⟩ (some M)) e w2:=by
 obtain⟨rfl,h2,h3⟩:=h;exact⟨rfl,kf hb h2,v,h3,(Z.le hr).past h2⟩
def aY.turn{r:Nat}{A B X Y E:Int}{L:aK}{vr vl:Value}{w w1 w2:World}{e:Ending}{x y a b:Int}{f:Bool}(hf:f=true->x=a/\y=b)(Z:am w (r+1) vl L)(hb:Below w.heap.size w w1)(h:fG r (cD eW f) (if f then bB r x y 0 0 0 vl vr else bB r A B X Y E vl vr) w1 e w2):aY r vr w (iJ ⟨A,B,X,Y,E,L⟩ f a b) e w2:=by
 exact FM
def Mz(r:Nat)(A B X Y E:Int)(L:aK)(vl vr:Value)(aa:CS.ok ⟨A,B,X,Y,E,L⟩)(w:World)(hk:bB r A B X Y E vl vr w)(Z:am w (r+1) vl L):
 Kp 86 #[.pointer (some ⟨r,0,none⟩),iF] w (aY r vr w (cY ⟨A,B,X,Y,E,L⟩ (some (X,-Y,E)))):=by
 have b5:=aa.2.1.bd;simp only at b5;have HO:=h_ (sY X Y E o_);have HM:=h_ (λW (k:bB r A B X Y E vl vr W)=>mH r A B X Y E X (-Y) E vl vr true W k);have HF:=h_ (λw1 e w2 (hb:Below w.heap.size w w1) h=>@aY.move r A B X Y E L vr vl w w1 w2 e X (-Y) E Z hb h);generalize cY ⟨A,B,X,Y,E,L⟩ (some (X,-Y,E))=R at *;generalize a2:-Y=NY at *;clear a2;simp only[iF];obtain⟨s0,s1,s2,s3,s4,s5⟩:=hk.q6;have sl:=hk.lt;go_enter Tryz.func86,Tryz.ntmps86;go_wp2_with fail
 refine ai (HO.out w) λw1 aM=>?_;go_wp2_with fail
 refine (HM.out w1 (hk.below aM)).mono ?_;intro e w9 G;have HP:=h_ (HF.out w1 e w9 aM G);exact zE
def Mk(r:Nat)(A B X Y E:Int)(L:aK)(vl vr:Value)(aa:CS.ok ⟨A,B,X,Y,E,L⟩)(w:World)(hk:bB r A B X Y E vl vr w)(Z:am w (r+1) vl L):
 Kp 86 #[.pointer (some ⟨r,0,none⟩),iC] w (aY r vr w (cY ⟨A,B,X,Y,E,L⟩ (dZ A B (X,Y,E) (X,Y,E)))):=by
 obtain⟨hA,hB⟩:=fe aa.1;have HA:=λW=>yF A B X Y E X Y E hA hB aa.2.1 aa.2.1 W;generalize dZ A B (X,Y,E) (X,Y,E)=o at *;simp only[iC];obtain⟨s0,s1,s2,s3,s4,s5⟩:=hk.q6;have sl:=hk.lt;rcases o with _|⟨x,y,z⟩
 .have HM:=h_ (λW (k:bB r A B X Y E vl vr W)=>mH r A B X Y E 0 0 0 vl vr false W k);have HF:=h_ (λw1 e w2 (hb:Below w.heap.size w w1) h=>@aY.stay r A B X Y E L vr vl w w1 w2 e 0 0 0 Z hb h);generalize cY ⟨A,B,X,Y,E,L⟩ none=R at *;have a2:=h_ HA;clear HA;go_enter Tryz.func86,Tryz.ntmps86;go_upto_region 5 with fail
  apply fO (λr5 Wz=>ah [] w Wz/\(λ_=>True) Wz/\w.heap.size<=r5/\ag r5 #[(),(),()] 46 Wz)
  .intro bp;refine br [] (λ_=>false) (λ_=>True) (KD (λ_=>True) []) k_ ⟨trivial,bR.nil _⟩ ?_;refine aD ⟨w,ah.refl _ _,trivial,bR.nil _⟩ [ae,ae,ae,ae,ae,ae,ae,ae,ae,ae,ae,ae] 7 (KD.closed an _) aA ?_;refine aR [12,16] ?_;refine ak.cons ?_ ?_
   .refine dY (v:=.tuple #[.agg #[(),(),()],false]) (some 39) (λ_=>True) an (λ_ _=>by simp) (λw' hC=>(a2.out w').mono λ_ _ h=>⟨h.1,.of_below h.2,trivial⟩) (λhne=>?_);refine ao ?_;refine aD hne [ac,ac,ac,ac,ac,ac,ac,ac,ac,ac,ac,ac,ac,ae,ae,ae] 3 (KD.closed an _) aA ?_;refine aR [16] ?_;refine ak.cons ?_ ?_
    .refine dm (zs:=#[(),(),()]) (T:=46) an (λr5 b7 cs hne=>?_);refine ao ?_;exact Lc
    exact ak.nil
   refine ak.cons ?_ ?_
   .refine dm (zs:=#[(),(),()]) (T:=46) an (λr5 b7 cs hne=>?_);refine ao ?_;refine aR [12] ?_;refine ak.cons ?_ ?_
    .refine dY (v:=.tuple #[.agg #[(),(),()],false]) (some 39) (λ_=>True) an (λ_ _=>by simp) (λw' hC=>(a2.out w').mono λ_ _ h=>⟨h.1,.of_below h.2,trivial⟩) (λhne=>?_);refine ao ?_;refine aD hne [ac,ac,ac,ac,ac,ac,ac,ac,ac,ac,ac,ac,ac,ae,ae,ae] 2 (KD.closed an _) aA ?_;exact Lc
    exact ak.nil
   exact ak.nil
  exact vw
 .have HM:=h_ (λW (k:bB r A B X Y E vl vr W)=>mH r A B X Y E x y z vl vr true W k);have HF:=h_ (λw1 e w2 (hb:Below w.heap.size w w1) h=>@aY.move r A B X Y E L vr vl w w1 w2 e x y z Z hb h);generalize cY ⟨A,B,X,Y,E,L⟩ (some (x,y,z))=R at *;have a2:=h_ HA;clear HA;go_enter Tryz.func86,Tryz.ntmps86;go_upto_region 5 with fail
  apply fO (λr5 Wz=>ah [] w Wz/\(λ_=>True) Wz/\w.heap.size<=r5/\ag r5 #[x,y,z] 46 Wz)
  .intro bp;refine br [] (λ_=>false) (λ_=>True) (KD (λ_=>True) []) k_ ⟨trivial,bR.nil _⟩ ?_;refine aD ⟨w,ah.refl _ _,trivial,bR.nil _⟩ [ae,ae,ae,ae,ae,ae,ae,ae,ae,ae,ae,ae] 7 (KD.closed an _) aA ?_;refine aR [12,16] ?_;refine ak.cons ?_ ?_
   .refine dY (v:=.tuple #[.agg #[x,y,z],true]) (some 39) (λ_=>True) an (λ_ _=>by simp) (λw' hC=>(a2.out w').mono λ_ _ h=>⟨h.1,.of_below h.2,trivial⟩) (λhne=>?_);refine ao ?_;refine aD hne [ac,ac,ac,ac,ac,ac,ac,ac,ac,ac,ac,ac,ac,ae,ae,ae] 3 (KD.closed an _) aA ?_;refine aR [16] ?_;refine ak.cons ?_ ?_
    .refine dm (zs:=#[(),(),()]) (T:=46) an (λr5 b7 cs hne=>?_);refine ao ?_;exact KW
    exact ak.nil
   refine ak.cons ?_ ?_
   .refine dm (zs:=#[(),(),()]) (T:=46) an (λr5 b7 cs hne=>?_);refine ao ?_;refine aR [12] ?_;refine ak.cons ?_ ?_
    .refine dY (v:=.tuple #[.agg #[x,y,z],true]) (some 39) (λ_=>True) an (λ_ _=>by simp) (λw' hC=>(a2.out w').mono λ_ _ h=>⟨h.1,.of_below h.2,trivial⟩) (λhne=>?_);refine ao ?_;refine aD hne [ac,ac,ac,ac,ac,ac,ac,ac,ac,ac,ac,ac,ac,ae,ae,ae] 2 (KD.closed an _) aA ?_;exact KW
    exact ak.nil
   exact ak.nil
  exact vw
def M8(r:Nat)(A B X Y E:Int)(L:aK)(vl vr:Value)(aa:CS.ok ⟨A,B,X,Y,E,L⟩)(w:World)(hE:dI r w)(hk:bB r A B X Y E vl vr w)(Z:am w (r+1) vl L):
 Kp 86 #[.pointer (some ⟨r,0,none⟩),iK] w (aY r vr w (gT X Y E,⟨A,B,X,Y,E,L⟩)):=by
 have HT:=h_ (Bj A B X Y E aa.2.1 w hE.env.1);have HF:=h_ (λw1 (hb:Below w.heap.size w w1)=>@aY.same r vr vl ⟨A,B,X,Y,E,L⟩ (gT X Y E) w w1 hk Z hb);generalize gT X Y E=T at *;simp only[iK];obtain⟨s0,s1,s2,s3,s4,s5⟩:=hk.q6;have sl:=hk.lt;go_enter Tryz.func86,Tryz.ntmps86;go_wp2_with fail
 refine HT.out.mono ?_;rintro e w1 ⟨rfl,aM⟩;go_wp2;go_ret;exact HF.out w1 aM
def MO(r:Nat)(A B X Y E:Int)(L:aK)(vl vr:Value)(aa:CS.ok ⟨A,B,X,Y,E,L⟩)(w:World)(hE:dI r w)(hk:bB r A B X Y E vl vr w)(Z:am w (r+1) vl L):
 Kp 86 #[.pointer (some ⟨r,0,none⟩),iE] w (aY r vr w (cf ⟨A,B,X,Y,E,L⟩ (aC ((b_ A B (X,Y,E)).getD 0)) (b_ A B (X,Y,E)).isSome)):=by
 obtain⟨hA,hB⟩:=fe aa.1;obtain⟨k,b,hq,aG,hR⟩:∃(k:Int) (b:Bool),io (b_ A B (X,Y,E))=.tuple #[.int .i64 k,.bool b]/\(0<=k/\k<=12)/\cf ⟨A,B,X,Y,E,L⟩ (aC ((b_ A B (X,Y,E)).getD 0)) (b_ A B (X,Y,E)).isSome=cf ⟨A,B,X,Y,E,L⟩ (aC k) b:=by
  exact Fp
 have h1:=λW=>wv A B X Y E hA hB aa.2.1 W;rw[hq] at h1;rw[hR];have HO:=h_ h1;have HT:=h_ (λW (hb:Below w.heap.size w W)=>wx k b o_ W (hE.env.1.below hb));have HF:=h_ (λw1 (hb:Below w.heap.size w w1)=>@aY.told r vr vl ⟨A,B,X,Y,E,L⟩ (aC k) b w w1 hk Z hb);clear hR hq h1;generalize cf _ _ _=R at *;generalize cD (aC k) b=T at *;simp only[iE];obtain⟨s0,s1,s2,s3,s4,s5⟩:=hk.q6;have sl:=hk.lt;go_enter Tryz.func86,Tryz.ntmps86;go_upto_region 10 with fail
 (refine bP k_ k_ ?_;(repeat (go_big_quiet_step ((first|(go_at_call 141;exact Calls.quiet_cls an _ (HO.out _))|(go_at_call 140;exact Calls.quiet_cls an _ (HT.out _ (aU.over _).below))))));refine wpQuiet_nil ?_;intro w1 I;obtain⟨aZ,a6⟩:=bf I;have ax:=I.size;(try simp only[Uq] at ax))
 go_wp2;go_ret;exact HF.out w1 I
def ii(h:P:=by intro k hk;rw[UD] at hk;omega):=h
def IW(h:P:=by
 try simp only[Value.cells]
 refine aD hne [ac,ac,ac,ac,ac,ac,ac,ac,ac,ac,ac,ac,ac,ac,ae] 0 (KD.closed (bn w) _) aA ?_;exact Ic):=h
def Ks(h:P:=by
 refine aR [13] ?_;refine ak.cons ?_ ?_
 .refine fk (v:=.agg #[(),(),(),(),()]) [] [] (.inl co) (bn w) (λ_ _ h Z=>Z.belowGe h h.size ii) s_ (λhne=>?_);exact IW
 exact ak.nil):=h
def JT(h:P:=by
 refine aR [13] ?_;refine ak.cons ?_ ?_
 .refine fk (v:=.agg #[c1,c2,lo,hi,t]) [] [] (.inl co) (bn w) (λ_ _ h Z=>Z.belowGe h h.size ii) s_ (λhne=>?_);exact IW
 exact ak.nil):=h
def KX(h:P:=by
 refine cV λWz a7 aX=>?_
 try dsimp only
 have aM:=a7.below;have bX:am Wz w.heap.size (.slice x M.length c) M:=by
  obtain⟨g,c',h1,h2⟩:=aX;have h3:x=g/\c=c':=by simpa using h1
  rw[h3.1,h3.2];exact h2
 have HO:=h_ bX;clear s0 s1 s2 s3 s4 s5 aX hne b1 bX;go_wp2_with fail
 refine (HM.out x M.length c Wz (hk.below aM)).mono ?_;intro e w9 G;have HP:=h_ (HF.out _ Wz e w9 HO.out aM G);exact uR):=h
def Gf(h:P:=by
 refine cV λWz a7 aX=>?_
 try dsimp only
 have aM:=a7.below;clear s0 s1 s2 s3 s4 s5 aX hne b1;go_wp2_with fail
 refine (HM.out x Wz (hk.below aM)).mono ?_;intro e w9 G;have HP:=h_ (HF.out Wz e w9 aM G);exact uR):=h
def AP(r:Nat)(A B X Y E:Int)(vl vr v:Value)(w:World)(hk:bB r A B X Y E vl vr w):
 Kp 144 #[.pointer (some ⟨r,0,none⟩),v,false] w (fG r (cD eW false) (bB r A B X Y E vl vr) w):=by
 exact Hp
def BH(r:Nat)(A B X Y E:Int)(vl v0 v1 v2 v:Value)(w:World)(hk:ct r A B X Y E vl v0 v1 v2 w):
 Kp 79 #[.pointer (some ⟨r,0,none⟩),v,false] w (fG r (cD eW false) (ct r A B X Y E vl v0 v1 v2) w):=by
 have HD:=h_ (tD false);exact Fh
def bn(w:World):aQ (λw'=>Below w.heap.size w w'):=λ_ _ h hb=>af hb h.size h
def oR(S T U:aj)(hS:S.size<=300)(hT:T.size<=300)(hU:U.size<=300):S.size+T.size<=600/\(S++T).size+U.size<=900:=by
 rw[Uu];omega
def yT(A B:Int):(0<=fo A B/\fo A B<=12003)/\(1<=fK A B/\fK A B<=12):=by
 have hl:=ye A B;have hg:=re A B (dC A B) 1 o_ o_;unfold fo fK;refine⟨⟨VY o_ o_,?_⟩,hg⟩;have:=VQ (a:=((dC A B).length:Int)) (dh A B (dC A B) 1) o_;omega
def L7(r:Nat)(A B X Y E:Int)(L:aK)(vl vr:Value)(aa:CS.ok ⟨A,B,X,Y,E,L⟩)(w:World)(hE:dI r w)(hk:bB r A B X Y E vl vr w)(Z:am w (r+1) vl L):
 Kp 86 #[.pointer (some ⟨r,0,none⟩),iy] w (aY r vr w (mv A B,⟨A,B,X,Y,E,L⟩)):=by
 have hb:=yT A B;have F:=h_ (LY A B aa.1 w);rw[show p_ A B=.tuple #[fo A B,fK A B,true] from rfl] at F;have H1:=h_ (λW (aZ:Below w.heap.size w W)=>oZ (fo A B) o_ o_ W (hE.env.below aZ));have H2:=h_ (λW (aZ:Below w.heap.size w W)=>oZ (fK A B) o_ o_ W (hE.env.below aZ));have HF:=h_ (λw1 (hb:Below w.heap.size w w1)=>@aY.same r vr vl ⟨A,B,X,Y,E,L⟩ (mv A B) w w1 hk Z hb);unfold mv at HF ⊢;have z1:=dS (fo A B) o_;have z2:=dS (fK A B) o_;have e1:(⟨#[44]⟩:aj).size=1:=rfl;have g:=oR (aC (fo A B)) ⟨#[44]⟩ (aC (fK A B)) o_ o_ o_;have a5:=λw=>Up (P:=Tryz.prog) w (aC (fo A B)) ⟨#[44]⟩ o_;have ba:=λw=>Up (P:=Tryz.prog) w (aC (fo A B)++⟨#[44]⟩) (aC (fK A B)) o_;clear g e1 z1 z2;generalize aC (fo A B)=SM at *;generalize aC (fK A B)=SN at *;generalize fo A B=m at *;generalize fK A B=n at *;clear hb;simp only[iy];obtain⟨s0,s1,s2,s3,s4,s5⟩:=hk.q6;have sl:=hk.lt;go_enter Tryz.func86,Tryz.ntmps86;go_upto_region 12 with fail
 go_wp2_with fail
 refine F.out.mono ?_;rintro e w1 ⟨rfl,I⟩;go_wp2_with fail
 refine ai (H1.out w1 I) λw2 U=>?_;have az:=af U I.size I;go_wp2_with fail
 refine ai (H2.out w2 az) λw3 aF=>?_;have aG:=af aF az.size az;go_wp2;go_ret;exact HF.out w3 aG
def ND(r:Nat)(A B X Y E:Int)(L:aK)(vl vr:Value)(aa:CS.ok ⟨A,B,X,Y,E,L⟩)(w:World)(hk:bB r A B X Y E vl vr w)(Z:am w (r+1) vl L):
 Kp 86 #[.pointer (some ⟨r,0,none⟩),iG] w (aY r vr w (eY ⟨A,B,X,Y,E,L⟩ (iH L (A,B)))):=by
 have HD:=λW (hb:Below w.heap.size w W)=>RM (r+1) vl L A B aa.2.2 W (Z.below hb);generalize iH L (A,B)=o at *;simp only[iG];obtain⟨a,F,rfl,_,_⟩:=Z.form;obtain⟨s0,s1,s2,s3,s4,s5⟩:=hk.q6;have sl:=hk.lt;rcases o with _|M
 .have HM:=h_ (λv W (k:bB r A B X Y E (.slice a L.length F) vr W)=>AP r A B X Y E (.slice a L.length F) vr v W k);have HF:=h_ (λw1 e w2 (hb:Below w.heap.size w w1) h=>@aY.stay r A B X Y E L vr (.slice a L.length F) w w1 w2 e 0 0 0 Z hb h);rw[show cY ⟨A,B,X,Y,E,L⟩ none=eY ⟨A,B,X,Y,E,L⟩ none from rfl] at HF;generalize eY ⟨A,B,X,Y,E,L⟩ none=R at *;have bb:=h_ HD;clear HD Z;go_enter Tryz.func86,Tryz.ntmps86;go_upto_region 15 with fail
  refine br [] (λ_=>false) (λ_=>True) (λ_=>True) k_ (trivial) ?_;refine aD ⟨w,ah.refl _ _,trivial⟩ [ae,ae,ae,ae,ae,ae,ae,ae] 6 an aA ?_;refine aB 8 ?_;refine bG (some 95) (λv=>λw'=>∃x,v=.tuple #[x,false]) (λv=>λ_ _ h _=>h) (λw' hO _=>(bb.out w' hO.below).mono λe w2 ⟨x,h1,h2,h3⟩=>⟨_,h1,.of_below h3,x,rfl⟩) (λv hne=>?_);refine ao ?_;obtain⟨w8,b1,x,rfl⟩:=id hne;refine aD hne [ac,ac,ac,ac,ac,ac,ac,ac,ac,ae,ae,ae,ae,ae] 0 (λ_ _ h _=>h) aA ?_;exact Gf
 .have hr:r<w.heap.size:=sl;have HF:=h_ (λv w1 e w2 (h0:am w1 w.heap.size v M) (hb:Below w.heap.size w w1) h=>@aY.keep r A B X Y E L M vr (.slice a L.length F) v w w1 w2 e h0 hr hb h);have HM:=h_ (λa2 n2 c2 W (k:bB r A B X Y E (.slice a L.length F) vr W)=>AQ r A B X Y E (.slice a L.length F) vr a2 n2 c2 true W k);generalize eY ⟨A,B,X,Y,E,L⟩ (some M)=R at *;have bb:=h_ HD;clear HD Z hr;go_enter Tryz.func86,Tryz.ntmps86;go_upto_region 15 with fail
  refine br [] (λ_=>false) (λ_=>True) (λ_=>True) k_ (trivial) ?_;refine aD ⟨w,ah.refl _ _,trivial⟩ [ae,ae,ae,ae,ae,ae,ae,ae] 6 an aA ?_;refine aB 8 ?_;refine bG (some 95) (λv=>λw'=>∃x c,v=.tuple #[.slice x M.length c,true]/\am w' w.heap.size (.slice x M.length c) M) (λv=>λ_ _ ⟨x,c,h1,h2⟩ hb=>⟨x,c,h1,h2.below hb⟩) (λw' hO _=>(bb.out w' hO.below).mono λe w2 ⟨x,h1,h2,h3⟩=>by obtain⟨y,c,rfl,_,_⟩:=(h2 M rfl).form;exact⟨_,h1,.of_below h3,y,c,rfl,(h2 M rfl).le hO.size⟩) (λv hne=>?_);refine ao ?_;obtain⟨w8,b1,x,c,rfl,_⟩:=id hne;refine aD hne [ac,ac,ac,ac,ac,ac,ac,ac,ac,ae,ae,ae,ae,ae] 0 (λ_ _ ⟨x,c,h1,h2⟩ hb=>⟨x,c,h1,h2.below hb⟩) aA ?_;exact KX
def Np(r:Nat)(A B X Y E:Int)(L:aK)(vl vr:Value)(aa:CS.ok ⟨A,B,X,Y,E,L⟩)(w:World)(hE:dI r w)(hk:bB r A B X Y E vl vr w)(Z:am w (r+1) vl L):
 Kp 86 #[.pointer (some ⟨r,0,none⟩),iI] w (aY r vr w (km (fA L (A,B)),⟨A,B,X,Y,E,L⟩)):=by
 have HD:=λW (hb:Below w.heap.size w W)=>MP (r+1) vl L A B aa.2.2 W (Z.below hb);have V:=λe=>@xH L (A,B) aa.2.2 e;have HF:=h_ (λw1 (hb:Below w.heap.size w w1)=>@aY.same r vr vl ⟨A,B,X,Y,E,L⟩ (km (fA L (A,B))) w w1 hk Z hb);generalize fA L (A,B)=o at *;simp only[iI];obtain⟨a,F,rfl,_,_⟩:=Z.form;obtain⟨s0,s1,s2,s3,s4,s5⟩:=hk.q6;have sl:=hk.lt;clear Z;rcases o with _|⟨⟨c1,c2⟩,lo,hi,t⟩
 .simp only[km] at HF ⊢;simp only[lJ] at HD;have bb:=h_ HD;clear HD V;go_enter Tryz.func86,Tryz.ntmps86;go_upto_region 18 with fail
  apply fO (λcs Wz=>ah [] w Wz/\(λw'=>Below w.heap.size w w') Wz/\w.heap.size<=cs/\ag cs #[(),(),(),(),()] 70 Wz)
  .intro bp;refine br [] (λ_=>false) (λ_=>True) (KD (λw'=>Below w.heap.size w w') []) k_ ⟨(bn w) _ _ (Uk _ _) ((Uk _ _).drew),bR.nil _⟩ ?_;refine aD ⟨w,ah.refl _ _,Uk _ _,bR.nil _⟩ [ae,ae,ae,ae,ae,ae,ae,ae] 7 (KD.closed (bn w) _) aA ?_;refine aR [8,12] ?_;refine ak.cons ?_ ?_
   .refine dY (v:=.tuple #[.agg #[(),(),(),(),()],false]) (some 113) (λw'=>Below w.heap.size w w') (bn w) (λ_ _=>by simp) (λw' hC=>(bb.out w' hC).mono λ_ _ h=>⟨h.1,.of_below h.2,af h.2 hC.size hC⟩) (λhne=>?_);refine ao ?_;refine aD hne [ac,ac,ac,ac,ac,ac,ac,ac,ac,ae,ae,ae] 3 (KD.closed (bn w) _) aA ?_;refine aR [12] ?_;refine ak.cons ?_ ?_
    .refine dm (zs:=#[(),(),(),(),()]) (T:=70) (bn w) (λcs co b7 hne=>?_);refine ao ?_;exact Ks
    exact ak.nil
   refine ak.cons ?_ ?_
   .refine dm (zs:=#[(),(),(),(),()]) (T:=70) (bn w) (λcs co b7 hne=>?_);refine ao ?_;refine aR [8] ?_;refine ak.cons ?_ ?_
    .refine dY (v:=.tuple #[.agg #[(),(),(),(),()],false]) (some 113) (λw'=>Below w.heap.size w w') (bn w) (λ_ _=>by simp) (λw' hC=>(bb.out w' hC).mono λ_ _ h=>⟨h.1,.of_below h.2,af h.2 hC.size hC⟩) (λhne=>?_);refine ao ?_;refine aD hne [ac,ac,ac,ac,ac,ac,ac,ac,ac,ae,ae,ae] 2 (KD.closed (bn w) _) aA ?_;exact Ks
    exact ak.nil
   exact ak.nil
  try dsimp only
  rintro rM W3 ⟨bi,_,b4,kM⟩;have aM:=bi.below;clear s0 s1 s2 s3 s4 s5 bi kM;go_wp2;go_ret;exact HF.out W3 aM
 .have bo:=mW (V _ rfl);simp only at bo;simp only[lJ,cq] at HD;simp only[km] at HF ⊢;have H1:=h_ (λW (aZ:Below w.heap.size w W)=>oZ lo o_ o_ W (hE.env.below aZ));have H2:=h_ (λW (aZ:Below w.heap.size w W)=>oZ hi o_ o_ W (hE.env.below aZ));have z1:=dS lo o_;have z2:=dS hi o_;have e1:(⟨#[46,46]⟩:aj).size=2:=rfl;have g:=oR (aC lo) ⟨#[46,46]⟩ (aC hi) o_ o_ o_;have a5:=λw=>Up (P:=Tryz.prog) w (aC lo) ⟨#[46,46]⟩ o_;have ba:=λw=>Up (P:=Tryz.prog) w (aC lo++⟨#[46,46]⟩) (aC hi) o_;clear g e1 z1 z2;generalize aC lo=SM at *;generalize aC hi=SN at *;have bb:=h_ HD;clear HD V bo;go_enter Tryz.func86,Tryz.ntmps86;go_upto_region 18 with fail
  apply fO (λcs Wz=>ah [] w Wz/\(λw'=>Below w.heap.size w w') Wz/\w.heap.size<=cs/\ag cs #[c1,c2,lo,hi,t] 70 Wz)
  .intro bp;refine br [] (λ_=>false) (λ_=>True) (KD (λw'=>Below w.heap.size w w') []) k_ ⟨(bn w) _ _ (Uk _ _) ((Uk _ _).drew),bR.nil _⟩ ?_;refine aD ⟨w,ah.refl _ _,Uk _ _,bR.nil _⟩ [ae,ae,ae,ae,ae,ae,ae,ae] 7 (KD.closed (bn w) _) aA ?_;refine aR [8,12] ?_;refine ak.cons ?_ ?_
   .refine dY (v:=.tuple #[.agg #[c1,c2,lo,hi,t],true]) (some 113) (λw'=>Below w.heap.size w w') (bn w) (λ_ _=>by simp) (λw' hC=>(bb.out w' hC).mono λ_ _ h=>⟨h.1,.of_below h.2,af h.2 hC.size hC⟩) (λhne=>?_);refine ao ?_;refine aD hne [ac,ac,ac,ac,ac,ac,ac,ac,ac,ae,ae,ae] 3 (KD.closed (bn w) _) aA ?_;refine aR [12] ?_;refine ak.cons ?_ ?_
    .refine dm (zs:=#[(),(),(),(),()]) (T:=70) (bn w) (λcs co b7 hne=>?_);refine ao ?_;exact JT
    exact ak.nil
   refine ak.cons ?_ ?_
   .refine dm (zs:=#[(),(),(),(),()]) (T:=70) (bn w) (λcs co b7 hne=>?_);refine ao ?_;refine aR [8] ?_;refine ak.cons ?_ ?_
    .refine dY (v:=.tuple #[.agg #[c1,c2,lo,hi,t],true]) (some 113) (λw'=>Below w.heap.size w w') (bn w) (λ_ _=>by simp) (λw' hC=>(bb.out w' hC).mono λ_ _ h=>⟨h.1,.of_below h.2,af h.2 hC.size hC⟩) (λhne=>?_);refine ao ?_;refine aD hne [ac,ac,ac,ac,ac,ac,ac,ac,ac,ae,ae,ae] 2 (KD.closed (bn w) _) aA ?_;exact JT
    exact ak.nil
   exact ak.nil
  try dsimp only
  rintro rM W3 ⟨bi,_,b4,kM⟩;have aM:=bi.below;clear s0 s1 s2 s3 s4 s5 bi;obtain⟨a8,bx,cu,cF,cQ⟩:=kM.q5;have bX:=kM.lt;go_upto_region 21 with fail
  (refine bP k_ k_ ?_;(repeat (go_big_quiet_step ((go_at_call 136;first|with_reducible exact Calls.quiet_cls an _ (H1.out _ (af (aU.over _).below aM.size aM))|with_reducible exact Calls.quiet_cls an _ (H2.out _ (af (aU.over _).below aM.size aM))))));refine wpQuiet_nil ?_;intro w4 K;obtain⟨I,H⟩:=bf K;have b6:=K.size;(try simp only[Uq] at b6))
  go_wp2;go_ret;exact HF.out w4 (af K aM.size aM)
def L5(r:Nat)(A B X Y E:Int)(L:aK)(vl vr:Value)(aa:CS.ok ⟨A,B,X,Y,E,L⟩)(w:World)(hE:dI r w)(hk:bB r A B X Y E vl vr w)(Z:am w (r+1) vl L):
 Kp 86 #[.pointer (some ⟨r,0,none⟩),iu] w (aY r vr w (aC L.length,⟨A,B,X,Y,E,L⟩)):=by
 have hl:=aa.2.2.2.2;simp only at hl;have H1:=h_ (oZ (L.length:Int) o_ o_ w hE.env);have HF:=h_ (λw1 (hb:Below w.heap.size w w1)=>@aY.same r vr vl ⟨A,B,X,Y,E,L⟩ (aC L.length) w w1 hk Z hb);obtain⟨a,F,rfl,_,_⟩:=Z.form;generalize aC L.length=T at *;simp only[iu];obtain⟨s0,s1,s2,s3,s4,s5⟩:=hk.q6;have sl:=hk.lt;go_enter Tryz.func86,Tryz.ntmps86;go_upto_region 23 with fail
 go_wp2_with fail
 refine H1.out.mono ?_;rintro e w1 ⟨rfl,aM⟩;go_wp2;go_ret;exact HF.out w1 aM
def Hd(h:P:=by
 try simp only[Value.cells]
 refine aD hne [ac,ac,ac,ac,ac,ac,ac,ac,ac,ac,ac,ac,ac,ac,ac,ae] 0 (KD.closed an _) aA ?_;refine jc k_ (λWz a7 aX=>?_) _;exact bp r7 Wz ⟨a7,aX.1,o_,aX.2.head⟩):=h
def KH(h:P:=by
 refine aR [14] ?_;refine ak.cons ?_ ?_
 .refine fk (v:=.agg #[na,da,nb,db]) [] [] (.inl G) an (λ_ _ h _=>h) s_ (λhne=>?_)
  try simp only[Value.cells]
  refine aD hne [ac,ac,ac,ac,ac,ac,ac,ac,ac,ac,ac,ac,ac,ac,ac,ae] 0 (KD.closed an _) aA ?_;refine jc k_ (λWz a7 aX=>?_) _;exact bp F Wz ⟨a7,aX.1,o_,aX.2.head⟩
 exact ak.nil):=h
def Kk(h:P:=by
 refine aR [14] ?_;refine ak.cons ?_ ?_
 .refine fk (v:=.agg #[(),(),()]) [] [] (.inl a3) an (λ_ _ h _=>h) s_ (λhne=>?_);exact Hd
 exact ak.nil):=h
def Kt(h:P:=by
 refine aR [14] ?_;refine ak.cons ?_ ?_
 .refine fk (v:=.agg #[x,y,z]) [] [] (.inl a3) an (λ_ _ h _=>h) s_ (λhne=>?_);exact Hd
 exact ak.nil):=h
def F7(h:P:=by
 generalize w1.alloc _=W3 at *;generalize w1.heap.size=rN at *;obtain⟨cB,cv⟩:=k9.q2;have cG:=k9.lt;exact EY):=h
def Gt(h:P:=by
 go_wp2_with fail
 refine ai (HO.out w) λw1 I=>?_;go_wp2_with fail
 refine ai (HT.out w1 I) λw2 U=>?_;have az:=af U I.size I;go_wp2;go_ret;exact HF.out w2 az):=h
def Gy(h:P:=by
 have g:=af K aM.size aM;go_wp2_with fail
 refine (H3.out _).mono ?_;rintro e w5 ⟨rfl,rfl⟩;go_wp2;go_ret;exact HF.out w4 g):=h
def Iz(h:P:=by
 go_wp2_with fail
 refine (H3.out _).mono ?_;rintro e w3 ⟨rfl,rfl⟩;go_wp2;go_ret;exact HF.out w2 az):=h
def Oo(A B v:Int)(hC:be A B=true)(hv:av v 1 5=false)(w:World):
 Rv 152 #[.agg #[A,B],v] w (.tuple #[.agg #[(),()],false]):=by
 go_enter Tryz.func152,Tryz.ntmps152;go_wp2_with ((go_at_call 63;refine ay (cR _ _ _ _) ?_))
 (go_at_call 62;refine ai (jG _ _ _) λw1 I=>?_;obtain⟨aZ,a6⟩:=bf I;have ax:=I.size;(try simp only[Uq] at ax);(try (have F:w.heap.size<w1.heap.size:=by omega));(try (have a9:=Ul ax));(try (have bs:=Ul (Uo a9))))
 go_wp2_with ((go_at_call 63;refine ay (cR _ _ _ _) ?_))
 obtain⟨_,_,q3,q4,_⟩:=(((S9.new2 w (.int .i64 A) (.int .i64 B) (.int .i64 0) (.int .i64 0) 42 42).below I))
 refine Uh (v:=.tuple #[.agg #[(),()],false]) Gx rfl ⟨rfl,?_⟩;exact z_
def OE(A B v:Int)(hC:be A B=true)(hv:av v 1 5=false)(w:World):
 Rv 72 #[.agg #[A,B],v] w (.tuple #[.agg #[(),()],false]):=by
 go_enter Tryz.func72,Tryz.ntmps72;go_wp2_with ((go_at_call 104;refine ay (cw _ _ _ _) ?_))
 (go_at_call 71;refine ai (fP _ _ _) λw1 I=>?_;obtain⟨aZ,a6⟩:=bf I;have ax:=I.size;(try simp only[Uq] at ax);(try (have F:w.heap.size<w1.heap.size:=by omega));(try (have a9:=Ul ax));(try (have bs:=Ul (Uo a9))))
 go_wp2_with ((go_at_call 104;refine ay (cw _ _ _ _) ?_))
 obtain⟨_,_,q3,q4,_⟩:=(((S9.new2 w (.int .i64 A) (.int .i64 B) (.int .i64 0) (.int .i64 0) 42 42).below I))
 exact Fy
def fL(A B n:Int):Bool:=av n 1 5&&be (A*n*n*n*n) (B*n*n*n*n*n*n)
def qc(A B n:Int):Value:=.tuple #[.agg #[(rs (fL A B n) (A*n*n*n*n):Int),(rs (fL A B n) (B*n*n*n*n*n*n):Int)],.bool (fL A B n)]
def Nr(A B n:Int)(hC:be A B=true)(w:World):
 Rv 152 #[.agg #[A,B],n] w (qc A B n):=by
 unfold qc fL;cases h:av n 1 5
 .exact Oo A B n hC h w
 .exact Ra A B n hC h w
def M2(A B n:Int)(hC:be A B=true)(w:World):
 Rv 72 #[.agg #[A,B],n] w (qc A B n):=by
 unfold qc fL;cases h:av n 1 5
 .exact OE A B n hC h w
 .exact QY A B n hC h w
def QN{A B p:Int}(hA:bj A)(hB:a_ B):(im A B p).size<=30:=by
 have hd:=li hA hB;have hv:=qQ (a:=aP A B) (p:=p) (by unfold aP;omega);have e1:(⟨#[73]⟩:aj).size=1:=rfl;have e2:(⟨#[42]⟩:aj).size=1:=rfl;unfold im;split
 .have:=dS (val (aP A B) p) o_;rw[Uu];omega
 .split
  .have:=dS (val (aP A B) p - 6) o_;rw[Uu,Uu];omega
  .unfold fa
   repeat' split
   all_goals decide
def Qa(k:Nat):(ej k).size<=14:=by
 unfold ej;split<;>decide
def tA(s:CS)(t u:aj):cf s t false=cf s u false:=rfl
def xN{A B p:Int}(s:CS):∃(k:Int) (b:Bool),jX A B p (gk A B p)=.tuple #[k,b]/\(-1000000000000<=k/\k<=1000000000000)/\cf s (aC (gk A B p)) (eX A B p)=cf s (aC k) b:=by
 unfold jX;cases h:eX A B p
 .exact⟨0,false,rfl,by omega,tA _ _ _⟩
 .obtain⟨h1,h2⟩:=pm h;have:=tO (A:=A) (B:=B) h2 o_;exact⟨gk A B p,true,rfl,by omega,rfl⟩
def xP{A B p:Int}(s:CS):∃(k:Int) (b:Bool),jX A B p (jx A B p)=.tuple #[k,b]/\(-1000000000000<=k/\k<=1000000000000)/\cf s (aC (jx A B p)) (eX A B p)=cf s (aC k) b:=by
 unfold jX;cases h:eX A B p
 .exact⟨0,false,rfl,by omega,tA _ _ _⟩
 .obtain⟨h1,h2⟩:=pm h;have:=tO (A:=A) (B:=B) h2 o_;exact⟨jx A B p,true,rfl,by unfold jx;omega,rfl⟩
def xR{A B p:Int}(hC:be A B=true)(s:CS):∃(S T:aj) (b:Bool),kL p (im (dH A B p) B p)=.tuple #[S,b]/\kL p (ej (dB (dH A B p) B p))=.tuple #[T,b]/\S.size<=30/\T.size<=30/\cf s (vH A B p) (fj p)=cf s (S++⟨#[44]⟩++T) b:=by
 unfold kL;have hm:=pI (p:=p) hC;have h1:=QN (p:=p) hm.1 hm.2.1;have h2:=Qa (dB (dH A B p) B p);cases h:fj p
 .exact⟨⟨#[]⟩,⟨#[]⟩,false,rfl,rfl,by decide,by decide,tA _ _ _⟩
 .exact⟨im (dH A B p) B p,ej (dB (dH A B p) B p),true,rfl,rfl,h1,by omega,rfl⟩
def xy{A B X Y E n:Int}(hC:be A B=true)(G:bW A B (X,Y,E))(s:CS):∃(na da nb db:Int) (b:Bool),lK (iq A B X E n)=.tuple #[.agg #[na,da,nb,db],b]/\((0<=da/\da<=1000000000)/\(-1000000000<=na/\na<=1000000000))/\((0<=db/\db<=1000000000)/\(-1000000000<=nb/\nb<=1000000000))/\cf s (wi (iq A B X E n)) (iq A B X E n).isSome=cf s (gP na da nb db) b:=by
 cases h:iq A B X E n with
 |none=>exact⟨0,0,0,0,false,rfl,by omega,by omega,tA _ _ _⟩
 |some q=>
  obtain⟨hA,hB⟩:=fe hC;have b5:=G.bd;simp only at b5;unfold iq at h;split at h
  .rename_i hn;have cy:=bH hn;have:=EF hA hB b5.1 b5.2.2 o_ h;unfold gM at this;simp only[Ux,UW] at this;exact⟨dr q.1,cK q.1,dr q.2,cK q.2,true,rfl,En o_,En o_,rfl⟩
  .cases h
def Mn(r:Nat)(A B X Y E n:Int)(L:aK)(vl vr:Value)(aa:CS.ok ⟨A,B,X,Y,E,L⟩)(w:World)(hk:bB r A B X Y E vl vr w)(Z:am w (r+1) vl L):
 Kp 91 #[.pointer (some ⟨r,0,none⟩),ic,n] w (aY r vr w (cY ⟨A,B,X,Y,E,L⟩ (if av n (-12) 12 then gy A B (X,Y,E) n else none))):=by
 have HA:=λW=>M7 A B X Y E n aa.1 aa.2.1 W;generalize (if av n (-12) 12=true then gy A B (X,Y,E) n else none)=o at *;simp only[ic];obtain⟨s0,s1,s2,s3,s4,s5⟩:=hk.q6;have sl:=hk.lt;rcases o with _|⟨x,y,z⟩
 .have HM:=h_ (λW (k:bB r A B X Y E vl vr W)=>mH r A B X Y E 0 0 0 vl vr false W k);have HF:=h_ (λw1 e w2 (hb:Below w.heap.size w w1) h=>@aY.stay r A B X Y E L vr vl w w1 w2 e 0 0 0 Z hb h);generalize cY ⟨A,B,X,Y,E,L⟩ none=R at *;have a2:=h_ HA;clear HA;go_enter Tryz.func91,Tryz.ntmps91;go_upto_region 3 with fail
  apply fO (λr7 Wz=>ah [] w Wz/\(λ_=>True) Wz/\w.heap.size<=r7/\ag r7 #[(),(),()] 46 Wz)
  .intro bp;refine br [] (λ_=>false) (λ_=>True) (KD (λ_=>True) []) k_ ⟨trivial,bR.nil _⟩ ?_;refine aD ⟨w,ah.refl _ _,trivial,bR.nil _⟩ [ae,ae,ae,ae,ae,ae,ae,ae,ae] 7 (KD.closed an _) aA ?_;refine aR [9,13] ?_;refine ak.cons ?_ ?_
   .refine dY (v:=.tuple #[.agg #[(),(),()],false]) (some 30) (λ_=>True) an (λ_ _=>by simp) (λw' hC=>(a2.out w').mono λ_ _ h=>⟨h.1,.of_below h.2,trivial⟩) (λhne=>?_);refine ao ?_;refine aD hne [ac,ac,ac,ac,ac,ac,ac,ac,ac,ac,ae,ae,ae] 3 (KD.closed an _) aA ?_;refine aR [13] ?_;refine ak.cons ?_ ?_
    .refine dm (zs:=#[(),(),()]) (T:=46) an (λr7 a3 g hne=>?_);refine ao ?_;exact Kk
    exact ak.nil
   refine ak.cons ?_ ?_
   .refine dm (zs:=#[(),(),()]) (T:=46) an (λr7 a3 g hne=>?_);refine ao ?_;refine aR [9] ?_;refine ak.cons ?_ ?_
    .refine dY (v:=.tuple #[.agg #[(),(),()],false]) (some 30) (λ_=>True) an (λ_ _=>by simp) (λw' hC=>(a2.out w').mono λ_ _ h=>⟨h.1,.of_below h.2,trivial⟩) (λhne=>?_);refine ao ?_;refine aD hne [ac,ac,ac,ac,ac,ac,ac,ac,ac,ac,ae,ae,ae] 2 (KD.closed an _) aA ?_;exact Kk
    exact ak.nil
   exact ak.nil
  exact vw
 .have HM:=h_ (λW (k:bB r A B X Y E vl vr W)=>mH r A B X Y E x y z vl vr true W k);have HF:=h_ (λw1 e w2 (hb:Below w.heap.size w w1) h=>@aY.move r A B X Y E L vr vl w w1 w2 e x y z Z hb h);generalize cY ⟨A,B,X,Y,E,L⟩ (some (x,y,z))=R at *;have a2:=h_ HA;clear HA;go_enter Tryz.func91,Tryz.ntmps91;go_upto_region 3 with fail
  apply fO (λr7 Wz=>ah [] w Wz/\(λ_=>True) Wz/\w.heap.size<=r7/\ag r7 #[x,y,z] 46 Wz)
  .intro bp;refine br [] (λ_=>false) (λ_=>True) (KD (λ_=>True) []) k_ ⟨trivial,bR.nil _⟩ ?_;refine aD ⟨w,ah.refl _ _,trivial,bR.nil _⟩ [ae,ae,ae,ae,ae,ae,ae,ae,ae] 7 (KD.closed an _) aA ?_;refine aR [9,13] ?_;refine ak.cons ?_ ?_
   .refine dY (v:=.tuple #[.agg #[x,y,z],true]) (some 30) (λ_=>True) an (λ_ _=>by simp) (λw' hC=>(a2.out w').mono λ_ _ h=>⟨h.1,.of_below h.2,trivial⟩) (λhne=>?_);refine ao ?_;refine aD hne [ac,ac,ac,ac,ac,ac,ac,ac,ac,ac,ae,ae,ae] 3 (KD.closed an _) aA ?_;refine aR [13] ?_;refine ak.cons ?_ ?_
    .refine dm (zs:=#[(),(),()]) (T:=46) an (λr7 a3 g hne=>?_);refine ao ?_;exact Kt
    exact ak.nil
   refine ak.cons ?_ ?_
   .refine dm (zs:=#[(),(),()]) (T:=46) an (λr7 a3 g hne=>?_);refine ao ?_;refine aR [9] ?_;refine ak.cons ?_ ?_
    .refine dY (v:=.tuple #[.agg #[x,y,z],true]) (some 30) (λ_=>True) an (λ_ _=>by simp) (λw' hC=>(a2.out w').mono λ_ _ h=>⟨h.1,.of_below h.2,trivial⟩) (λhne=>?_);refine ao ?_;refine aD hne [ac,ac,ac,ac,ac,ac,ac,ac,ac,ac,ae,ae,ae] 2 (KD.closed an _) aA ?_;exact Kt
    exact ak.nil
   exact ak.nil
  exact vw
def Mx(r:Nat)(A B X Y E n:Int)(L:aK)(vl vr:Value)(aa:CS.ok ⟨A,B,X,Y,E,L⟩)(w:World)(hk:bB r A B X Y E vl vr w)(Z:am w (r+1) vl L):
 Kp 91 #[.pointer (some ⟨r,0,none⟩),g_,n] w (aY r vr w (iJ ⟨A,B,X,Y,E,L⟩ (fL A B n) (A*n*n*n*n) (B*n*n*n*n*n*n))):=by
 have HA:=Nr A B n aa.1 w;unfold qc at HA;have HF:=h_ (λw1 e w2 (hb:Below w.heap.size w w1) h=>@aY.turn r A B X Y E L vr vl w w1 w2 e (rs (fL A B n) (A*n*n*n*n)) (rs (fL A B n) (B*n*n*n*n*n*n)) (A*n*n*n*n) (B*n*n*n*n*n*n) (fL A B n) (λh=>by rw[h];exact⟨rfl,rfl⟩) Z hb h);generalize iJ _ _ _ _=R at *;generalize rs (fL A B n) (A*n*n*n*n)=x at *;generalize rs (fL A B n) (B*n*n*n*n*n*n)=y at *;generalize fL A B n=b at *;have HM:=h_ (λW (k:bB r A B X Y E vl vr W)=>Bi r A B X Y E x y vl vr b W k);have a2:=h_ HA;clear HA;simp only[g_];obtain⟨s0,s1,s2,s3,s4,s5⟩:=hk.q6;have sl:=hk.lt;go_enter Tryz.func91,Tryz.ntmps91;go_upto_region 6 with fail
 go_wp2_with fail
 refine a2.out.mono ?_;rintro e w1 ⟨rfl,I⟩;obtain⟨k9,ab⟩:=aw w1 #[x,y] 42;have aM:=af ab I.size I;go_upto_region 7 with fail
 clear s0 s1 s2 s3 s4 s5 ab;exact F7
def Mq(r:Nat)(A B X Y E n:Int)(L:aK)(vl vr:Value)(aa:CS.ok ⟨A,B,X,Y,E,L⟩)(w:World)(hE:dI r w)(hk:bB r A B X Y E vl vr w)(Z:am w (r+1) vl L):
 Kp 91 #[.pointer (some ⟨r,0,none⟩),ia,n] w (aY r vr w (cf ⟨A,B,X,Y,E,L⟩ (aC (gk A B n)) (eX A B n))):=by
 obtain⟨k,b,hq,aG,hR⟩:=xN (A:=A) (B:=B) (p:=n) ⟨A,B,X,Y,E,L⟩;have h1:=λW=>L8 A B n aa.1 W;rw[hq] at h1;rw[hR];have HO:=h_ h1;have HT:=h_ (λW (hb:Below w.heap.size w W)=>wx k b o_ W (hE.env.1.below hb));have HF:=h_ (λw1 (hb:Below w.heap.size w w1)=>@aY.told r vr vl ⟨A,B,X,Y,E,L⟩ (aC k) b w w1 hk Z hb);clear hR hq h1;generalize cf _ _ _=R at *;generalize cD (aC k) b=T at *;simp only[ia];obtain⟨s0,s1,s2,s3,s4,s5⟩:=hk.q6;have sl:=hk.lt;go_enter Tryz.func91,Tryz.ntmps91;go_upto_region 9 with fail
 exact Gt
def Mo(r:Nat)(A B X Y E n:Int)(L:aK)(vl vr:Value)(aa:CS.ok ⟨A,B,X,Y,E,L⟩)(w:World)(hE:dI r w)(hk:bB r A B X Y E vl vr w)(Z:am w (r+1) vl L):
 Kp 91 #[.pointer (some ⟨r,0,none⟩),ib,n] w (aY r vr w (cf ⟨A,B,X,Y,E,L⟩ (aC (jx A B n)) (eX A B n))):=by
 obtain⟨k,b,hq,aG,hR⟩:=xP (A:=A) (B:=B) (p:=n) ⟨A,B,X,Y,E,L⟩;have h1:=λW=>N9 A B n aa.1 W;rw[hq] at h1;rw[hR];have HO:=h_ h1;have HT:=h_ (λW (hb:Below w.heap.size w W)=>wx k b o_ W (hE.env.1.below hb));have HF:=h_ (λw1 (hb:Below w.heap.size w w1)=>@aY.told r vr vl ⟨A,B,X,Y,E,L⟩ (aC k) b w w1 hk Z hb);clear hR hq h1;generalize cf _ _ _=R at *;generalize cD (aC k) b=T at *;simp only[ib];obtain⟨s0,s1,s2,s3,s4,s5⟩:=hk.q6;have sl:=hk.lt;go_enter Tryz.func91,Tryz.ntmps91;go_upto_region 11 with fail
 exact Gt
def MI(r:Nat)(A B X Y E n:Int)(L:aK)(vl vr:Value)(aa:CS.ok ⟨A,B,X,Y,E,L⟩)(w:World)(hE:dI r w)(hk:bB r A B X Y E vl vr w)(Z:am w (r+1) vl L):
 Kp 91 #[.pointer (some ⟨r,0,none⟩),ig,n] w (aY r vr w (cf ⟨A,B,X,Y,E,L⟩ (vH A B n) (fj n))):=by
 obtain⟨S,T,b,hS,hT,bz,ad,hR⟩:=xR (p:=n) aa.1 ⟨A,B,X,Y,E,L⟩;have h1:=LK A B n aa.1 w hE.env.1;have h2:=λW=>LP A B n aa.1 W;rw[hS] at h1;rw[hT] at h2;rw[hR];have H1:=h_ h1;have H2:=h_ h2;have H3:=h_ (uc (S++⟨#[44]⟩++T) b);have HF:=h_ (λw1 (hb:Below w.heap.size w w1)=>@aY.told r vr vl ⟨A,B,X,Y,E,L⟩ (S++⟨#[44]⟩++T) b w w1 hk Z hb);have e1:(⟨#[44]⟩:aj).size=1:=rfl;have g:=oR S ⟨#[44]⟩ T o_ o_ o_;have a5:=λw=>Up (P:=Tryz.prog) w S ⟨#[44]⟩ o_;have ba:=λw=>Up (P:=Tryz.prog) w (S++⟨#[44]⟩) T o_;clear g e1 hR hS hT bz ad h1 h2;generalize cf _ _ _=R at *;generalize cD (S++⟨#[44]⟩++T) b=V at *;simp only[ig];obtain⟨s0,s1,s2,s3,s4,s5⟩:=hk.q6;have sl:=hk.lt;cases b
 all_goals
  go_enter Tryz.func91,Tryz.ntmps91;go_upto_region 13 with fail
  go_wp2_with fail
  refine H1.out.mono ?_;rintro e w1 ⟨rfl,I⟩;have t0:=(I.cell (p:=⟨r,0,none⟩) sl).trans s0;have t1:=(I.cell (p:=⟨r,1,none⟩) sl).trans s1;go_wp2_with fail
  refine ai (H2.out w1) λw2 U=>?_;have az:=af U I.size I;exact Iz
def Mj(r:Nat)(A B X Y E n:Int)(L:aK)(vl vr:Value)(aa:CS.ok ⟨A,B,X,Y,E,L⟩)(w:World)(hE:dI r w)(hk:bB r A B X Y E vl vr w)(Z:am w (r+1) vl L):
 Kp 91 #[.pointer (some ⟨r,0,none⟩),gZ,n] w (aY r vr w (cf ⟨A,B,X,Y,E,L⟩ (wi (iq A B X E n)) (iq A B X E n).isSome)):=by
 obtain⟨na,da,nb,db,b,hV,I,U,hR⟩:=xy (n:=n) aa.1 aa.2.1 ⟨A,B,X,Y,E,L⟩;have h1:=λW=>NF A B X Y E n aa.1 aa.2.1 W;rw[hV] at h1;rw[hR];have H1:=h_ h1;have H2:=h_ (λW (hb:Below w.heap.size w W)=>Mh na da nb db I U W (hE.env.1.below hb));have H3:=h_ (uc (gP na da nb db) b);have HF:=h_ (λw1 (hb:Below w.heap.size w w1)=>@aY.told r vr vl ⟨A,B,X,Y,E,L⟩ (gP na da nb db) b w w1 hk Z hb);clear hR hV I U h1;generalize cf _ _ _=R at *;generalize cD (gP na da nb db) b=V at *;generalize gP na da nb db=T at *;simp only[gZ];obtain⟨s0,s1,s2,s3,s4,s5⟩:=hk.q6;have sl:=hk.lt;go_enter Tryz.func91,Tryz.ntmps91;go_upto_region 17 with fail
 apply fO (λF Wz=>ah [] w Wz/\(λ_=>True) Wz/\w.heap.size<=F/\ag F #[na,da,nb,db] 145 Wz)
 .intro bp;refine br [] (λ_=>false) (λ_=>True) (KD (λ_=>True) []) k_ ⟨trivial,bR.nil _⟩ ?_;refine aD ⟨w,ah.refl _ _,trivial,bR.nil _⟩ [ae,ae,ae,ae,ae,ae,ae,ae,ae] 7 (KD.closed an _) aA ?_;refine aR [9,13] ?_;refine ak.cons ?_ ?_
  .refine dY (v:=.tuple #[.agg #[na,da,nb,db],b]) (some 115) (λ_=>True) an (λ_ _=>by simp) (λw' hC=>(H1.out w').mono λ_ _ h=>⟨h.1,.of_below h.2,trivial⟩) (λhne=>?_);refine ao ?_;refine aD hne [ac,ac,ac,ac,ac,ac,ac,ac,ac,ac,ae,ae,ae] 3 (KD.closed an _) aA ?_;refine aR [13] ?_;refine ak.cons ?_ ?_
   .refine dm (zs:=#[(),(),(),()]) (T:=145) an (λF G H hne=>?_);refine ao ?_;exact KH
   exact ak.nil
  refine ak.cons ?_ ?_
  .refine dm (zs:=#[(),(),(),()]) (T:=145) an (λF G H hne=>?_);refine ao ?_;refine aR [9] ?_;refine ak.cons ?_ ?_
   .refine dY (v:=.tuple #[.agg #[na,da,nb,db],b]) (some 115) (λ_=>True) an (λ_ _=>by simp) (λw' hC=>(H1.out w').mono λ_ _ h=>⟨h.1,.of_below h.2,trivial⟩) (λhne=>?_);refine ao ?_;refine aD hne [ac,ac,ac,ac,ac,ac,ac,ac,ac,ac,ae,ae,ae] 2 (KD.closed an _) aA ?_;exact KH
   exact ak.nil
  exact ak.nil
 try dsimp only
 rintro rM W3 ⟨bi,_,b4,kM⟩;have aM:=bi.below;obtain⟨a8,bx,cu,cF⟩:=kM.q4;have bX:=kM.lt;clear s0 s1 s2 s3 s4 s5 bi;go_wp2_with fail
 refine ai (H2.out W3 aM) λw4 K=>?_;exact Gy
def bg{t:aj}{l}(h:t≠⟨l.toArray⟩):(t.toList==l)=false:=by
 rw[Uz];intro h2;apply h;rw[Uy] at h2;apply Yq;rw[<-h2]
def D5(n m:Int):(∀w:World,TabI w->Kp 132 #[n,m] w (jU (jW n m) (kK n m) w))/\(∀w:World,TabI w->Kp 162 #[n,m] w (jU (jW n m) (kK n m) w)):=⟨(qZ n m).choose_spec.choose_spec.1,(qZ n m).choose_spec.choose_spec.2.1⟩
def RC(n m):(jW n m).size<=400:=(qZ n m).choose_spec.choose_spec.2.2
def Mu(r:Nat)(A B X Y E n m:Int)(L:aK)(vl vr:Value)(w:World)(hk:bB r A B X Y E vl vr w)(Z:am w (r+1) vl L):
 Kp 92 #[.pointer (some ⟨r,0,none⟩),ie,n,m] w (aY r vr w (iJ ⟨A,B,X,Y,E,L⟩ (be n m) n m)):=by
 have HA:=AY n m w;have HF:=h_ (λw1 e w2 (hb:Below w w w1) h=>@aY.turn r A B X Y E L vr vl w w1 w2 e (rs (be n m) n) (rs (be n m) m) n m (be n m) (λh=>by rw[h];exact⟨rfl,rfl⟩) Z hb h);generalize iJ _ _ _ _=R,rs (be n m) n=x at *;generalize rs (be n m) m=y at *;generalize be n m=b at *;have HM:=h_ (λW (k:bB r A B X Y E vl vr W)=>Bi r A B X Y E x y vl vr b W k);simp only[ie];go_enter Tryz.func92,Tryz.ntmps92;go_upto_region 3 with fail
 go_wp2_with fail
 refine (h_ HA).out.mono ?_;rintro e w1 ⟨rfl,I⟩;have⟨k9,ab⟩:=aw w1 #[x,y] 42;have aM:=af ab I.size I;go_upto_region 4 with fail
 exact F7
def MZ(r)(A B X Y E n m:Int)(L:aK)(vl vr)(w)(hE:dI r w)(hk:bB r A B X Y E vl vr w)(Z:am w (r+1) vl L):
 Kp 92 #[.pointer r,gV,n,m] w (aY r vr w (cf ⟨A,B,X,Y,E,L⟩ (jW n m) (kK n m))):=by
 have H1:=h_ ((D5 n m).2 w hE.env.1);have HF:=h_ (λw1 (hb:Below w w w1)=>@aY.told r vr vl ⟨A,B,X,Y,E,L⟩ (jW n m) (kK n m) w w1 hk Z hb);have H3:=h_ (uc (jW n m) (kK n m));generalize cf _ _ _=R,cD _ _=V,jW n m=S,kK n m=b at *;simp only[gV];go_enter Tryz.func92,Tryz.ntmps92;go_upto_region 6 with fail
 go_wp2_with fail
 refine H1.out.mono ?_;rintro e w1 ⟨rfl,I⟩;go_wp2_with fail
 refine (H3.out _).mono ?_;rintro e w5 ⟨rfl,rfl⟩;go_wp2;go_ret;exact HF.out w1 I
def Mf(r:Nat)(A B X Y E n m:Int)(L:aK)(vl vr:Value)(aa:CS.ok ⟨A,B,X,Y,E,L⟩)(w:World)(hk:bB r A B X Y E vl vr w)(Z:am w (r+1) vl L):
 Kp 92 #[.pointer (some ⟨r,0,none⟩),gX,n,m] w (aY r vr w (eY ⟨A,B,X,Y,E,L⟩ (js L ((A,B),n,m,0)))):=by
 have HD:=λW (hb:Below w.heap.size w W)=>Og (r+1) vl L ((A,B),n,m,0) aa.2.2 W (Z.below hb);simp only[cq] at HD;generalize js L ((A,B),n,m,0)=o at *;simp only[gX];obtain⟨a,F,rfl,_,_⟩:=Z.form;obtain⟨s0,s1,s2,s3,s4,s5⟩:=hk.q6;have sl:=hk.lt;rcases o with _|M
 .have HM:=h_ (λv W (k:bB r A B X Y E (.slice a L.length F) vr W)=>AP r A B X Y E (.slice a L.length F) vr v W k);have HF:=h_ (λw1 e w2 (hb:Below w.heap.size w w1) h=>@aY.stay r A B X Y E L vr (.slice a L.length F) w w1 w2 e 0 0 0 Z hb h);rw[show cY ⟨A,B,X,Y,E,L⟩ none=eY ⟨A,B,X,Y,E,L⟩ none from rfl] at HF;generalize eY ⟨A,B,X,Y,E,L⟩ none=R at *;have bb:=h_ HD;clear HD Z;go_enter Tryz.func92,Tryz.ntmps92;go_upto_region 8 with fail
  refine br [] (λ_=>false) (λ_=>True) (λ_=>True) k_ (trivial) ?_;refine aD ⟨w,ah.refl _ _,trivial⟩ [ae,ae,ae,ae,ae,ae,ae,ae,ae,ae,ae] 6 an aA ?_;refine aB 11 ?_;refine bG (some 49) (λv=>λw'=>∃x,v=.tuple #[x,false]) (λv=>λ_ _ h _=>h) (λw' hO _=>(bb.out w' hO.below).mono λe w2 ⟨x,h1,h2,h3⟩=>⟨_,h1,.of_below h3,x,rfl⟩) (λv hne=>?_);refine ao ?_;obtain⟨w8,b1,x,rfl⟩:=id hne;refine aD hne [ac,ac,ac,ac,ac,ac,ac,ac,ac,ac,ac,ac,ae,ae,ae,ae,ae] 0 (λ_ _ h _=>h) aA ?_;exact Gf
 .have hr:r<w.heap.size:=sl;have HF:=h_ (λv w1 e w2 (h0:am w1 w.heap.size v M) (hb:Below w.heap.size w w1) h=>@aY.keep r A B X Y E L M vr (.slice a L.length F) v w w1 w2 e h0 hr hb h);have HM:=h_ (λa2 n2 c2 W (k:bB r A B X Y E (.slice a L.length F) vr W)=>AQ r A B X Y E (.slice a L.length F) vr a2 n2 c2 true W k);generalize eY ⟨A,B,X,Y,E,L⟩ (some M)=R at *;have bb:=h_ HD;clear HD Z hr;go_enter Tryz.func92,Tryz.ntmps92;go_upto_region 8 with fail
  refine br [] (λ_=>false) (λ_=>True) (λ_=>True) k_ (trivial) ?_;refine aD ⟨w,ah.refl _ _,trivial⟩ [ae,ae,ae,ae,ae,ae,ae,ae,ae,ae,ae] 6 an aA ?_;refine aB 11 ?_;refine bG (some 49) (λv=>λw'=>∃x c,v=.tuple #[.slice x M.length c,true]/\am w' w.heap.size (.slice x M.length c) M) (λv=>λ_ _ ⟨x,c,h1,h2⟩ hb=>⟨x,c,h1,h2.below hb⟩) (λw' hO _=>(bb.out w' hO.below).mono λe w2 ⟨x,h1,h2,h3⟩=>by obtain⟨y,c,rfl,_,_⟩:=(h2 M rfl).form;exact⟨_,h1,.of_below h3,y,c,rfl,(h2 M rfl).le hO.size⟩) (λv hne=>?_);refine ao ?_;obtain⟨w8,b1,x,c,rfl,_⟩:=id hne;refine aD hne [ac,ac,ac,ac,ac,ac,ac,ac,ac,ac,ac,ac,ae,ae,ae,ae,ae] 0 (λ_ _ ⟨x,c,h1,h2⟩ hb=>⟨x,c,h1,h2.below hb⟩) aA ?_;exact KX
def Oe(r)(s:CS)(vl vr:Value)(n m:Int)(t)(h1:t≠ie)(h2:t≠gV)(h3:t≠gX)(w)(hk:bB r s.A s.B s.X s.Y s.E vl vr w)(Z:am w (r+1) vl s.L):
 Kp 92 #[.pointer r,t,n,m] w (aY r vr w (cC,s)):=by
 have HF:=h_ (@aY.same r vr vl s cC w w hk Z (.refl _ _));generalize (cC,s)=R at HF ⊢;unfold cC at HF;have g1:=bg h1;have g2:=bg h2;have g3:=bg h3;go_enter Tryz.func92,Tryz.ntmps92;go_wp2;go_ret;exact HF.out
def NX(r:Nat)(s:CS)(vl vr:Value)(n:Int)(t)(h1:t≠ic)(h2:t≠g_)(h3:t≠ia)(h4:t≠ib)(h5:t≠ig)(h6:t≠gZ)(w)(hk:bB r s.A s.B s.X s.Y s.E vl vr w)(Z:am w (r+1) vl s.L):
 Kp 91 #[.pointer r,t,n] w (aY r vr w (cC,s)):=by
 have HF:=h_ (@aY.same r vr vl s cC w w hk Z (.refl _ _));generalize (cC,s)=R at HF ⊢;unfold cC at HF;have g1:=bg h1;have g2:=bg h2;have g3:=bg h3;have g4:=bg h4;have g5:=bg h5;have g6:=bg h6;go_enter Tryz.func91,Tryz.ntmps91;go_wp2;go_ret;exact HF.out
def OP(r)(s:CS)(vl vr)(t)(h1:t≠iF)(h2:t≠iC)(h3:t≠iK)(h4:t≠iE)(h5:t≠iy)(h6:t≠iG)(h7:t≠iI)(h8:t≠iu)(w)(hk:bB r s.A s.B s.X s.Y s.E vl vr w)(Z:am w (r+1) vl s.L):
 Kp 86 #[.pointer r,t] w (aY r vr w (cC,s)):=by
 have HF:=h_ (@aY.same r vr vl s cC w w hk Z (.refl _ _));generalize (cC,s)=R at HF ⊢;unfold cC at HF;have g1:=bg h1;have g2:=bg h2;have g3:=bg h3;have g4:=bg h4;have g5:=bg h5;have g6:=bg h6;have g7:=bg h7;have g8:=bg h8;go_enter Tryz.func86,Tryz.ntmps86;go_wp2;go_ret;exact HF.out
def Ro(r)(s:CS)(vr)(t:aj)(aa:s.ok)(w)(hE:dI r w)(hk:dk r s vr w):
 Kp 86 #[.pointer r,t] w (aY r vr w (jh t s)):=by
 have⟨vl,hk,Z⟩:=hk;have⟨A,B,X,Y,E,L⟩:=s;simp only at hk Z;unfold jh;by_cases h1:t=iF
 .rw[Um h1];subst h1;exact Mz r A B X Y E L vl vr aa w hk Z
 rw[Uj h1];by_cases h2:t=iC
 .rw[Um h2];subst h2;exact Mk r A B X Y E L vl vr aa w hk Z
 rw[Uj h2];by_cases h3:t=iK
 .rw[Um h3];subst h3;exact M8 r A B X Y E L vl vr aa w hE hk Z
 rw[Uj h3];by_cases h4:t=iE
 .rw[Um h4];subst h4;exact MO r A B X Y E L vl vr aa w hE hk Z
 rw[Uj h4];by_cases h5:t=iy
 .rw[Um h5];subst h5;exact L7 r A B X Y E L vl vr aa w hE hk Z
 rw[Uj h5];by_cases h6:t=iG
 .rw[Um h6];subst h6;exact ND r A B X Y E L vl vr aa w hk Z
 rw[Uj h6];by_cases h7:t=iI
 .rw[Um h7];subst h7;exact Np r A B X Y E L vl vr aa w hE hk Z
 rw[Uj h7];by_cases h8:t=iu
 .rw[Um h8];subst h8;exact L5 r A B X Y E L vl vr aa w hE hk Z
 rw[Uj h8];exact OP r ⟨A,B,X,Y,E,L⟩ vl vr t h1 h2 h3 h4 h5 h6 h7 h8 w hk Z
def Qm(r)(s:CS)(vr)(t:aj)(n:Int)(aa:s.ok)(w)(hE:dI r w)(hk:dk r s vr w):
 Kp 91 #[.pointer r,t,n] w (aY r vr w (iz t n s)):=by
 have⟨vl,hk,Z⟩:=hk;have⟨A,B,X,Y,E,L⟩:=s;simp only at hk Z;unfold iz;by_cases h1:t=ic
 .rw[Um h1];subst h1;exact Mn r A B X Y E n L vl vr aa w hk Z
 rw[Uj h1];by_cases h2:t=g_
 .rw[Um h2];subst h2;exact Mx r A B X Y E n L vl vr aa w hk Z
 rw[Uj h2];by_cases h3:t=ia
 .rw[Um h3];subst h3;exact Mq r A B X Y E n L vl vr aa w hE hk Z
 rw[Uj h3];by_cases h4:t=ib
 .rw[Um h4];subst h4;exact Mo r A B X Y E n L vl vr aa w hE hk Z
 rw[Uj h4];by_cases h5:t=ig
 .rw[Um h5];subst h5;exact MI r A B X Y E n L vl vr aa w hE hk Z
 rw[Uj h5];by_cases h6:t=gZ
 .rw[Um h6];subst h6;exact Mj r A B X Y E n L vl vr aa w hE hk Z
 rw[Uj h6];exact NX r ⟨A,B,X,Y,E,L⟩ vl vr n t h1 h2 h3 h4 h5 h6 w hk Z
def Rf(r)(s:CS)(vr)(t:aj)(n m:Int)(aa:s.ok)(w)(hE:dI r w)(hk:dk r s vr w):
 Kp 92 #[.pointer r,t,n,m] w (aY r vr w (iA t n m s)):=by
 have⟨vl,hk,Z⟩:=hk;have⟨A,B,X,Y,E,L⟩:=s;simp only at hk Z;unfold iA;by_cases h1:t=ie
 .rw[Um h1];subst h1;exact Mu r A B X Y E n m L vl vr w hk Z
 rw[Uj h1];by_cases h2:t=gV
 .rw[Um h2];subst h2;exact MZ r A B X Y E n m L vl vr w hE hk Z
 rw[Uj h2];by_cases h3:t=gX
 .rw[Um h3];subst h3;exact Mf r A B X Y E n m L vl vr aa w hk Z
 rw[Uj h3];exact Oe r ⟨A,B,X,Y,E,L⟩ vl vr n m t h1 h2 h3 w hk Z
def ru(h:P:=by rw[UP (by have:=HM.out;omega)]):=h
def rK(h:P:=by have:=a6 x hx;omega):=h
def FB(h:P:=by simp only[b9.out];exact b5.out.trans h):=h
def vB(h:P:=by rw[b9.out];simp):=h
def vU(h:P:=by rw[<-hm,ax];rfl):=h
def sj(h:P:=by
 have cP:k<tl.length:=by rw[HM.out];exact b3
 have cy:(k:Int)<(m:Int):=o_;have hq:wr.cell? ⟨g,1+k,none⟩=some (.string tl[k]):=by
  have h9:=(HT.out.below (hS▸aL)).2 (k+1) (by rw[Uw];omega);rw[Wg 1 k];exact h9
 have H1:=h_ (HN.out tl[k] (UA cP) wr (hS▸aL));have a4:=h_ (λv2 w2 n Z hn=>a3.step (v2:=v2) (w2:=w2) (n:=n) cP Z hn);unfold cg at a4;generalize tl[k]=x at *;generalize eZ (List.take k tl)=b at *;clear a3 U;go_wp2_with fail
 refine H1.out.mono ?_;rintro e w1 ⟨v,rfl,⟨n,rfl,hn⟩,I⟩;have cA:S<=wr.heap.size:=hS▸aL.size;have H:=af I cA aL;have bz:=Z.below I;generalize cQ:(jn x.data.toList).isSome=so at *;have c1:=h_ cQ;have c0:=h_ hn;clear cQ hn H1 hq;obtain⟨a5,c5,rfl,_⟩:=Z.form;have cT:xs.length<1000000000000:=o_;have cF:=h_ ad;clear ad;have cb:S<=w1.heap.size:=Ui cA I.size;cases b
 all_goals
  go_wp2_with (at_builtin;refine fN (y:=n) rfl _ _ rfl S _ xs rfl bz rfl cT cb ?_;intro v' w4 bo K bY)
  refine⟨⟨k+1,xs++[n],by simp,by omega,H.trans K,a4.out v' w4 n bo c0.out⟩,?_⟩;simp [intOf];omega):=h
def JN(h:P:=by
 go_enter Tryz.func55,Tryz.ntmps55;go_upto_region 4 with fail
 go_loopw [22] (λiv wr=>iv=.int .i64 0/\wr=w) (λ_ _=>0)
 case atStart=>exact⟨rfl,rfl⟩
 case round=>
  obtain⟨rfl,rfl⟩:=hrel;go_wp2_with fail
  refine HP.out.mono ?_;rintro e w9 G;have HQ:=h_ G;obtain⟨rfl,_,_⟩:=G;go_wp2;go_ret;exact HQ.out):=h
def Im(h:P:=by
 have hb:eZ tl=false:=HA.out;obtain⟨vl,h1,h2⟩:=bs;have HX:=h_ (J.out (cC,s) _ wr (aY.same h1 h2 (.refl _ _)));clear x0 x1 h1 h2;go_wp2;go_ret;rw[HR.out];exact HX.out):=h
def rm(h:P:=by
 obtain⟨vl,h1,h2⟩:=hk;exact⟨vl,h1.below ba,h2.below ba⟩):=h
def vD(h:P:=by
 go_wp2;go_ret;rw[HR.out];exact HX.out):=h
def dP(g:Nat)(xs:bV)(w:World):Prop:=g<w.heap.size/\∀i (_:i<xs.length),w.cell? ⟨g,i,none⟩=some (.string xs[i])
def dP.below{g:Nat}{xs:bV}{w w':World}(h:dP g xs w)(hb:Below w.heap.size w w'):dP g xs w':=⟨Un h.1 hb.size,λi hi=>(hb.cell (p:=⟨g,i,none⟩) h.1).trans (h.2 i hi)⟩
noncomputable def cg(t:aj):Option Int:=jn t.data.toList
noncomputable def eZ(l:bV):Bool:=l.all λt=>(cg t).isSome
def nl(S:Nat)(tl:bV)(k:Nat)(v b:Value)(xs:List Int)(w:World):Prop:=
 aq w S v xs/\xs.length=k/\b=.bool (eZ (tl.take k))/\∀j (h:j<tl.length) m,j<k->cg tl[j]=some m->xs[j]?=some m
def nl.step{S:Nat}{tl:bV}{k:Nat}{v v2:Value}{b:Bool}{xs:List Int}{w w2:World}{n:Int}(h:nl S tl k v b xs w)(hk:k<tl.length)(Z:aq w2 S v2 (xs++[n]))(hn:∀m,cg tl[k]=some m->n=m):nl S tl (k+1) v2 (.bool (b&&(cg tl[k]).isSome)) (xs++[n]) w2:=by
 obtain⟨h1,h2,h3,h4⟩:=h;injection h3 with h3;refine⟨Z,by simp [h2],?_,λj hj m ad hm=>?_⟩
 .rw[h3];unfold eZ;rw[UL hk,List.all_append];simp
 .by_cases g:j<k
  .rw[VI o_];exact h4 j hj m g hm
  .obtain rfl:j=k:=by omega
   rw[Vk o_,h2,V7];exact congrArg some (hn m hm)
def dk.below{r:Nat}{s:CS}{vr:Value}{w w':World}(h:dk r s vr w)(hb:Below w.heap.size w w'):dk r s vr w':=by
 obtain⟨vl,h1,h2⟩:=h;exact⟨vl,h1.below hb,h2.below hb⟩
def aY.closed(r:Nat)(vr:Value)(w:World)(o:fd)(e:Ending):aQ (aY r vr w o e):=λ_ _ ⟨h1,h2,h3⟩ hb=>⟨h1,h2.next hb,h3.below hb⟩
def aY.ahead{r:Nat}{vr:Value}{w w1 w2:World}{o:fd}{e:Ending}(hb:Below w.heap.size w w1)(h:aY r vr w1 o e w2):∃v,e=.returned v/\ah [r] w1 w2/\aY r vr w o (.returned v) w2:=
 ⟨_,h.1,h.2.1,rfl,kf hb h.2.1,h.2.2⟩
def P2(r:Nat)(s:CS)(vr:Value)(t:aj)(g F:Nat)(aa:s.ok)(w:World)(hE:dI r w)(hk:dk r s vr w)(ht:dP g [t] w)(hc:1<=F):
 Kp 55 #[.pointer (some ⟨r,0,none⟩),.slice (some ⟨g,0,none⟩) 1 F] w (aY r vr w (jh t s)):=by
 have HP:=h_ (Ro r s vr t aa w hE hk);obtain⟨R,hR⟩:∃R,jh t s=R:=⟨_,rfl⟩
 rw[hR] at HP ⊢;have q0:w.cell? ⟨g,0,none⟩=some (.string t):=ht.2 0 s_;clear hE hk ht hR;by_cases aZ:F=1
 .subst aZ;exact JN
 .exact JN
def O4(r:Nat)(s:CS)(vr:Value)(t:aj)(tl:bV)(g F m:Nat)(R:fd)(hR:R=(cC,s))(hm:tl.length=m)(cc:3<=m)(cs:m<=3000)(a6:∀x∈tl,x.size<=10000)(aa:s.ok)(w:World)(hE:dI r w)(hk:dk r s vr w)(ht:dP g (t::tl) w)(hc:m+1<=F):
 Kp 55 #[.pointer (some ⟨r,0,none⟩),.slice (some ⟨g,0,none⟩) (m+1) F] w (aY r vr w R):=by
 have HR:=h_ hR;clear hR;cases co:(t.toList==[112,111,105,110,116])
 all_goals cases bp:(t.toList==[97,116])
 all_goals
  have HN:=h_ (λx (hx:x∈tl) W (hb:Below w.heap.size w W)=>qi x rK W (hE.env.below hb));have aZ:¬F=1:=o_;have HT:=h_ ht;have HM:=h_ hm;obtain⟨S,hS⟩:∃S,w.heap.size=S:=⟨_,rfl⟩
  have HS:=h_ hS;clear ht hm;go_enter Tryz.func55,Tryz.ntmps55;go_upto_region 4 with fail
  go_loopw [5,6,22] (λnv bv iv wr=>∃(k:Nat) (xs:List Int),iv=.int .i64 k/\k<=m/\Below S w wr/\nl S tl k nv bv xs wr) (λ_ _ iv _=>m - (intOf iv).toNat)
  case atStart=>exact⟨0,[],rfl,UB _,.refl _ _,aq.nil _ _,rfl,rfl,λj h m hj=>by omega⟩
  case round=>
   obtain⟨k,xs,rfl,cM,aL,a3⟩:=hrel;obtain⟨Z,ad,hb,U⟩:=id a3;subst hb;by_cases b3:k<m
   .exact sj
   .obtain rfl:k=m:=by omega
    have cz:¬(k:Int)<(k:Int):=o_;have ba:Below w.heap.size w wr:=hS▸aL;have b6:=HT.out.below ba;have bs:dk r s vr wr:=by
     exact rm
    have b8:=hE.below ba;have J:Hid (∀o e w2,aY r vr wr o e w2->aY r vr w o e w2):=h_ (λo e w2 ⟨h1,h2,h3⟩=>⟨h1,kf ba h2,h3⟩);have b0:r<S:=by obtain⟨vl,h1,_⟩:=hk;exact hS▸h1.lt
    clear hk hE HT HN Z U;obtain⟨Z,_,_,az⟩:=a3;have cF:=h_ ad;have V:Hid (eZ (List.take k tl)=eZ tl):=h_ ru;rw[V.out];obtain⟨a5,c5,rfl,b2⟩:=Z.form;clear V aL ba Z;have q0:wr.cell? ⟨g,0,none⟩=some (.string t):=b6.2 0 s_;have m0:((k:Int)==0)=false:=by rw[Uz];omega
    have m1:((k:Int)==1)=false:=by rw[Uz];omega
    have m2:((k:Int)==2)=false:=by rw[Uz];omega
    clear ad az;generalize eZ tl=b at *;obtain⟨vl,h1,h2⟩:=bs;have HX:=h_ (J.out (cC,s) _ wr (aY.same h1 h2 (.refl _ _)));cases b
    all_goals
     exact vD
def Oi(r:Nat)(s:CS)(vr:Value)(t u u2:aj)(tl:bV)(ax:tl=[u,u2])(g F m:Nat)(R:fd)(hR:R=match cg u,cg u2 with|some a,some b=>iA t a b s|_,_=>(cC,s))(hm:tl.length=m)(a6:∀x∈tl,x.size<=10000)(aa:s.ok)(w:World)(hE:dI r w)(hk:dk r s vr w)(ht:dP g (t::tl) w)(hc:m+1<=F):
 Kp 55 #[.pointer (some ⟨r,0,none⟩),.slice (some ⟨g,0,none⟩) (m+1) F] w (aY r vr w R):=by
 have cs:m<=3000:=by rw[<-hm,ax];simp
 have cc:1<=m:=by rw[<-hm,ax];simp
 have bZ:Hid (m=2):=h_ vU;have b9:=h_ ax;clear ax;obtain⟨o1,bz⟩:∃o,cg u=o:=⟨_,rfl⟩
 obtain⟨o2,bb⟩:∃o,cg u2=o:=⟨_,rfl⟩
 rw[bz,bb] at hR;have b5:=h_ bz;have b7:=h_ bb;have HR:=h_ hR;clear hR bz bb;cases co:(t.toList==[112,111,105,110,116])
 all_goals cases bp:(t.toList==[97,116])
 all_goals
  have HN:=h_ (λx (hx:x∈tl) W (hb:Below w.heap.size w W)=>qi x rK W (hE.env.below hb));have aZ:¬F=1:=o_;have HT:=h_ ht;have HM:=h_ hm;obtain⟨S,hS⟩:∃S,w.heap.size=S:=⟨_,rfl⟩
  have HS:=h_ hS;clear ht hm;go_enter Tryz.func55,Tryz.ntmps55;go_upto_region 4 with fail
  go_loopw [5,6,22] (λnv bv iv wr=>∃(k:Nat) (xs:List Int),iv=.int .i64 k/\k<=m/\Below S w wr/\nl S tl k nv bv xs wr) (λ_ _ iv _=>m - (intOf iv).toNat)
  case atStart=>exact⟨0,[],rfl,UB _,.refl _ _,aq.nil _ _,rfl,rfl,λj h m hj=>by omega⟩
  case round=>
   obtain⟨k,xs,rfl,cM,aL,a3⟩:=hrel;obtain⟨Z,ad,hb,U⟩:=id a3;subst hb;by_cases b3:k<m
   .exact sj
   .obtain rfl:k=m:=by omega
    have cz:¬(k:Int)<(k:Int):=o_;have ba:Below w.heap.size w wr:=hS▸aL;have b6:=HT.out.below ba;have bs:dk r s vr wr:=by
     exact rm
    have b8:=hE.below ba;have J:Hid (∀o e w2,aY r vr wr o e w2->aY r vr w o e w2):=h_ (λo e w2 ⟨h1,h2,h3⟩=>⟨h1,kf ba h2,h3⟩);have b0:r<S:=by obtain⟨vl,h1,_⟩:=hk;exact hS▸h1.lt
    clear hk hE HT HN Z U;obtain⟨Z,_,_,az⟩:=a3;have cF:=h_ ad;have V:Hid (eZ (List.take k tl)=eZ tl):=h_ ru;rw[V.out];obtain⟨a5,c5,rfl,b2⟩:=Z.form;clear V aL ba Z;have q0:wr.cell? ⟨g,0,none⟩=some (.string t):=b6.2 0 s_;have aF:k=2:=bZ.out;have m0:((k:Int)==0)=false:=by rw[Uz];omega
    have m1:((k:Int)==1)=false:=by rw[Uz];omega
    have m2:((k:Int)==2)=true:=by rw[VC];omega
    have l0:(0:Int)<(k:Int):=o_;have l1:(1:Int)<(k:Int):=o_;obtain⟨g5,rfl,x0,a9,a8⟩:=b2 0 o_;have bi:g5≠r:=o_;obtain⟨g6,e6,x1,_,_⟩:=b2 1 o_;injection e6 with e6;injection e6 with e6;subst e6;have HA:Hid (eZ tl=(o1.isSome&&o2.isSome)):=h_ (by rw[b9.out];unfold eZ;simp [b5.out,b7.out]);have aG:∀a,o1=some a->xs[0]?=some a:=λa h=>az 0 vB a o_ FB;have cB:∀a,o2=some a->xs[1]?=some a:=λa h=>az 1 vB a o_ (by simp only[b9.out];exact b7.out.trans h);have aM:=h_ aG;have ab:=h_ cB;clear ad az aG cB aF b2;rcases o1 with _|a1
    .exact Im
    .rcases o2 with _|a2
     .exact Im
     .have hb:eZ tl=true:=HA.out;rw[aM.out a1 rfl] at x0;rw[ab.out a2 rfl] at x1;simp only[WG] at x0 x1;have HC:=h_ (λW (hb:Below wr.heap.size wr W)=>Rf r s vr t a1 a2 aa W (b8.below hb) (bs.below hb));clear bs b8;go_upto_region 27 with fail
      refine br [r] (λ_=>false) (λ_=>True) (λw'=>Below wr.heap.size wr w') k_ ((Uk _ _).drew) ?_;refine aD ⟨wr.drew,(ah.refl _ _).drew,(Uk _ _).drew⟩ [ae,ae,ae,ae,ae,ae,ae,ae] 2 (bn wr) aA ?_;refine aB 8 ?_;refine bG (some 133) (λv=>λw'=>aY r vr wr (iA t a1 a2 s) (.returned v) w') (λv=>aY.closed _ _ _ _ _) (λw' hO hD=>(HC.out w' hD).mono λe w2 h=>aY.ahead hD h) (λv hne=>?_);refine ao ?_;refine aD hne [ac,ac,ac,ac,ac,ac,ac,ac,ac,ae] 0 (aY.closed _ _ _ _ _) aA ?_;refine cV λWz a7 aX=>?_
      try dsimp only
      have HX:=h_ (J.out _ _ _ aX);clear x0 x1 a7 aX hne;exact vD
def Jh(h:P:=by
 try simp only[Value.cells]
 refine aD hne [ac,ac,ac,ac,ac,ac,ac,ac,ac,ac,ac,ac,ac,ae] 0 (KD.closed (bn wr) _) aA ?_;refine jc k_ (λWz a7 aX=>?_) _;exact bp ab Wz ⟨a7,aX.1,o_,aX.2.head⟩):=h
def K9(h:P:=by
 refine aR [12] ?_;refine ak.cons ?_ ?_
 .refine fk (v:=.agg #[(),(),()]) [] [] (.inl c6) (bn wr) (λ_ _ h Z=>Z.belowGe h h.size ii) s_ (λhne=>?_);exact Jh
 exact ak.nil):=h
def Ko(h:P:=by
 refine aR [12] ?_;refine ak.cons ?_ ?_
 .refine fk (v:=.agg #[x,y,z]) [] [] (.inl c6) (bn wr) (λ_ _ h Z=>Z.belowGe h h.size ii) s_ (λhne=>?_);exact Jh
 exact ak.nil):=h
def FN(h:P:=by
 try dsimp only
 rintro rM W3 ⟨bi,_,b4,kM⟩;have aM:=bi.below;obtain⟨a8,bx,cu⟩:=kM.q3;have bX:=kM.lt;clear s0 s1 s2 s3 s4 s5 bi;go_wp2_with fail
 refine (b7.out W3 (hk.below aM)).mono ?_;intro e w9 G;have HP:=h_ (HF.out W3 e w9 aM G);exact uR):=h
def FE(h:P:=by
 have h9:=b6.2 1 vB;simp only[b9.out] at h9;exact h9):=h
def yr{l:List UInt8}{p:Int×Int}(h:bu l=some p):bJ p.1 p.2=true:=by
 unfold bu at h;split at h
 .rename_i hx;injection h with h;rw[<-h];exact hx.choose_spec.1
 .cases h
def QA(r:Nat)(s:CS)(vr:Value)(t u:aj)(tl:bV)(ax:tl=[u])(g F m:Nat)(ab:t≠wPoint)(ac:t≠wAt)(R:fd)(hR:R=match cg u with|some n=>iz t n s|none=>(cC,s))(hm:tl.length=m)(a6:∀x∈tl,x.size<=10000)(aa:s.ok)(w:World)(hE:dI r w)(hk:dk r s vr w)(ht:dP g (t::tl) w)(hc:m+1<=F):
 Kp 55 #[.pointer (some ⟨r,0,none⟩),.slice (some ⟨g,0,none⟩) (m+1) F] w (aY r vr w R):=by
 have co:(t.toList==[112,111,105,110,116])=false:=bg ab;have bp:(t.toList==[97,116])=false:=bg ac;obtain⟨o1,bz⟩:∃o,cg u=o:=⟨_,rfl⟩
 rw[bz] at hR;have b5:=h_ bz;clear bz ab ac;have cs:m<=3000:=by rw[<-hm,ax];simp
 have cc:1<=m:=by rw[<-hm,ax];simp
 have bZ:Hid (m=1):=h_ vU;have b9:=h_ ax;clear ax;have HR:=h_ hR;clear hR;have HN:=h_ (λx (hx:x∈tl) W (hb:Below w.heap.size w W)=>qi x rK W (hE.env.below hb));have aZ:¬F=1:=o_;have HT:=h_ ht;have HM:=h_ hm;obtain⟨S,hS⟩:∃S,w.heap.size=S:=⟨_,rfl⟩
 have HS:=h_ hS;clear ht hm;go_enter Tryz.func55,Tryz.ntmps55;go_upto_region 4 with fail
 go_loopw [5,6,22] (λnv bv iv wr=>∃(k:Nat) (xs:List Int),iv=.int .i64 k/\k<=m/\Below S w wr/\nl S tl k nv bv xs wr) (λ_ _ iv _=>m - (intOf iv).toNat)
 case atStart=>exact⟨0,[],rfl,UB _,.refl _ _,aq.nil _ _,rfl,rfl,λj h m hj=>by omega⟩
 case round=>
  obtain⟨k,xs,rfl,cM,aL,a3⟩:=hrel;obtain⟨Z,ad,hb,U⟩:=id a3;subst hb;by_cases b3:k<m
  .exact sj
  .obtain rfl:k=m:=by omega
   have cz:¬(k:Int)<(k:Int):=o_;have ba:Below w.heap.size w wr:=hS▸aL;have b6:=HT.out.below ba;have bs:dk r s vr wr:=by
    exact rm
   have b8:=hE.below ba;have J:Hid (∀o e w2,aY r vr wr o e w2->aY r vr w o e w2):=h_ (λo e w2 ⟨h1,h2,h3⟩=>⟨h1,kf ba h2,h3⟩);have b0:r<S:=by obtain⟨vl,h1,_⟩:=hk;exact hS▸h1.lt
   clear hk hE HT HN Z U;obtain⟨Z,_,_,az⟩:=a3;have cF:=h_ ad;have V:Hid (eZ (List.take k tl)=eZ tl):=h_ ru;rw[V.out];obtain⟨a5,c5,rfl,b2⟩:=Z.form;clear V aL ba Z;have q0:wr.cell? ⟨g,0,none⟩=some (.string t):=b6.2 0 s_;have aF:k=1:=bZ.out;have m0:((k:Int)==0)=false:=by rw[Uz];omega
   have m1:((k:Int)==1)=true:=by rw[VC];omega
   have m2:((k:Int)==2)=false:=by rw[Uz];omega
   have l0:(0:Int)<(k:Int):=o_;have l1:(1:Int)<(k:Int)+1:=o_;obtain⟨g5,rfl,x0,a9,a8⟩:=b2 0 o_;have HA:Hid (eZ tl=o1.isSome):=h_ (by rw[b9.out];unfold eZ;simp [b5.out]);have aG:∀a,o1=some a->xs[0]?=some a:=λa h=>az 0 vB a o_ FB;have aM:=h_ aG;clear ad az aG aF b2;rcases o1 with _|a1
   .have hb:eZ tl=false:=HA.out;obtain⟨vl,h1,h2⟩:=bs;have HX:=h_ (J.out (cC,s) _ wr (aY.same h1 h2 (.refl _ _)));clear x0 h1 h2;exact vD
   .have hb:eZ tl=true:=HA.out;rw[aM.out a1 rfl] at x0;simp only[WG] at x0;have HC:=h_ (Qm r s vr t a1 aa wr b8 bs);clear bs b8;go_wp2_with fail
    refine HC.out.mono ?_;intro e w9 G;have HX:=h_ (J.out _ _ _ G);obtain⟨rfl,_,_⟩:=G;clear x0;exact vD
def Ow(r:Nat)(s:CS)(vr:Value)(u:aj)(tl:bV)(ax:tl=[u])(g F m:Nat)(R:fd)(hR:R=cY s (dM s.A s.B u.data.toList))(hm:tl.length=m)(a6:∀x∈tl,x.size<=10000)(aa:s.ok)(w:World)(hE:dI r w)(hk:dk r s vr w)(ht:dP g (wPoint::tl) w)(hc:m+1<=F):
 Kp 55 #[.pointer (some ⟨r,0,none⟩),.slice (some ⟨g,0,none⟩) (m+1) F] w (aY r vr w R):=by
 obtain⟨t,a1⟩:∃t,t=wPoint:=⟨_,rfl⟩
 rw[<-a1] at ht;have co:(t.toList==[112,111,105,110,116])=true:=by rw[a1,Uy];rfl
 clear a1;have hu:u.size<=10000:=a6 u (by rw[ax];simp);have a9:Hid (tl=[u]):=h_ ax;have cs:m<=3000:=by rw[<-hm,ax];simp
 have cc:1<=m:=by rw[<-hm,ax];simp
 have bZ:Hid (m=1):=h_ vU;have b9:=h_ ax;clear ax;have HR:=h_ hR;clear hR;have hC:=aa.1;obtain⟨o,bz⟩:∃o,dM s.A s.B u.data.toList=o:=⟨_,rfl⟩
 have b5:=h_ bz;clear bz;have HN:=h_ (λx (hx:x∈tl) W (hb:Below w.heap.size w W)=>qi x rK W (hE.env.below hb));have aZ:¬F=1:=o_;have HT:=h_ ht;have HM:=h_ hm;obtain⟨S,hS⟩:∃S,w.heap.size=S:=⟨_,rfl⟩
 have HS:=h_ hS;clear ht hm;go_enter Tryz.func55,Tryz.ntmps55;go_upto_region 4 with fail
 go_loopw [5,6,22] (λnv bv iv wr=>∃(k:Nat) (xs:List Int),iv=.int .i64 k/\k<=m/\Below S w wr/\nl S tl k nv bv xs wr) (λ_ _ iv _=>m - (intOf iv).toNat)
 case atStart=>exact⟨0,[],rfl,UB _,.refl _ _,aq.nil _ _,rfl,rfl,λj h m hj=>by omega⟩
 case round=>
  obtain⟨k,xs,rfl,cM,aL,a3⟩:=hrel;obtain⟨Z,ad,hb,U⟩:=id a3;subst hb;by_cases b3:k<m
  .exact sj
  .obtain rfl:k=m:=by omega
   have cz:¬(k:Int)<(k:Int):=o_;have ba:Below w.heap.size w wr:=hS▸aL;have b6:=HT.out.below ba;have bs:dk r s vr wr:=by
    exact rm
   have b8:=hE.below ba;have J:Hid (∀o e w2,aY r vr wr o e w2->aY r vr w o e w2):=h_ (λo e w2 ⟨h1,h2,h3⟩=>⟨h1,kf ba h2,h3⟩);have b0:r<S:=by obtain⟨vl,h1,_⟩:=hk;exact hS▸h1.lt
   clear hk hE HT HN Z U;obtain⟨Z,_,_,az⟩:=a3;have cF:=h_ ad;have V:Hid (eZ (List.take k tl)=eZ tl):=h_ ru;rw[V.out];obtain⟨a5,c5,rfl,b2⟩:=Z.form;clear V aL ba Z;have q0:wr.cell? ⟨g,0,none⟩=some (.string t):=b6.2 0 s_;have aF:k=1:=bZ.out;have m0:((k:Int)==0)=false:=by rw[Uz];omega
   have m1:((k:Int)==1)=true:=by rw[VC];omega
   have m2:((k:Int)==2)=false:=by rw[Uz];omega
   have l0:(0:Int)<(k:Int):=o_;have l1:(1:Int)<(k:Int)+1:=o_;have q1:wr.cell? ⟨g,1,none⟩=some (.string u):=by
    exact FE
   have bq:=b6.1;obtain⟨vl,hk,Z⟩:=bs;obtain⟨A,B,X,Y,E,L⟩:=s;simp only at hk Z hC b5 HR;obtain⟨s0,s1,s2,s3,s4,s5⟩:=hk.q6;have sl:=hk.lt;have HA:=λW (hb:Below wr.heap.size wr W)=>MK A B u hC o_ W (b8.env.below hb);rw[b5.out] at HA;clear ad az aF b2;rcases o with _|⟨x,y,z⟩
   .have a2:=h_ HA;have b7:=h_ (λW (k:bB r A B X Y E vl vr W)=>mH r A B X Y E 0 0 0 vl vr false W k);have HF:Hid (∀w1 e w2,Below wr.heap.size wr w1->fG r (cD eW false) (if false then bB r A B 0 0 0 vl vr else bB r A B X Y E vl vr) w1 e w2->aY r vr w R e w2):=h_ (λw1 e w2 hb h=>by rw[HR.out,b5.out];exact J.out _ _ _ (@aY.stay r A B X Y E L vr vl wr w1 w2 e 0 0 0 Z hb h));clear HA Z;go_upto_region 14 with fail
    apply fO (λab Wz=>ah [] wr Wz/\(λw'=>Below wr.heap.size wr w') Wz/\wr.heap.size<=ab/\ag ab #[(),(),()] 46 Wz)
    .intro bp;refine br [] (λ_=>false) (λ_=>True) (KD (λw'=>Below wr.heap.size wr w') []) k_ ⟨(bn wr) _ _ (Uk _ _) ((Uk _ _).drew),bR.nil _⟩ ?_;refine aD ⟨wr,ah.refl _ _,Uk _ _,bR.nil _⟩ [ae,ae,ae,ae,ae,ae,ae] 7 (KD.closed (bn wr) _) aA ?_;refine aR [7,11] ?_;refine ak.cons ?_ ?_
     .refine dY (v:=.tuple #[.agg #[(),(),()],false]) (some 67) (λw'=>Below wr.heap.size wr w') (bn wr) (λ_ _=>by simp) (λw' hC=>(a2.out w' hC).mono λ_ _ h=>⟨h.1,.of_below h.2,af h.2 hC.size hC⟩) (λhne=>?_);refine ao ?_;refine aD hne [ac,ac,ac,ac,ac,ac,ac,ac,ae,ae,ae] 3 (KD.closed (bn wr) _) aA ?_;refine aR [11] ?_;refine ak.cons ?_ ?_
      .refine dm (zs:=#[(),(),()]) (T:=46) (bn wr) (λab c6 aG hne=>?_);refine ao ?_;exact K9
      exact ak.nil
     refine ak.cons ?_ ?_
     .refine dm (zs:=#[(),(),()]) (T:=46) (bn wr) (λab c6 aG hne=>?_);refine ao ?_;refine aR [7] ?_;refine ak.cons ?_ ?_
      .refine dY (v:=.tuple #[.agg #[(),(),()],false]) (some 67) (λw'=>Below wr.heap.size wr w') (bn wr) (λ_ _=>by simp) (λw' hC=>(a2.out w' hC).mono λ_ _ h=>⟨h.1,.of_below h.2,af h.2 hC.size hC⟩) (λhne=>?_);refine ao ?_;refine aD hne [ac,ac,ac,ac,ac,ac,ac,ac,ae,ae,ae] 2 (KD.closed (bn wr) _) aA ?_;exact K9
      exact ak.nil
     exact ak.nil
    exact FN
   .have a2:=h_ HA;have b7:=h_ (λW (k:bB r A B X Y E vl vr W)=>mH r A B X Y E x y z vl vr true W k);have HF:Hid (∀w1 e w2,Below wr.heap.size wr w1->fG r (cD eW true) (if true then bB r A B x y z vl vr else bB r A B X Y E vl vr) w1 e w2->aY r vr w R e w2):=h_ (λw1 e w2 hb h=>by rw[HR.out,b5.out];exact J.out _ _ _ (@aY.move r A B X Y E L vr vl wr w1 w2 e x y z Z hb h));clear HA Z;go_upto_region 14 with fail
    apply fO (λab Wz=>ah [] wr Wz/\(λw'=>Below wr.heap.size wr w') Wz/\wr.heap.size<=ab/\ag ab #[x,y,z] 46 Wz)
    .intro bp;refine br [] (λ_=>false) (λ_=>True) (KD (λw'=>Below wr.heap.size wr w') []) k_ ⟨(bn wr) _ _ (Uk _ _) ((Uk _ _).drew),bR.nil _⟩ ?_;refine aD ⟨wr,ah.refl _ _,Uk _ _,bR.nil _⟩ [ae,ae,ae,ae,ae,ae,ae] 7 (KD.closed (bn wr) _) aA ?_;refine aR [7,11] ?_;refine ak.cons ?_ ?_
     .refine dY (v:=.tuple #[.agg #[x,y,z],true]) (some 67) (λw'=>Below wr.heap.size wr w') (bn wr) (λ_ _=>by simp) (λw' hC=>(a2.out w' hC).mono λ_ _ h=>⟨h.1,.of_below h.2,af h.2 hC.size hC⟩) (λhne=>?_);refine ao ?_;refine aD hne [ac,ac,ac,ac,ac,ac,ac,ac,ae,ae,ae] 3 (KD.closed (bn wr) _) aA ?_;refine aR [11] ?_;refine ak.cons ?_ ?_
      .refine dm (zs:=#[(),(),()]) (T:=46) (bn wr) (λab c6 aG hne=>?_);refine ao ?_;exact Ko
      exact ak.nil
     refine ak.cons ?_ ?_
     .refine dm (zs:=#[(),(),()]) (T:=46) (bn wr) (λab c6 aG hne=>?_);refine ao ?_;refine aR [7] ?_;refine ak.cons ?_ ?_
      .refine dY (v:=.tuple #[.agg #[x,y,z],true]) (some 67) (λw'=>Below wr.heap.size wr w') (bn wr) (λ_ _=>by simp) (λw' hC=>(a2.out w' hC).mono λ_ _ h=>⟨h.1,.of_below h.2,af h.2 hC.size hC⟩) (λhne=>?_);refine ao ?_;refine aD hne [ac,ac,ac,ac,ac,ac,ac,ac,ae,ae,ae] 2 (KD.closed (bn wr) _) aA ?_;exact Ko
      exact ak.nil
     exact ak.nil
    exact FN
def Rq(r:Nat)(s:CS)(vr:Value)(u:aj)(tl:bV)(ax:tl=[u])(g F m:Nat)(R:fd)(hR:R=ir u s)(hm:tl.length=m)(a6:∀x∈tl,x.size<=10000)(aa:s.ok)(w:World)(hE:dI r w)(hk:dk r s vr w)(ht:dP g (wAt::tl) w)(hc:m+1<=F):
 Kp 55 #[.pointer (some ⟨r,0,none⟩),.slice (some ⟨g,0,none⟩) (m+1) F] w (aY r vr w R):=by
 obtain⟨t,a1⟩:∃t,t=wAt:=⟨_,rfl⟩
 rw[<-a1] at ht;have co:(t.toList==[112,111,105,110,116])=false:=by rw[a1,Uy];rfl
 have bp:(t.toList==[97,116])=true:=by rw[a1,Uy];rfl
 clear a1;have hu:u.size<=10000:=a6 u (by rw[ax];simp);have cs:m<=3000:=by rw[<-hm,ax];simp
 have cc:1<=m:=by rw[<-hm,ax];simp
 have bZ:Hid (m=1):=h_ vU;have b9:=h_ ax;clear ax;have HR:=h_ hR;clear hR;have hC:=aa.1;obtain⟨o,bz⟩:∃o,bu u.data.toList=o:=⟨_,rfl⟩
 have b5:=h_ bz;have cX:Hid (∀p,o=some p->bJ p.1 p.2=true):=h_ (λp h=>yr (bz.trans h));clear bz;have HN:=h_ (λx (hx:x∈tl) W (hb:Below w.heap.size w W)=>qi x rK W (hE.env.below hb));have aZ:¬F=1:=o_;have HT:=h_ ht;have HM:=h_ hm;obtain⟨S,hS⟩:∃S,w.heap.size=S:=⟨_,rfl⟩
 have HS:=h_ hS;clear ht hm;go_enter Tryz.func55,Tryz.ntmps55;go_upto_region 4 with fail
 go_loopw [5,6,22] (λnv bv iv wr=>∃(k:Nat) (xs:List Int),iv=.int .i64 k/\k<=m/\Below S w wr/\nl S tl k nv bv xs wr) (λ_ _ iv _=>m - (intOf iv).toNat)
 case atStart=>exact⟨0,[],rfl,UB _,.refl _ _,aq.nil _ _,rfl,rfl,λj h m hj=>by omega⟩
 case round=>
  obtain⟨k,xs,rfl,cM,aL,a3⟩:=hrel;obtain⟨Z,ad,hb,U⟩:=id a3;subst hb;by_cases b3:k<m
  .exact sj
  .obtain rfl:k=m:=by omega
   have cz:¬(k:Int)<(k:Int):=o_;have ba:Below w.heap.size w wr:=hS▸aL;have b6:=HT.out.below ba;have bs:dk r s vr wr:=by
    exact rm
   have b8:=hE.below ba;have J:Hid (∀o e w2,aY r vr wr o e w2->aY r vr w o e w2):=h_ (λo e w2 ⟨h1,h2,h3⟩=>⟨h1,kf ba h2,h3⟩);have b0:r<S:=by obtain⟨vl,h1,_⟩:=hk;exact hS▸h1.lt
   clear hk hE HT HN Z U;obtain⟨Z,_,_,az⟩:=a3;have cF:=h_ ad;have V:Hid (eZ (List.take k tl)=eZ tl):=h_ ru;rw[V.out];obtain⟨a5,c5,rfl,b2⟩:=Z.form;clear V aL ba Z;have q0:wr.cell? ⟨g,0,none⟩=some (.string t):=b6.2 0 s_;have aF:k=1:=bZ.out;have m0:((k:Int)==0)=false:=by rw[Uz];omega
   have m1:((k:Int)==1)=true:=by rw[VC];omega
   have m2:((k:Int)==2)=false:=by rw[Uz];omega
   have l0:(0:Int)<(k:Int):=o_;have l1:(1:Int)<(k:Int)+1:=o_;have q1:wr.cell? ⟨g,1,none⟩=some (.string u):=by
    exact FE
   have bq:=b6.1;obtain⟨vl,hk,Z⟩:=bs;obtain⟨A,B,X,Y,E,L⟩:=s;simp only at hk Z hC HR;have HA:=wt u o_ wr b8.env;rw[b5.out] at HA;clear ad az aF b2;rcases o with _|⟨a,b⟩
   .simp only[oB] at HA;have a2:=h_ HA;clear HA;have HX:=h_ (λw2 (hb:Below wr.heap.size wr w2)=>J.out (cC,⟨A,B,X,Y,E,L⟩) _ w2 (@aY.same r vr vl ⟨A,B,X,Y,E,L⟩ cC wr w2 hk Z hb));clear hk Z;go_upto_region 17 with fail
    go_wp2_with fail
    refine a2.out.mono ?_;rintro e w1 ⟨rfl,I⟩;obtain⟨k9,ab⟩:=aw w1 #[(),()] 96;have aM:=af ab I.size I;go_upto_region 18 with fail
    clear ab q1;generalize w1.alloc _=W3 at *;generalize w1.heap.size=rN at *;go_wp2;go_ret;rw[HR.out,show ir u ⟨A,B,X,Y,E,L⟩=(cC,⟨A,B,X,Y,E,L⟩) from by unfold ir;rw[b5.out]];exact HX.out _ aM
   .simp only[oB] at HA;have a2:=h_ HA;clear HA;have HP:=h_ (ML A B a b hC (cX.out _ rfl));have bx:Hid (R=cY ⟨A,B,X,Y,E,L⟩ (jt A B a b).head?):=h_ (by rw[HR.out];unfold ir;rw[b5.out]);generalize jt A B a b=PL at *;generalize kb a b=pb at *;rcases PL with _|⟨⟨x,y,z⟩,rest⟩
    .have HX:=h_ (λw2 (hb:Below wr.heap.size wr w2)=>J.out (np,⟨A,B,X,Y,E,L⟩) _ w2 (@aY.same r vr vl ⟨A,B,X,Y,E,L⟩ np wr w2 hk Z hb));have aG:=λW (hb:Below wr.heap.size wr W)=>hk.below hb;clear Z;go_upto_region 17 with fail
     go_wp2_with fail
     refine a2.out.mono ?_;rintro e w1 ⟨rfl,I⟩;obtain⟨k9,ab⟩:=aw w1 #[a,b] 96;have aM:=af ab I.size I;go_upto_region 18 with fail
     clear ab q1;generalize w1.alloc _=W3 at *;generalize w1.heap.size=rN at *;have cu:=aG _ aM;obtain⟨s0,s1,s2,s3,s4,s5⟩:=cu.q6;have sl:=cu.lt;obtain⟨cB,cv⟩:=k9.q2;have cG:=k9.lt;clear aG hk cu;go_upto_region 20 with fail
     refine br [] (λ_=>false) (λ_=>True) (λ_=>True) k_ (trivial) ?_;refine aD ⟨W3,ah.refl _ _,trivial⟩ [ae,ae,ae,ae,ae] 6 an aA ?_;refine aB 5 ?_;refine bG (some 96) (λv=>λw'=>∃c:bT×Nat,v=.tuple #[.slice c.1 0 c.2,pb]) (λv=>λ_ _ h _=>h) (λw' hO _=>(HP.out w').mono λe w2 ⟨v,h1,h2,h3⟩=>by obtain⟨x,c,rfl,_⟩:=h2.form;exact⟨_,h1,.of_below h3,(x,c),rfl⟩) (λv hne=>?_);refine ao ?_;obtain⟨w8,b1,⟨x8,c8⟩,rfl⟩:=id hne;refine aD hne [ac,ac,ac,ac,ac,ac,ae,ae,ae,ae,ae] 0 (λ_ _ h _=>h) aA ?_;refine cV λWz a7 aX=>?_
     try dsimp only
     have bi:=af a7.below aM.size aM;clear aX hne b1 a7 s0 s1 s2 s3 s4 s5 cB cv cG;go_wp2;go_ret;rw[bx.out];exact HX.out _ bi
    .have b7:=h_ (λW (k:bB r A B X Y E vl vr W)=>mH r A B X Y E x y z vl vr true W k);have HF:Hid (∀w1 e w2,Below wr.heap.size wr w1->fG r (cD eW true) (if true then bB r A B x y z vl vr else bB r A B X Y E vl vr) w1 e w2->aY r vr w R e w2):=h_ (λw1 e w2 hb h=>by rw[bx.out];exact J.out _ _ _ (@aY.move r A B X Y E L vr vl wr w1 w2 e x y z Z hb h));clear Z;go_upto_region 17 with fail
     go_wp2_with fail
     refine a2.out.mono ?_;rintro e w1 ⟨rfl,I⟩;obtain⟨k9,ab⟩:=aw w1 #[a,b] 96;have aM:=af ab I.size I;go_upto_region 18 with fail
     clear ab q1;generalize w1.alloc _=W3 at *;generalize w1.heap.size=rN at *;have cu:=hk.below aM;obtain⟨s0,s1,s2,s3,s4,s5⟩:=cu.q6;have sl:=cu.lt;obtain⟨cB,cv⟩:=k9.q2;have cG:=k9.lt;generalize b4:(x,y,z)::rest=PL at *;have ca:(0:Int)<(PL.length:Int):=by rw[<-b4];simp
     have c6:((PL.length:Int)==0)=false:=by rw[Uz];omega
     go_upto_region 20 with fail
     refine br [] (λ_=>false) (λ_=>True) (λ_=>True) k_ (trivial) ?_;refine aD ⟨W3,ah.refl _ _,trivial⟩ [ae,ae,ae,ae,ae] 6 an aA ?_;refine aB 5 ?_;refine bG (some 96) (λv=>λw'=>∃c:bT×Nat,v=.tuple #[.slice c.1 PL.length c.2,pb]/\bD w' W3.heap.size (.slice c.1 PL.length c.2) PL) (λv=>λ_ _ ⟨c,h1,h2⟩ hb=>⟨c,h1,h2.below hb⟩) (λw' hO _=>(HP.out w').mono λe w2 ⟨v,h1,h2,h3⟩=>by obtain⟨x,c,rfl,_⟩:=h2.form;exact⟨_,h1,.of_below h3,(x,c),rfl,h2.le hO.size⟩) (λv hne=>?_);refine ao ?_;obtain⟨w8,b1,⟨x8,c8⟩,rfl,_⟩:=id hne;refine aD hne [ac,ac,ac,ac,ac,ac,ae,ae,ae,ae,ae] 0 (λ_ _ ⟨c,h1,h2⟩ hb=>⟨c,h1,h2.below hb⟩) aA ?_;refine cV λWz a7 aX=>?_
     try dsimp only
     have bi:=af a7.below aM.size aM;obtain⟨c',bb,bX⟩:=aX;have h3:x8=c'.1/\c8=c'.2:=by simpa using bb
     rw[<-h3.1,<-h3.2] at bX;obtain⟨a9,c9,e9,a8⟩:=bX.form;injection e9 with e9 _ cm;subst e9 cm;subst b4;obtain⟨g9,rfl,y0,y1,y2,cZ,_⟩:=a8 0 s_;simp only[Ws,Nat.zero_mul,U7] at y0 y1 y2;clear hne b1 a7 s0 s1 s2 s3 s4 s5 cB cv cG a8 bX bb h3 cu;replace aM:=bi;go_wp2_with fail
     refine (b7.out Wz (hk.below aM)).mono ?_;intro e w9 G;have HP:=h_ (HF.out Wz e w9 aM G);exact zE
def xI(t u:aj)(s:CS):eF [t,u] s=if t=wPoint then cY s (dM s.A s.B u.data.toList) else if t=wAt then ir u s else match cg u with|some n=>iz t n s|none=>(cC,s):=rfl
def TP(r:Nat)(s:CS)(vr:Value)(ws:bV)(g F:Nat)(V:ws≠[])(G:ws.length<=3001)(a6:∀x∈ws,x.size<=10000)(aa:s.ok)(w:World)(hE:dI r w)(hk:dk r s vr w)(ht:dP g ws w)(hc:ws.length<=F):
 Kp 55 #[.pointer (some ⟨r,0,none⟩),.slice (some ⟨g,0,none⟩) ws.length F] w (aY r vr w (eF ws s)):=by
 match ws,V,G,a6,ht,hc with
 |[t],_,_,a6,ht,hc=>exact P2 r s vr t g F aa w hE hk ht hc
 |[t,u],_,_,a6,ht,hc=>
  have a9:∀x∈[u],x.size<=10000:=λx hx=>a6 x (WI _ hx);by_cases h1:t=wPoint
  .subst h1;exact Ow r s vr u [u] rfl g F 1 _ ((xI _ _ _).trans (Um rfl)) rfl a9 aa w hE hk ht hc
  .by_cases h2:t=wAt
   .subst h2;exact Rq r s vr u [u] rfl g F 1 _ ((xI _ _ _).trans ((Uj h1).trans (Um rfl))) rfl a9 aa w hE hk ht hc
   .exact QA r s vr t u [u] rfl g F 1 h1 h2 _ ((xI _ _ _).trans ((Uj h1).trans (Uj h2))) rfl a9 aa w hE hk ht hc
 |[t,u,u2],_,_,a6,ht,hc=>exact Oi r s vr t u u2 [u,u2] rfl g F 2 _ rfl rfl (λx hx=>a6 x (WI _ hx)) aa w hE hk ht hc
 |t::u::u2::u3::tl,_,G,a6,ht,hc=>
  refine O4 r s vr t (u::u2::u3::tl) g F (tl.length+3) _ rfl rfl o_ (by simp at G;omega) (λx hx=>a6 x (WI _ hx)) aa w hE hk ht (by simpa using hc)
def fC(h:P:=by
 go_enter Tryz.func69,Tryz.ntmps69;exact rg):=h
def ch(t:aj):aj:=
 if t=iF then ⟨#[]⟩
 else if t=iC then ⟨#[]⟩
 else if t=iK then ⟨#[]⟩
 else if t=iE then ⟨#[]⟩
 else if t=iy then ⟨#[]⟩
 else if t=iG then ⟨#[]⟩
 else if t=iI then ⟨#[]⟩
 else if t=iu then ⟨#[]⟩
 else if t=ic then ⟨#[110]⟩
 else if t=g_ then ⟨#[110]⟩
 else if t=ia then ⟨#[110]⟩
 else if t=ib then ⟨#[110]⟩
 else if t=ig then ⟨#[110]⟩
 else if t=gZ then ⟨#[110]⟩
 else if t=ie then ⟨#[110,110]⟩
 else if t=gV then ⟨#[110,110]⟩
 else if t=gX then ⟨#[110,110]⟩
 else if t=wAt then ⟨#[102]⟩
 else if t=wPoint then ⟨#[119]⟩
 else ⟨#[63]⟩
def jf(t:aj)(w):Rw 69 #[t] w (.string (ch t)):=by
 unfold ch;by_cases h0:t=iF
 .rw[Um h0];subst h0;simp only[iF];exact fC
 rw[Uj h0];have g0:=bg h0;by_cases h1:t=iC
 .rw[Um h1];subst h1;simp only[iC];exact fC
 rw[Uj h1];have g1:=bg h1;by_cases h2:t=iK
 .rw[Um h2];subst h2;simp only[iK];exact fC
 rw[Uj h2];have g2:=bg h2;by_cases h3:t=iE
 .rw[Um h3];subst h3;simp only[iE];exact fC
 rw[Uj h3];have g3:=bg h3;by_cases h4:t=iy
 .rw[Um h4];subst h4;simp only[iy];exact fC
 rw[Uj h4];have g4:=bg h4;by_cases h5:t=iG
 .rw[Um h5];subst h5;simp only[iG];exact fC
 rw[Uj h5];have g5:=bg h5;by_cases h6:t=iI
 .rw[Um h6];subst h6;simp only[iI];exact fC
 rw[Uj h6];have g6:=bg h6;by_cases h7:t=iu
 .rw[Um h7];subst h7;simp only[iu];exact fC
 rw[Uj h7];have g7:=bg h7;by_cases h8:t=ic
 .rw[Um h8];subst h8;simp only[ic];exact fC
 rw[Uj h8];have g8:=bg h8;by_cases h9:t=g_
 .rw[Um h9];subst h9;simp only[g_];exact fC
 rw[Uj h9];have g9:=bg h9;by_cases F:t=ia
 .rw[Um F];subst F;simp only[ia];exact fC
 rw[Uj F];have aF:=bg F;by_cases U:t=ib
 .rw[Um U];subst U;simp only[ib];exact fC
 rw[Uj U];have ax:=bg U;by_cases H:t=ig
 .rw[Um H];subst H;simp only[ig];exact fC
 rw[Uj H];have ab:=bg H;by_cases K:t=gZ
 .rw[Um K];subst K;simp only[gZ];exact fC
 rw[Uj K];have aa:=bg K;by_cases J:t=ie
 .rw[Um J];subst J;simp only[ie];exact fC
 rw[Uj J];have ac:=bg J;by_cases I:t=gV
 .rw[Um I];subst I;simp only[gV];exact fC
 rw[Uj I];have ae:=bg I;by_cases V:t=gX
 .rw[Um V];subst V;simp only[gX];exact fC
 rw[Uj V];have ad:=bg V;by_cases g:t=wAt
 .rw[Um g];subst g;simp only[wAt];exact fC
 rw[Uj g];have Z:=bg g;by_cases G:t=wPoint
 .rw[Um G];subst G;simp only[wPoint];exact fC
 rw[Uj G];have az:=bg G;exact fC
def qC{s:CS}{o:Option P3}(h:s.ok)(Z:∀p,o=some p->bW s.A s.B p):(cY s o).2.ok:=by
 cases o with
 |none=>exact h
 |some p=>exact⟨h.1,Z p rfl,h.2.2⟩
def CP{s:CS}{b}{A B}(h:s.ok)(hb:b=true->be A B=true):(iJ s b A B).2.ok:=by
 cases b
 .exact h
 .exact⟨hb rfl,bW.zero _ _,h.2.2⟩
def C6{s:CS}{o:Option (aK)}(h:s.ok)(Z:∀M,o=some M->eA M):(eY s o).2.ok:=by
 cases o with
 |none=>exact h
 |some M=>exact⟨h.1,h.2.1,Z M rfl⟩
def oX{s:CS}{t}{b}(h:s.ok):(cf s t b).2.ok:=by cases b<;>exact h
def Re{a e}(h:ar a (e*e)=1):ar a e=1:=by
 unfold ar at h ⊢;have h1:Int.gcd a e∣Int.gcd a (e*e):=XI (Vt a e) (V1 (Vf a e));have h2:Int.gcd a (e*e)=1:=o_;rw[h2] at h1;have:=Nat.dvd_one.1 h1;omega
def Tj{A B x e}(hA:bj A)(hB:a_ B)(hx:a_ x)(he:1<=e/\e<=20)(hg:ar x e=1){p:P3}(h:p∈iS A B x e):bW A B p:=by
 have cF:=nA (ly hA hB hx he);unfold iS at h;split at h
 .rename_i hs;have hq:=eq_of_beq hs;split at h
  .rename_i hz;rw[hz] at hq;simp at h;subst h;exact .inr ⟨hx,he,hg,by show _<=(0:Int)/\(0:Int)<=_;omega,by show (0:Int)*0=cvV A B x e;omega⟩
  .simp at h;rcases h with rfl|rfl
   .exact .inr ⟨hx,he,hg,by show _<=-_/\-_<=_;omega,by show -_*-_=cvV A B x e;rw[U6];exact hq⟩
   .exact .inr ⟨hx,he,hg,by show _<=ap _/\ap _<=_;omega,hq⟩
 .simp at h
def Tq{A B a b}(hA:bj A)(hB:a_ B)(hf:bJ a b=true){p:P3}(h:p∈jt A B a b):bW A B p:=by
 unfold jt at h;split at h
 .rename_i G;unfold kb at G;unfold bJ at hf;simp at G hf;have⟨⟨h1,h2⟩,h3⟩:=G;have⟨⟨h4,h5⟩,h6⟩:=hf;have hq:=eq_of_beq h1;have hr:=yW (bH h4).1;rw[<-hq] at h6;exact Tj hA hB (bH h3) ⟨hr,h2⟩ (Re h6) h
 .simp at h
def Qk{s:CS}(h:s.ok)(ws):(eF ws s).2.ok:=by
 have⟨hA,hB⟩:=fe h.1;have ca:∀w,(jh w s).2.ok:=by
  intro w;unfold jh
  repeat' split
  .exact qC h λp G=>by cases G;exact h.2.1.neg
  .exact qC h λp G=>EK hA hB h.2.1 h.2.1 G
  .exact h
  .exact oX h
  .exact h
  .exact C6 h λM hM=>P7 h.2.2 hM
  .exact h
  .exact h
  .exact h
 have bx:∀w n,(iz w n s).2.ok:=by
  intro w n;unfold iz;split
  .refine qC h λp G=>?_;split at G
   .exact SQ hA hB h.2.1 G
   .cases G
  repeat' split
  .exact CP h λhb=>by
    simp at hb;exact hb.2
  .exact oX h
  .exact oX h
  .exact oX h
  .exact oX h
  .exact h
 have bv:∀w a b,(iA w a b s).2.ok:=by
  intro w a b;unfold iA
  repeat' split
  .exact CP h λhb=>hb
  .exact oX h
  .refine C6 h λM hM=>?_;unfold js at hM;split at hM
   .rename_i he;exact Cx h.2.2 he hM
   .cases hM
  .exact h
 have bp:∀t,(ir t s).2.ok:=by
  intro t;unfold ir;split
  .exact h
  .rename_i x hx;refine qC h λp G=>Tq hA hB (yr hx) (List.mem_of_mem_head? G)
 unfold eF;split
 .exact ca _
 .split
  .exact qC h λp G=>S3 G
  .split
   .exact bp _
   .split
    .exact bx _ _
    .exact h
 .split
  .exact bv _ _ _
  .exact h
 .exact h
def qq(s:CS)(o:Option P3):(cY s o).1.size<=500:=by cases o<;>exact (by decide:(2:Nat)<=500)
def B1(s:CS)(b)(A B):(iJ s b A B).1.size<=500:=by cases b<;>exact (by decide:(2:Nat)<=500)
def B0(s:CS)(o:Option (aK)):(eY s o).1.size<=500:=by cases o<;>exact (by decide:(2:Nat)<=500)
def oH(s:CS)(t)(b)(h:t.size<=500):(cf s t b).1.size<=500:=by
 cases b
 .exact (by decide:(2:Nat)<=500)
 .exact h
def nw:cC.size<=500:=(by decide:(4:Nat)<=500)
def SV(A B)(p:P3):0<=(b_ A B p).getD 0/\(b_ A B p).getD 0<=1000:=by
 cases h:b_ A B p with
 |none=>exact⟨by decide,by decide⟩
 |some k=>
  have:=ug _ _ _ _ h;simp;omega
def BD{s:CS}(h:s.ok)(ws):(eF ws s).1.size<=500:=by
 have ca:∀w,(jh w s).1.size<=500:=by
  intro w;unfold jh
  repeat' split
  .exact qq _ _
  .exact qq _ _
  .have:=QW h.2.1;simp only at this ⊢;omega
  .have h1:=SV s.A s.B (s.X,s.Y,s.E);have h2:=dS ((b_ s.A s.B (s.X,s.Y,s.E)).getD 0) o_;exact oH _ _ _ o_
  .have hb:=yT s.A s.B;have z1:=dS (fo s.A s.B) o_;have z2:=dS (fK s.A s.B) o_;have e1:(⟨#[44]⟩:aj).size=1:=rfl;show (mv s.A s.B).size<=500;unfold mv;exact vu
  .exact B0 _ _
  .show (km (fA s.L (s.A,s.B))).size<=500;cases hf:fA s.L (s.A,s.B) with
   |none=>exact (by decide:(4:Nat)<=500)
   |some e=>
    have he:=mW (xH h.2.2 hf);have z1:=dS e.2.1 o_;have z2:=dS e.2.2.1 o_;have e1:(⟨#[46,46]⟩:aj).size=2:=rfl;unfold km;exact vu
  .have hl:=h.2.2.2.2;have z1:=dS (s.L.length:Int) o_;show (aC (s.L.length:Int)).size<=500;omega
  .exact nw
 have bx:∀w n,(iz w n s).1.size<=500:=by
  intro w n;unfold iz;split
  .exact qq _ _
  repeat' split
  .exact B1 _ _ _ _
  .have⟨k,b,_,hk,hR⟩:=xN (A:=s.A) (B:=s.B) (p:=n) s;rw[hR];have:=dS k hk;exact oH _ _ _ o_
  .have⟨k,b,_,hk,hR⟩:=xP (A:=s.A) (B:=s.B) (p:=n) s;rw[hR];have:=dS k hk;exact oH _ _ _ o_
  .have⟨S,T,b,_,_,h1,h2,hR⟩:=xR (p:=n) h.1 s;rw[hR];have e1:(⟨#[44]⟩:aj).size=1:=rfl;exact oH _ _ _ (by simp;omega)
  .have⟨na,da,nb,db,b,_,h1,h2,hR⟩:=xy (n:=n) h.1 h.2.1 s;rw[hR];have:=Q9 na da nb db h1 h2;exact oH _ _ _ o_
  .exact nw
 have bv:∀w a b,(iA w a b s).1.size<=500:=by
  intro w a b;unfold iA
  repeat' split
  .exact B1 _ _ _ _
  .have:=RC a b;exact oH _ _ _ o_
  .exact B0 _ _
  .exact nw
 have bp:∀t,(ir t s).1.size<=500:=by
  intro t;unfold ir;split
  .exact nw
  .exact qq _ _
 unfold eF;split
 .exact ca _
 .split
  .exact qq _ _
  .split
   .exact bp _
   .split
    .exact bx _ _
    .exact nw
 .split
  .exact bv _ _ _
  .exact nw
 .exact nw
def qV{s:CS}(h:s.ok)(K):(cJ K s).2.ok:=by
 induction K using snoc_ind with
 |h0=>exact h
 |h1 K l g=>rw[tt];exact Qk g _
def Cq{s:CS}(h:s.ok)(K):∀r∈(cJ K s).1,r.size<=500:=by
 induction K using snoc_ind with
 |h0=>intro r hr;simp [Q1] at hr
 |h1 K l g=>
  rw[tt];intro r hr;rcases Vx.1 hr with hr|hr
  .exact g r hr
  .simp at hr;subst hr;exact BD (qV h K) _
def dA:CS:=⟨-16,16,0,4,1,[]⟩
def pk:dA.ok:=⟨by decide,zS d_,eA.nil⟩
def Qp{s:CS}(h:s.ok)(K)(hl:K.length<=2001):(gm (cJ K s).1).size<=2000000:=by
 have h1:=CC 500 _ (Cq h K);rw[qI] at h1;have:=Vy 501 hl;omega
def ms(h:P:=by simp [results,Tryz.results68,go_sem,q0,q1,q2,q3]):=h
def dX(ok:Bool)(Q:er)(w:World)(e:Ending)(w':World):Prop:=
 ∃G a b T,e=.returned (.tuple #[.agg #[G,.int .i64 a,.int .i64 b,.string T],.bool ok])/\Below w w w'/\(ok=true->Q G a b T w')/\(∀k,G.ownBlock=some k->w.heap.size<=k/\k<w'.heap.size)/\∃x n c,G=.slice x n c
def Nc(g:aj)(a)(n c)(hn:g.size≠n)(hs:g.size<=2)(cy:n<=3000)(w):
 Kp 68 #[g,.slice a n c] w (dX false (λ_ _ _ _ _=>True) w):=by
 have⟨H,U,J⟩:=cr w #[.slice none 0 0,(),(),.string ⟨#[]⟩] 98 #[.slice none 0 0,(),(),.string ⟨#[]⟩] 98;have ab:((g.size:Int)==(n:Int))=false:=by rw[Uz];omega
 go_enter Tryz.func68,Tryz.ntmps68;go_upto_region 2 with fail
 generalize (w.alloc _).alloc _=W,aa:w.heap.size+1=rB at *;have⟨c0,c1,c2,c3⟩:=U.q4;have⟨d0,d1,d2,d3⟩:=H.q4;have f0:=H.frozen 0;have f1:=H.frozen 1;have f2:=H.frozen 2;have f3:=H.frozen 3;have k9:=(((H.set 0 (.slice none 0 0)).set 1 ()).set 2 ()).set 3 (.string (⟨#[]⟩));have ad:=(((J.setCell (p:=w) (Ug _) (.slice none 0 0)).setCell (p:=⟨w,1,none⟩) (Ug _) ()).setCell (p:=⟨w,2,none⟩) (Ug _) ()).setCell (p:=⟨w,3,none⟩) (Ug _) (.string (⟨#[]⟩));have ax:=((((ah.refl [w.heap.size] W).setCell (p:=w) (.inr s_) (.slice none 0 0)).setCell (p:=⟨w,1,none⟩) (.inr s_) ()).setCell (p:=⟨w,2,none⟩) (.inr s_) ()).setCell (p:=⟨w,3,none⟩) (.inr s_) (.string (⟨#[]⟩));go_wp2;generalize World.setCell _ _ _=w9 at ad k9 ax ⊢;have⟨q0,q1,q2,q3⟩:=k9.q4;exact Uh (v:=.tuple #[.agg #[.slice none 0 0,(),(),.string (⟨#[]⟩)],false]) ms rfl ⟨_,_,_,_,rfl,ad,(λ_=>trivial),(λk h=>by cases h),_,_,_,rfl⟩
def PZ(a)(c)(w):
 Kp 68 #[.string ⟨#[]⟩,.slice a 0 c] w (dX true (λ_ _ _ _ _=>True) w):=by
 have⟨H,U,J⟩:=cr w #[.slice none 0 0,(),(),.string ⟨#[]⟩] 98 #[.slice none 0 0,(),(),.string ⟨#[]⟩] 98;go_enter Tryz.func68,Tryz.ntmps68;go_upto_region 2 with fail
 generalize (w.alloc _).alloc _=W,aa:w.heap.size+1=rB at *;go_upto_region 5 with fail
 go_loopw [22] (λiv wr=>iv=.int .i64 0/\wr=W) (λ_ _=>0)
 case atStart=>exact⟨rfl,rfl⟩
 case round=>
  obtain⟨rfl,rfl⟩:=hrel
  rename World=>W
  have⟨c0,c1,c2,c3⟩:=U.q4;have⟨d0,d1,d2,d3⟩:=H.q4;have f0:=H.frozen 0;have f1:=H.frozen 1;have f2:=H.frozen 2;have f3:=H.frozen 3;have k9:=(((H.set 0 (.slice none 0 0)).set 1 ()).set 2 ()).set 3 (.string (⟨#[]⟩));have ad:=(((J.setCell (p:=w) (Ug _) (.slice none 0 0)).setCell (p:=⟨w,1,none⟩) (Ug _) ()).setCell (p:=⟨w,2,none⟩) (Ug _) ()).setCell (p:=⟨w,3,none⟩) (Ug _) (.string (⟨#[]⟩));have ax:=((((ah.refl [w.heap.size] W).setCell (p:=w) (.inr s_) (.slice none 0 0)).setCell (p:=⟨w,1,none⟩) (.inr s_) ()).setCell (p:=⟨w,2,none⟩) (.inr s_) ()).setCell (p:=⟨w,3,none⟩) (.inr s_) (.string (⟨#[]⟩));go_wp2;generalize World.setCell _ _ _=w9 at ad k9 ax ⊢;have⟨q0,q1,q2,q3⟩:=k9.q4;exact Uh (v:=.tuple #[.agg #[.slice none 0 0,(),(),.string (⟨#[]⟩)],true]) ms rfl ⟨_,_,_,_,rfl,ad,(λ_=>trivial),(λk h=>by cases h),_,_,_,rfl⟩
def Ia(h:P:=by simp [results,Tryz.results42,go_sem,R0,R1,R2,R3,R4,R5,R6]):=h
def J2(h:P:=by
 rw[hq] at F ad;have HQ:=h_ hq;clear hq;obtain⟨vl,hk,Z⟩:=F;simp only at hk Z ad;obtain⟨a1,c1,rfl,_,_⟩:=Z.form;obtain⟨a2,c2,rfl,_,_⟩:=ad.form;obtain⟨s0,s1,s2,s3,s4,s5,s6⟩:=hk.q7;have sl:=hk.lt;have z0:=k0.frozen 0;have z1:=k0.frozen 1;have z2:=k0.frozen 2;have z3:=k0.frozen 3;have z4:=k0.frozen 4;have z5:=k0.frozen 5;have z6:=k0.frozen 6;obtain⟨y0,y1,y2,y3,y4,y5,y6⟩:=k0.q7;have yl:=k0.lt;have R:=(((((((k0.set 0 A).set 1 B).set 2 X).set 3 Y).set 4 E).set 5 (.slice a1 L.length c1)).set 6 (.slice a2 reps.length c2))
 have hO:ah [w.heap.size] wr (((((((wr.setCell ⟨w.heap.size,0,none⟩ A).setCell ⟨w.heap.size,1,none⟩ B).setCell ⟨w.heap.size,2,none⟩ X).setCell ⟨w.heap.size,3,none⟩ Y).setCell ⟨w.heap.size,4,none⟩ E).setCell ⟨w.heap.size,5,none⟩ (.slice a1 L.length c1)).setCell ⟨w.heap.size,6,none⟩ (.slice a2 reps.length c2)):=((((((((ah.refl [w.heap.size] wr).setCell (.inr s_) _).setCell (.inr s_) _).setCell (.inr s_) _).setCell (.inr s_) _).setCell (.inr s_) _).setCell (.inr s_) _).setCell (.inr s_) _)
 simp only[UK,UV,U1] at R;go_wp2;clear s0 s1 s2 s3 s4 s5 s6 z0 z1 z2 z3 z4 z5 z6 y0 y1 y2 y3 y4 y5 y6;generalize (((((((wr.setCell ⟨w.heap.size,0,none⟩ A).setCell ⟨w.heap.size,1,none⟩ B).setCell ⟨w.heap.size,2,none⟩ X).setCell ⟨w.heap.size,3,none⟩ Y).setCell ⟨w.heap.size,4,none⟩ E).setCell ⟨w.heap.size,5,none⟩ (.slice a1 L.length c1)).setCell ⟨w.heap.size,6,none⟩ (.slice a2 reps.length c2))=W9 at R hO ⊢;obtain⟨R0,R1,R2,R3,R4,R5,R6⟩:=R.q7;refine Uh (v:=.tuple #[.agg #[A,B,X,Y,E,.slice a1 L.length c1,.slice a2 reps.length c2],true]) Ia rfl ?_;have bY:∀(b:Nat) (v:Value),(∀k,v.ownBlock=some k->b<=k/\k<wr.heap.size)->w.heap.size<b->∀k,v.ownBlock=some k->k∉[w.heap.size]:=λb v h hb k hk hm=>by have:=(h k hk).1;rw[UD] at hm;omega
 refine⟨A,B,X,Y,E,L,_,_,rfl,by rw[HQ.out],?_,by rw[HQ.out];exact ur (mN ad hO (bY (g+1) _ ad.lt o_)) o_,?_⟩
 .exact ur (mN Z hO (bY (r+1) _ Z.lt o_)) o_
 .exact hO.belowGe ba ba.size ii):=h
def IG(h:P:=by
 rw[yg];unfold bO at aF;simp only[Ux,UW] at aF;have:=aF.2;unfold az Lib.countByte at this;omega):=h
def zU(h:P:=by
 cases hv:vr.ownBlock with
 |none=>rw[hv] at hk;simp at hk
 |some k'=>rw[hv] at hk;simp at hk;have:=(ad.lt k' hv).1;omega):=h
def Gc(h:P:=by
 cases hv:v.ownBlock with
 |none=>rw[hv] at hm;simp at hm
 |some g=>rw[hv] at hm;simp at hm;rw[hm]):=h
def FH(h:P:=by
 unfold bO at aF;simp only[Ux,UW] at aF;omega):=h
def ah.more{ex g:List Nat}{W w:World}(h:ah ex W w)(hs:∀k∈ex,k∈g):ah g W w:=⟨h.os,h.tape,h.output,h.size,λk hk hn=>h.block k hk (λhm=>hn (hs k hm))⟩
def ya(s:aj)(c:UInt8)(hs:s.size<=1048576)(w:World)(hE:PEnv w):
 Kp 53 #[s,.string ⟨#[c]⟩] w λe w'=>∃g,e=.returned (.slice (some ⟨g,0,none⟩) (bL s c).length (bL s c).length)/\dP g (bL s c) w'/\w.heap.size<=g/\Below w.heap.size w w':=by
 obtain⟨_,⟨m,hm⟩,_,_⟩:=hE;refine (Tryz.strings_Split s ⟨#[c]⟩ m w o_ hm (Ug 1)).mono ?_;rintro e w' ⟨rfl,rfl⟩;refine⟨w.heap.size,by rw[NV],⟨by simp,λi hi=>?_⟩,Ug _,(Uk _ _).alloc (Ug _) _⟩;rw[(ag.new w _ _).cell i,Oj];simp [hi]
section
variable {P:Program}{ops:Array Oper}{Q:Exit->Act->au}{ex:List Nat}{W:World}{R:Nat->Bool}{N D:au}
def Ox{a:Act}{listed:Array Bool}{f i:Nat}{o:Oper}(N' F:au)(Z:ops[i]?=some o)(G:Region.wanted o (yielded ops a.tmps)=true)
 (bi:o.dst=none)(U:aQ F)(aa:∀u,F u->N' u)(hR:R i=false->N'=N)
 (H:∀w,ah ex W w->D w->∃w',(execOp a.eval o).run P w=.ok .skip w'/\ah ex W w'/\F w')
 (h:(∃w,ah ex W w/\F w)->cd P ops Q ex W R f (listed.setIfInBounds i true) a N' F):
 eM P ops Q ex W R f listed a N D i:=λw hO hd=>by
 unfold wpOp;simp only[Z,G,Vo];refine .inl ?_;obtain⟨w',h1,h2,h3⟩:=H w hO hd;unfold Oper.wp;rw[h1];simp only[Oper.upon,bi,Act.put];exact⟨N',F,U,aa,hR,h2,h3,h ⟨w',h2,h3⟩⟩
end
def Qf{w:World}{G g ty:Nat}{v:Value}{xs:bV}{y:aj}(V:cH w G v xs)(U:G<=w.heap.size)(hx:ag g #[y] 9 w)(ac:xs.length<1000000):
 ∃v' w',(Builtin.append_ #[63,63] ty #[v,.slice (some ⟨g,0,none⟩) 1 1]).run Tryz.prog w=.ok v' w'/\cH w' G v' (xs++[y])/\ah v.ownBlock.toList w w':=by
 obtain⟨i0,hi,bi,ax,a8⟩:=VE Tryz.infoT;obtain⟨v',w',h1,h2,h3,_,_⟩:=run_append_own_at (P:=Tryz.prog) w G 63 ty 9 i0 (.string ⟨#[]⟩) 1 16 Tryz.underlying63 hi bi ax a8 rfl d_ v xs.length (xs.map Value.string) V ⟨g,0,none⟩ 1 1 [.string y] rfl (λj u hj=>by
  match j,hj with
  |0,hj=>simp at hj;subst hj;simpa[Addr.add] using hx.cell 0) (by intro u hu;simp at hu;subst hu;rfl) pv o_ U
 refine⟨v',w',h1,?_,?_⟩
 .unfold cH;simpa using h2
 .exact⟨h3.os,h3.tape,h3.output,h3.size,λk hk hn=>h3.block k hk (λh=>hn vE)⟩
def RZ{a:Act}{o:Oper}{s x:Operand}{v:Value}{g G:Nat}{w:World}{xs:bV}{y:aj}(K:o.op=.call {callee:=.builtin .append,args:=#[s,x],argTypes:=#[63,63]})(hs:a.eval s=v)(hx:a.eval x=.slice (some ⟨g,0,none⟩) 1 1)(hv:cH w G v xs)(hb:G<=w.heap.size)(hk:ag g #[y] 9 w)(hl:xs.length<1000000){O:World->au}{F:Value->au}
 (hK:∀v' w',cH w' G v' (xs++[y])->ah v.ownBlock.toList w w'->O w w'/\F v' w'):∃v' w',(execOp a.eval o).run Tryz.prog w=.ok (.value v') w'/\O w w'/\F v' w':=by
 obtain⟨v',w',h1,h2,h3⟩:=Qf (ty:=o.type) hv hb hk hl;refine⟨v',w',?_,hK v' w' h2 h3⟩;exact Fx
def cH.neE{w:World}{b Z k:Nat}{v v':Value}{xs:bV}{L:aK}(h:cH w b v xs)(J:am w Z v' L)(hk:v'.ownBlock=some k):k∉v.ownBlock.toList:=by
 intro hm;have hv:v.ownBlock=some k:=by
  exact Gc
 obtain⟨c1,h1⟩:=qM h k hv;obtain⟨c2,h2⟩:=qM J k hk;unfold ag at h1 h2;rw[h1] at h2;simp at h2
def Lz(S r:Nat)(s:CS)(reps:bV)(vr:Value)(w:World):Prop:=dk r s vr w/\cH w S vr reps
def dk.cell{r:Nat}{s:CS}{vr:Value}{w:World}(h:dk r s vr w):w.cell? ⟨r,6,none⟩=some vr/\r<w.heap.size/\∀o,w.frozen? ⟨r,o,none⟩=false:=by
 obtain⟨vl,h1,_⟩:=h;exact⟨h1.cell 6,h1.lt,h1.frozen⟩
def dk.turned{r:Nat}{s:CS}{vr:Value}{w w':World}{g:List Nat}(h:dk r s vr w)(Z:ah g w w')(hr:r∉g)(he:∀vl,am w (r+1) vl s.L->∀k,vl.ownBlock=some k->k∉g):dk r s vr w':=by
 obtain⟨vl,h1,h2⟩:=h;exact⟨vl,ag.over h1 Z hr,h2.over Z (he vl h2)⟩
def dk.stored{r:Nat}{s:CS}{vr v':Value}{w:World}(h:dk r s vr w):dk r s v' (w.setCell ⟨r,6,none⟩ v'):=by
 obtain⟨vl,h1,h2⟩:=h;refine⟨vl,h1.set 6 v',h2.past ((ah.refl [r] w).setCell (.inr s_) v')⟩
def sf(w:World)(s:aj)(e:Ending)(w':World):Prop:=
 ∃A B X Y E L vl vr,e=.returned (.tuple #[.agg #[.int .i64 A,.int .i64 B,.int .i64 X,.int .i64 Y,.int .i64 E,vl,vr],.bool true])/\(cJ (dW s) dA).2=⟨A,B,X,Y,E,L⟩/\am w' w.heap.size vl L/\cH w' w.heap.size vr (cJ (dW s) dA).1/\Below w.heap.size w w'
def M4(s:aj)(hs:s.size<=1048576)(aF:bO s=true)(hne:s≠⟨#[]⟩)(w:World)(hE:PEnv w):
 Kp 42 #[s] w (sf w s):=by
 have a6:s.size<=2000:=by
  exact FH
 have aX:kt s=true:=by
  unfold bO at aF;simp only[Ux,V9] at aF;rcases aF.1.2 with h|h
  .exfalso;apply hne;have h2:s.toList=[]:=by simpa using h
   rw[Uy] at h2;exact yR h2
  .exact h
 have b7:(dW s).length<=40:=by
  exact IG
 have hH:=λW=>wY s W o_;rw[aF] at hH;have H1:=h_ hH;have H2:=h_ (xK s 10 o_);have bo:=Qs s aX;have b6:(Lib.trimSuffix s.data.toList [10]).length<=s.size:=by
  have hl:s.data.toList.length=s.size:=UC;unfold Lib.trimSuffix;split
  .rw[UH];omega
  .omega
 have bz:(⟨(Lib.trimSuffix s.data.toList [10]).toArray⟩:aj).size<=2000:=by
  show (Lib.trimSuffix s.data.toList [10]).toArray.size<=2000;simp only[Xk];omega
 generalize (⟨(Lib.trimSuffix s.data.toList [10]).toArray⟩:aj)=tr at *;have a9:=λW hW=>ya tr 10 o_ W hW;rw[bo] at a9;have H3:=h_ a9;have H4:=h_ (λ(x:aj) (hx:x.size<=1048576) W hW=>ya x 32 hx W hW);have b8:(s.toList==[])=false:=by
  rw[Uz];intro h;rw[Uy] at h;exact hne (yR h)
 have bx:=CV s;clear bo b6 bz aX aF hH a9 hne;unfold sf;generalize dW s=K at *;obtain⟨k0,J⟩:=aw w #[(),(),(),(),(),.slice none 0 0,.slice none 0 0] 65;go_enter Tryz.func42,Tryz.ntmps42;go_upto_region 1 with fail
 generalize w.alloc _=G at *;go_wp2_with fail
 refine ay (H1.out _) ?_;go_upto_region 4 with fail
 have bi:=k0.lt;obtain⟨k1,I⟩:=aw G #[(-16:Int),(16:Int),(),(4:Int),(1:Int),.slice none 0 0,.slice none 0 0] 65;replace k0:=k0.next I
 have aL:=af I J.size J;clear J I;generalize G.alloc _=W1 at *;generalize G.heap.size=r at *;go_wp2_with fail
 refine ay (H2.out _) ?_;go_wp2_with fail
 refine (H3.out _ (hE.below aL)).mono ?_;rintro e w2 ⟨g,rfl,H,hg,U⟩;have cm:=H.1;have b4:=k1.lt;have aM:=af U aL.size aL;have ax:dk r dA (.slice none 0 0) w2:=⟨.slice none 0 0,k1.next U,am.nil _ _⟩
 replace k0:=k0.next U
 clear aL U k1;go_wp2;go_loopw [18] (λiv wr=>∃(k:Nat) (vr:Value),iv=.int .i64 k/\k<=K.length/\Below w.heap.size w wr/\ag w.heap.size #[(),(),(),(),(),.slice none 0 0,.slice none 0 0] 65 wr/\dP g K wr/\Lz (g+1) r (cJ (K.take k) dA).2 (cJ (K.take k) dA).1 vr wr) (λiv _=>K.length - (intOf iv).toNat)
 case atStart=>exact⟨0,.slice none 0 0,rfl,UB _,aM,k0,H,ax,cH.nil _ _⟩
 case round=>
  clear ax k0 H aM;obtain⟨k,vr,rfl,b3,ba,k0,H,F,ad⟩:=hrel;by_cases aG:k<K.length
  .have q0:wr.cell? ⟨g,k,none⟩=some (.string K[k]):=H.2 k aG;have a4:=h_ (Cn K k aG dA);have b2:=bx K[k] (UA aG);have bq:=H.1;have aa:=qV pk (K.take k);have a3:=qI dA (K.take k);generalize cJ (K.take k) dA=q at *;obtain⟨reps,sk⟩:=q;simp only at F ad aa a3 a4;generalize K[k]=x at *;go_upto_region 8 with fail
   have b0:r<g+1:=o_;have ab:=F.cell;have bb:=xE x 32;have V:=xi x 32;have cv:=h_ (λW hW=>H4.out x o_ W hW);have a8:=h_ (λ(W:World) (hb:Below wr.heap.size wr W) g' (ht:dP g' (bL x 32) W)=>TP r sk vr (bL x 32) g' (bL x 32).length (by intro h;rw[h] at bb;simp at bb) o_ (λy hy=>by have:=V y hy;omega) aa W (dI.of hE (af hb ba.size ba) o_) (F.below hb) ht (Ug _));generalize eF (bL x 32) sk=R0 at *;generalize bL x 32=ws at *;obtain⟨T,s9⟩:=R0;simp only at a4 a8;have a7:∀k∈r::vr.ownBlock.toList,r<=k:=by
    intro k hk;rcases UM.1 hk with rfl|hk
    .exact Ug _
    .exact zU
   have bZ:g∉r::vr.ownBlock.toList:=by
    intro hk;rcases UM.1 hk with h|hk
    .omega
    .exact zU
   have aZ:r∉vr.ownBlock.toList:=by
    intro hk;exact zU
   have bX:∀k∈[r],k∈r::vr.ownBlock.toList:=s_;have cA:∀k∈vr.ownBlock.toList,k∈r::vr.ownBlock.toList:=λk hk=>WI _ hk;have cy:reps.length<=40:=by rw[a3,UH];omega
   clear bb V a3;refine br (r::vr.ownBlock.toList) (λj=>j==8) (λw'=>w'.cell? ⟨r,6,none⟩=some vr) (λw'=>Below wr.heap.size wr w') k_ ((Uk _ _).drew) ?_;apply jE ⟨wr,ah.refl _ _,Uk _ _⟩ [ae,ae,ae] 6 (bn wr) (λu h=>(h.cell (p:=⟨r,6,none⟩) ab.2.1).trans ab.1) k_ k_ k_ k_ s_
   .intro E cs bv cb;have s6:∀c:aU (r::vr.ownBlock.toList) wr E,c.wd.cell? ⟨r,6,none⟩=some vr:=λc=>bv _ c.more
    (repeat (first|(refine gB ?_;go_big_quiet_step (fail);refine wpQuiet_nil ?_)|refine gA ?_));exact gC rfl
   refine aB 3 ?_;refine iR (some 27) (λw'=>w'.cell? ⟨r,6,none⟩=some vr) (λv w'=>Below wr.heap.size wr w'/\∃g',v=.slice (some ⟨g',0,none⟩) ws.length ws.length/\dP g' ws w') (λv _ _ ⟨h1,g',h2,h3⟩ hb=>⟨af hb h1.size h1,g',h2,h3.below hb⟩) (λv u h=>(h.1.cell (p:=⟨r,6,none⟩) ab.2.1).trans ab.1) (λ_=>rfl) (λw' hO hd=>(cv.out w' (hE.below (af hd ba.size ba))).mono λe w2 ⟨g',h1,h2,_,h3⟩=>⟨_,h1,.of_below h3,af h3 hd.size hd,g',rfl,h2⟩) (λv hne=>?_);obtain⟨w8,b1,_,g',rfl,_⟩:=id hne;refine ao ?_;refine aB 4 ?_;refine Bm (some 28) (λw'=>w'.cell? ⟨r,6,none⟩=some vr) (λv w'=>v=.string T/\dk r s9 vr w'/\cH w' (g+1) vr reps) r_ r_ r_ (λ_=>by go_simp;exact⟨rfl,rfl⟩) (λv _ _ ⟨h1,h2,h3⟩ hb=>⟨h1,h2.below hb,h3.below hb⟩) (λv u h=>h.2.1.cell.1) (λ_=>rfl) (λw' hO ⟨hd,b9,h1,h2⟩=>by
    have h3:g'=b9:=by injection h1 with h1;injection h1 with h1;injection h1
    subst h3;refine (a8.out w' hd g' h2).mono λe w2 ⟨h4,h5,h6⟩=>⟨_,h4,h5.more bX,rfl,h6,?_⟩
    exact mN (ad.below hd) h5 (λk hk hm=>by have:=(ad.lt k hk).1;rw[UD] at hm;omega)) (λv hne=>?_)
   obtain⟨w8,b1,rfl,_⟩:=id hne;refine ao ?_;refine aB 5 ?_;refine Cf (some 29) (λw'=>w'.cell? ⟨r,6,none⟩=some vr) (λv w'=>(∃g5,v=.slice (some ⟨g5,0,none⟩) 1 1/\ag g5 #[T] 9 w')/\dk r s9 vr w'/\cH w' (g+1) vr reps) r_ r_ r_ (λv _ _ ⟨⟨g5,h1,h2⟩,h3,h4⟩ hb=>⟨⟨g5,h1,h2.next hb⟩,h3.below hb,h4.below hb⟩) (λv u h=>h.2.1.cell.1) (λ_=>rfl) (λw' hO ⟨_,h2,h3⟩=>⟨.slice (some ⟨w'.heap.size,0,none⟩) 1 1,w'.alloc (.cells #[T] 9),by go_simp,(ah.refl _ w').alloc _,⟨_,rfl,ag.new _ _ _⟩,h2.below ((Uk _ _).alloc (Ug _) _),h3.below ((Uk _ _).alloc (Ug _) _)⟩) (λv hne=>?_);obtain⟨w8,b1,⟨g5,rfl,_⟩,_⟩:=id hne;refine ao ?_;refine aB 6 ?_;refine Cf (some 30) (λw'=>w'.cell? ⟨r,6,none⟩=some vr) (λv w'=>dk r s9 vr w'/\cH w' (g+1) v (reps++[T])) r_ r_ r_ (λv _ _ ⟨h3,h4⟩ hb=>⟨h3.below hb,h4.below hb⟩) (λv u h=>h.1.cell.1) (λ_=>rfl) (λw' hO ⟨⟨g6,h1,h2⟩,h3,h4⟩=>by
    have h5:g5=g6:=by injection h1 with h1;injection h1 with h1;injection h1
    subst h5;refine RZ (O:=ah (r::vr.ownBlock.toList)) r_ r_ r_ h4 (by have:=hO.size;omega) h2 o_ (λv' w9 h7 h8=>?_);exact⟨h8.more cA,h3.turned h8 aZ (λvl co k hk=>h4.neE co hk),h7⟩) (λv hne=>?_)
   refine ao ?_;apply jE hne [ac,ac,ac,ac,ac,ac,ac,ae] 1 (λ_ _ ⟨h3,h4⟩ hb=>⟨h3.below hb,h4.below hb⟩) (λ_ h=>h.1.cell.1) k_ k_ k_ k_ s_
   .intro E cs bv cb
    (repeat (first|(refine gB ?_;go_big_quiet_step (fail);refine wpQuiet_nil ?_)|refine gA ?_));exact gC rfl
   refine aB 8 ?_;refine Ox (λ_=>True) (λw'=>dk r s9 v w'/\cH w' (g+1) v (reps++[T])) r_ r_ r_ (λ_ _ ⟨h3,h4⟩ hb=>⟨h3.below hb,h4.below hb⟩) (λ_ _=>trivial) (λh=>by simp at h) (λw' hO ⟨h3,h4⟩=>by
    have f1:=h3.cell.1;have f2:=h3.cell.2.2 6;refine⟨w'.setCell ⟨r,6,none⟩ v,?_,hO.setCell (.inr s_) v,h3.stored,mN h4 ((ah.refl [r] w').setCell (.inr s_) v) (λk hk hm=>by have:=(h4.lt k hk).1;rw[UD] at hm;omega)⟩;obtain⟨a5,c5,rfl,_⟩:=h4.form;go_simp) (λhne=>?_)
   refine cV λWq b5 ca=>?_;have cc:Below w.heap.size w Wq:=b5.belowGe ba ba.size (by intro k hk;have:=a7 k hk;omega);have cu:=k0.over b5 (λhk=>by have:=a7 _ hk;omega);have bp:dP g K Wq:=⟨Un H.1 b5.size,λi hi=>(b5.cell (p:=⟨g,i,none⟩) H.1 bZ).trans (H.2 i hi)⟩
   have bs:=h_ (show Lz (g+1) r (cJ (K.take (k+1)) dA).2 (cJ (K.take (k+1)) dA).1 v Wq from by rw[a4.out];exact ca);clear ca b5 hne a4 F ad ab a7 bZ aZ bX cA H k0 b1 q0;go_wp2;go_roundw
   case rel=>exact⟨k+1,v,by go_num,by omega,cc,cu,bp,bs.out⟩
   case measure=>exact aO
  .obtain rfl:k=K.length:=by omega
   rw[Ve] at F ad;obtain⟨reps,A,B,X,Y,E,L,hq⟩:∃reps A B X Y E L,cJ K dA=(reps,(⟨A,B,X,Y,E,L⟩:CS)):=⟨_,_,_,_,_,_,_,rfl⟩
   exact J2
def Oz(w:World)(hE:PEnv w):Kp 42 #[.string ⟨#[]⟩] w (sf w ⟨#[]⟩):=by
 have H1:=h_ (λW=>show Rw 47 #[.string ⟨#[]⟩] W true from (by have h:=wY ⟨#[]⟩ W (UB _);rwa [show bO ⟨#[]⟩=true from by unfold bO kt az;rw[Uy];rfl] at h));have H2:=h_ (λW=>show Rw 54 #[.string ⟨#[]⟩,.string ⟨#[10]⟩] W (.string ⟨#[]⟩) from xK ⟨#[]⟩ 10 (UB _) W);have H3:=h_ (λW hW=>show Kp 53 #[.string ⟨#[]⟩,.string ⟨#[10]⟩] W λe w'=>∃g,e=.returned (.slice (some ⟨g,0,none⟩) 1 1)/\dP g [⟨#[]⟩] w'/\W.heap.size<=g/\Below W.heap.size W w' from ya ⟨#[]⟩ 10 (UB _) W hW);unfold sf;rw[RU];obtain⟨k0,J⟩:=aw w #[(),(),(),(),(),.slice none 0 0,.slice none 0 0] 65;go_enter Tryz.func42,Tryz.ntmps42;go_upto_region 1 with fail
 generalize w.alloc _=G at *;go_wp2_with fail
 refine ay (H1.out _) ?_;go_upto_region 4 with fail
 have bi:=k0.lt;obtain⟨k1,I⟩:=aw G #[(-16:Int),(16:Int),(),(4:Int),(1:Int),.slice none 0 0,.slice none 0 0] 65;replace k0:=k0.next I
 have aL:=af I J.size J;clear J I;generalize G.alloc _=W1 at *;generalize G.heap.size=r at *;go_wp2_with fail
 refine ay (H2.out _) ?_;go_wp2_with fail
 refine (H3.out _ (hE.below aL)).mono ?_;rintro e w2 ⟨g,rfl,H,hg,U⟩;have cm:=H.1;have b4:=k1.lt;have aM:=af U aL.size aL;have ax:dk r dA (.slice none 0 0) w2:=⟨.slice none 0 0,k1.next U,am.nil _ _⟩
 replace k0:=k0.next U
 have q0:w2.cell? ⟨g,0,none⟩=some (.string ⟨#[]⟩):=H.2 0 s_;clear aL U k1 H;go_wp2;go_loopw [18] (λiv wr=>∃k:Nat,iv=.int .i64 k/\k<=1/\wr=w2) (λiv _=>1 - (intOf iv).toNat)
 case atStart=>exact⟨0,rfl,UB _,rfl⟩
 case round=>
  obtain⟨k,rfl,b3,rfl⟩:=hrel
  rename World=>wr
  by_cases aG:k<1
  .obtain rfl:k=0:=by omega
   go_wp2;go_roundw
   case rel=>exact⟨1,by go_num,by omega,trivial⟩
   case measure=>simp [intOf]
  .obtain rfl:k=1:=by omega
   obtain⟨vr,F,ad⟩:∃vr,dk r (cJ [] dA).2 vr wr/\cH wr (g+1) vr (cJ [] dA).1:=⟨_,ax,cH.nil _ _⟩
   have ba:=aM;clear ax aM q0;obtain⟨reps,A,B,X,Y,E,L,hq⟩:∃reps A B X Y E L,cJ [] dA=(reps,(⟨A,B,X,Y,E,L⟩:CS)):=⟨_,_,_,_,_,_,_,rfl⟩
   exact J2
def SG(s:aj)(hs:s.size<=1048576)(aF:bO s=false)(w:World):
 Rv 42 #[s] w (.tuple #[.agg #[(),(),(),(),(),.slice none 0 0,.slice none 0 0],false]):=by
 have hH:=λW=>wY s W o_;rw[aF] at hH;have H1:=h_ hH;clear hH aF;obtain⟨k0,J⟩:=aw w #[(),(),(),(),(),.slice none 0 0,.slice none 0 0] 65;go_enter Tryz.func42,Tryz.ntmps42;go_upto_region 1 with fail
 generalize w.alloc _=G at *;go_wp2_with fail
 refine ay (H1.out _) ?_;have bi:=k0.lt;have z0:=k0.frozen 0;have y0:G.cell? ⟨w.heap.size,0,none⟩=some (.int .i64 0):=k0.cell 0;have z1:=k0.frozen 1;have y1:G.cell? ⟨w.heap.size,1,none⟩=some (.int .i64 0):=k0.cell 1;have z2:=k0.frozen 2;have y2:G.cell? ⟨w.heap.size,2,none⟩=some (.int .i64 0):=k0.cell 2;have z3:=k0.frozen 3;have y3:G.cell? ⟨w.heap.size,3,none⟩=some (.int .i64 0):=k0.cell 3;have z4:=k0.frozen 4;have y4:G.cell? ⟨w.heap.size,4,none⟩=some (.int .i64 0):=k0.cell 4;have z5:=k0.frozen 5;have y5:G.cell? ⟨w.heap.size,5,none⟩=some (.slice none 0 0):=k0.cell 5;have z6:=k0.frozen 6;have y6:G.cell? ⟨w.heap.size,6,none⟩=some (.slice none 0 0):=k0.cell 6;have R:=(((((((k0.set 0 ()).set 1 ()).set 2 ()).set 3 ()).set 4 ()).set 5 (.slice none 0 0)).set 6 (.slice none 0 0))
 have hO:ah [w.heap.size] G (((((((G.setCell ⟨w.heap.size,0,none⟩ ()).setCell ⟨w.heap.size,1,none⟩ ()).setCell ⟨w.heap.size,2,none⟩ ()).setCell ⟨w.heap.size,3,none⟩ ()).setCell ⟨w.heap.size,4,none⟩ ()).setCell ⟨w.heap.size,5,none⟩ (.slice none 0 0)).setCell ⟨w.heap.size,6,none⟩ (.slice none 0 0)):=((((((((ah.refl [w.heap.size] G).setCell (.inr s_) _).setCell (.inr s_) _).setCell (.inr s_) _).setCell (.inr s_) _).setCell (.inr s_) _).setCell (.inr s_) _).setCell (.inr s_) _)
 simp only[UK,UV,U1] at R;go_wp2;clear z0 z1 z2 z3 z4 z5 z6 y0 y1 y2 y3 y4 y5 y6;generalize (((((((G.setCell ⟨w.heap.size,0,none⟩ ()).setCell ⟨w.heap.size,1,none⟩ ()).setCell ⟨w.heap.size,2,none⟩ ()).setCell ⟨w.heap.size,3,none⟩ ()).setCell ⟨w.heap.size,4,none⟩ ()).setCell ⟨w.heap.size,5,none⟩ (.slice none 0 0)).setCell ⟨w.heap.size,6,none⟩ (.slice none 0 0))=W9 at R hO ⊢;obtain⟨R0,R1,R2,R3,R4,R5,R6⟩:=R.q7;refine Uh (v:=.tuple #[.agg #[(),(),(),(),(),.slice none 0 0,.slice none 0 0],false]) Ia rfl ?_;exact⟨rfl,hO.belowGe J J.size ii⟩
def uF(h:P:=by show w.heap.size≠rB;omega):=h
def vg(h:P:=by show w.heap.size<=rB;omega):=h
def J1(h:P:=by
 go_wp2;clear c0 c1 c2 c3 d0 d1 d2 d3 f0 f1 f2 f3;generalize World.setCell _ _ _=w9 at ad k9 ax ⊢;obtain⟨q0,q1,q2,q3⟩:=k9.q4;refine Uh (v:=.tuple #[.agg #[.slice none 0 0,(),(),.string (⟨#[]⟩)],false]) ms rfl ?_;exact⟨_,_,_,_,rfl,ad,(λh=>by cases h),(λk h=>by cases h),_,_,_,rfl⟩):=h
def Hr(h:P:=by
 have fl:=U.lt;go_wp2;go_roundw
 case rel=>exact .inr ⟨rfl,ad,k9,G⟩
 case measure=>simp [intOf]):=h
def OQ(g c:Nat)(u:aj)(w:World)(hg:g<w.heap.size)(q1:w.cell? ⟨g,1,none⟩=some (.string u)):
 Kp 68 #[.string ⟨#[119]⟩,.slice (some ⟨g,1,none⟩) 1 c] w (dX true (λ_ _ _ T _=>T=u) w):=by
 obtain⟨H,U,J⟩:=cr w #[.slice none 0 0,(),(),.string ⟨#[]⟩] 98 #[.slice none 0 0,(),(),.string ⟨#[]⟩] 98;have aG:=Un hg J.size;have aM:=(J.cell (p:=⟨g,1,none⟩) hg).trans q1;clear q1;go_enter Tryz.func68,Tryz.ntmps68;go_upto_region 2 with fail
 generalize (w.alloc _).alloc _=W at *;generalize aa:w.heap.size+1=rB at *;have ac:w.heap.size<rB:=o_;clear aa;go_upto_region 5 with fail
 go_loopw [22] (λiv wr=>(iv=.int .i64 0/\wr=W)\/(iv=.int .i64 1/\Below w.heap.size w wr/\ag rB #[.slice none 0 0,(),(),u] 98 wr/\ag w.heap.size #[.slice none 0 0,(),(),.string ⟨#[]⟩] 98 wr)) (λiv _=>1 - (intOf iv).toNat)
 case atStart=>exact .inl ⟨rfl,rfl⟩
 case round=>
  rcases hrel with ⟨rfl,rfl⟩|⟨rfl,aL,K,G⟩
  .rename World=>W
   have k9:=U.set 3 u;have G:=H.far (p:=⟨rB,3,none⟩) uF u;have ad:=J.setCell (p:=⟨rB,3,none⟩) vg u;have f3:=U.frozen 3;have c3:W.cell? ⟨rB,3,none⟩=some (.string ⟨#[]⟩):=U.cell 3;exact Hr
  .rename World=>W
   clear H U;have H:=G;have U:=K;obtain⟨c0,c1,c2,c3⟩:=U.q4;obtain⟨d0,d1,d2,d3⟩:=H.q4;have f0:=H.frozen 0;have f1:=H.frozen 1;have f2:=H.frozen 2;have f3:=H.frozen 3;have fl:=H.lt;have k9:=(((H.set 0 (.slice none 0 0)).set 1 ()).set 2 ()).set 3 u;have ad:=(((aL.setCell (p:=⟨w.heap.size,0,none⟩) (Ug _) (.slice none 0 0)).setCell (p:=⟨w.heap.size,1,none⟩) (Ug _) ()).setCell (p:=⟨w.heap.size,2,none⟩) (Ug _) ()).setCell (p:=⟨w.heap.size,3,none⟩) (Ug _) u;have ax:=((((ah.refl [w.heap.size] W).setCell (p:=⟨w.heap.size,0,none⟩) (.inr s_) (.slice none 0 0)).setCell (p:=⟨w.heap.size,1,none⟩) (.inr s_) ()).setCell (p:=⟨w.heap.size,2,none⟩) (.inr s_) ()).setCell (p:=⟨w.heap.size,3,none⟩) (.inr s_) u;go_wp2;clear c0 c1 c2 c3 d0 d1 d2 d3 f0 f1 f2 f3;generalize World.setCell _ _ _=w9 at ad k9 ax ⊢;obtain⟨q0,q1,q2,q3⟩:=k9.q4;refine Uh (v:=.tuple #[.agg #[.slice none 0 0,(),(),u],true]) ms rfl ?_;exact⟨_,_,_,_,rfl,ad,(λ_=>rfl),(λk h=>by cases h),_,_,_,rfl⟩
def Po(g c:Nat)(u:aj)(w:World)(hg:g<w.heap.size)(q1:w.cell? ⟨g,1,none⟩=some (.string u)):
 Kp 68 #[.string ⟨#[63]⟩,.slice (some ⟨g,1,none⟩) 1 c] w (dX false (λ_ _ _ _ _=>True) w):=by
 obtain⟨H,U,J⟩:=cr w #[.slice none 0 0,(),(),.string ⟨#[]⟩] 98 #[.slice none 0 0,(),(),.string ⟨#[]⟩] 98;have aG:=Un hg J.size;have aM:=(J.cell (p:=⟨g,1,none⟩) hg).trans q1;clear q1;go_enter Tryz.func68,Tryz.ntmps68;go_upto_region 2 with fail
 generalize (w.alloc _).alloc _=W at *;generalize aa:w.heap.size+1=rB at *;have ac:w.heap.size<rB:=o_;clear aa;go_upto_region 5 with fail
 go_loopw [22] (λiv wr=>(iv=.int .i64 0/\wr=W)) (λiv _=>1 - (intOf iv).toNat)
 case atStart=>exact⟨rfl,rfl⟩
 case round=>
  obtain⟨rfl,rfl⟩:=hrel
  rename World=>W
  have aL:=J;obtain⟨c0,c1,c2,c3⟩:=U.q4;obtain⟨d0,d1,d2,d3⟩:=H.q4;have f0:=H.frozen 0;have f1:=H.frozen 1;have f2:=H.frozen 2;have f3:=H.frozen 3;have fl:=H.lt;have k9:=(((H.set 0 (.slice none 0 0)).set 1 ()).set 2 ()).set 3 (.string (⟨#[]⟩));have ad:=(((aL.setCell (p:=⟨w.heap.size,0,none⟩) (Ug _) (.slice none 0 0)).setCell (p:=⟨w.heap.size,1,none⟩) (Ug _) ()).setCell (p:=⟨w.heap.size,2,none⟩) (Ug _) ()).setCell (p:=⟨w.heap.size,3,none⟩) (Ug _) (.string (⟨#[]⟩));have ax:=((((ah.refl [w.heap.size] W).setCell (p:=⟨w.heap.size,0,none⟩) (.inr s_) (.slice none 0 0)).setCell (p:=⟨w.heap.size,1,none⟩) (.inr s_) ()).setCell (p:=⟨w.heap.size,2,none⟩) (.inr s_) ()).setCell (p:=⟨w.heap.size,3,none⟩) (.inr s_) (.string (⟨#[]⟩));exact J1
def O6(g c:Nat)(u:aj)(hu:u.size<=10000)(w:World)(hg:g<w.heap.size)(q1:w.cell? ⟨g,1,none⟩=some (.string u)):
 Kp 68 #[.string ⟨#[102]⟩,.slice (some ⟨g,1,none⟩) 1 c] w (dX (bu u.data.toList).isSome (λ_ a b _ _=>bu u.data.toList=some (a,b)) w):=by
 obtain⟨H,U,J⟩:=cr w #[.slice none 0 0,(),(),.string ⟨#[]⟩] 98 #[.slice none 0 0,(),(),.string ⟨#[]⟩] 98;have aG:=Un hg J.size;have aM:=(J.cell (p:=⟨g,1,none⟩) hg).trans q1;clear q1;have HF:=λW=>xd u o_ W;obtain⟨o,Z⟩:∃o,bu u.data.toList=o:=⟨_,rfl⟩
 rw[Z] at HF ⊢;clear Z;rcases o with _|⟨x,y⟩
 .simp only[oB] at HF;have cc:=h_ HF;clear HF;rw[show (none:Option (Int×Int)).isSome=false from rfl];go_enter Tryz.func68,Tryz.ntmps68;go_upto_region 2 with fail
  generalize (w.alloc _).alloc _=W at *;generalize aa:w.heap.size+1=rB at *;have ac:w.heap.size<rB:=o_;clear aa;go_upto_region 5 with fail
  go_loopw [22] (λiv wr=>(iv=.int .i64 0/\wr=W)) (λiv _=>1 - (intOf iv).toNat)
  case atStart=>exact⟨rfl,rfl⟩
  case round=>
   obtain⟨rfl,rfl⟩:=hrel
   rename World=>W
   go_upto_region 15 with fail
   go_wp2_with fail
   refine ai (cc.out W) λw1 I=>?_;have ab:Below w1.heap.size w1 (w1.alloc (.cells #[(),()] 96)):=(Uk _ _).alloc (Ug _) _;have F:=af ab I.size I;go_upto_region 16 with fail
   replace H:=H.next F
   replace U:=U.next F
   have aL:=af F J.size J;clear ab F I aM;generalize w1.alloc _=W5 at *;obtain⟨c0,c1,c2,c3⟩:=U.q4;obtain⟨d0,d1,d2,d3⟩:=H.q4;have f0:=H.frozen 0;have f1:=H.frozen 1;have f2:=H.frozen 2;have f3:=H.frozen 3;have fl:=H.lt;have k9:=(((H.set 0 (.slice none 0 0)).set 1 ()).set 2 ()).set 3 (.string (⟨#[]⟩));have ad:=(((aL.setCell (p:=⟨w.heap.size,0,none⟩) (Ug _) (.slice none 0 0)).setCell (p:=⟨w.heap.size,1,none⟩) (Ug _) ()).setCell (p:=⟨w.heap.size,2,none⟩) (Ug _) ()).setCell (p:=⟨w.heap.size,3,none⟩) (Ug _) (.string (⟨#[]⟩));have ax:=((((ah.refl [w.heap.size] W5).setCell (p:=⟨w.heap.size,0,none⟩) (.inr s_) (.slice none 0 0)).setCell (p:=⟨w.heap.size,1,none⟩) (.inr s_) ()).setCell (p:=⟨w.heap.size,2,none⟩) (.inr s_) ()).setCell (p:=⟨w.heap.size,3,none⟩) (.inr s_) (.string (⟨#[]⟩));exact J1
 .simp only[oB] at HF;have cc:=h_ HF;clear HF;rw[show (some (x,y):Option (Int×Int)).isSome=true from rfl];go_enter Tryz.func68,Tryz.ntmps68;go_upto_region 2 with fail
  generalize (w.alloc _).alloc _=W at *;generalize aa:w.heap.size+1=rB at *;have ac:w.heap.size<rB:=o_;clear aa;go_upto_region 5 with fail
  go_loopw [22] (λiv wr=>(iv=.int .i64 0/\wr=W)\/(iv=.int .i64 1/\Below w.heap.size w wr/\ag rB #[.slice none 0 0,x,y,.string ⟨#[]⟩] 98 wr/\ag w.heap.size #[.slice none 0 0,(),(),.string ⟨#[]⟩] 98 wr)) (λiv _=>1 - (intOf iv).toNat)
  case atStart=>exact .inl ⟨rfl,rfl⟩
  case round=>
   rcases hrel with ⟨rfl,rfl⟩|⟨rfl,aL,K,G⟩
   .rename World=>W
    go_upto_region 15 with fail
    go_wp2_with fail
    refine ai (cc.out W) λw1 I=>?_;obtain⟨kX,ab⟩:=aw w1 #[x,y] 96;have F:=af ab I.size I;go_upto_region 16 with fail
    replace H:=H.next F
    replace U:=U.next F
    have aL:=af F J.size J;clear ab F I aM;generalize w1.alloc _=W5 at *;generalize w1.heap.size=rX at *;obtain⟨b2,a1⟩:=kX.q2;have b3:=kX.lt;have k9:=(U.set 1 x).set 2 y;have G:=(H.far (p:=⟨rB,1,none⟩) uF x).far (p:=⟨rB,2,none⟩) uF y;have ad:=(aL.setCell (p:=⟨rB,1,none⟩) vg x).setCell (p:=⟨rB,2,none⟩) vg y;have f1:=U.frozen 1;have f2:=U.frozen 2;have c1:W5.cell? ⟨rB,1,none⟩=some (.int .i64 0):=U.cell 1;have c2:W5.cell? ⟨rB,2,none⟩=some (.int .i64 0):=U.cell 2;exact Hr
   .rename World=>W
    clear H U;have H:=G;have U:=K;obtain⟨c0,c1,c2,c3⟩:=U.q4;obtain⟨d0,d1,d2,d3⟩:=H.q4;have f0:=H.frozen 0;have f1:=H.frozen 1;have f2:=H.frozen 2;have f3:=H.frozen 3;have fl:=H.lt;have k9:=(((H.set 0 (.slice none 0 0)).set 1 x).set 2 y).set 3 (.string (⟨#[]⟩));have ad:=(((aL.setCell (p:=⟨w.heap.size,0,none⟩) (Ug _) (.slice none 0 0)).setCell (p:=⟨w.heap.size,1,none⟩) (Ug _) x).setCell (p:=⟨w.heap.size,2,none⟩) (Ug _) y).setCell (p:=⟨w.heap.size,3,none⟩) (Ug _) (.string (⟨#[]⟩));have ax:=((((ah.refl [w.heap.size] W).setCell (p:=⟨w.heap.size,0,none⟩) (.inr s_) (.slice none 0 0)).setCell (p:=⟨w.heap.size,1,none⟩) (.inr s_) x).setCell (p:=⟨w.heap.size,2,none⟩) (.inr s_) y).setCell (p:=⟨w.heap.size,3,none⟩) (.inr s_) (.string (⟨#[]⟩));go_wp2;clear c0 c1 c2 c3 d0 d1 d2 d3 f0 f1 f2 f3;generalize World.setCell _ _ _=w9 at ad k9 ax ⊢;obtain⟨q0,q1,q2,q3⟩:=k9.q4;refine Uh (v:=.tuple #[.agg #[.slice none 0 0,x,y,.string (⟨#[]⟩)],true]) ms rfl ?_;exact⟨_,_,_,_,rfl,ad,(λ_=>rfl),(λk h=>by cases h),_,_,_,rfl⟩
end Go.Proofs.YtaamhakdhaolmaaGreatDoor
