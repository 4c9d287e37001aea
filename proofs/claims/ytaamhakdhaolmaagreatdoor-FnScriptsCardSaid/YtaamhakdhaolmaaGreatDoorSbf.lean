/- Part 31. -/
import Derived.Test.YtaamhakdhaolmaaGreatDoorSar
import Derived.Test.YtaamhakdhaolmaaGreatDoorSau
import Derived.Test.YtaamhakdhaolmaaGreatDoorSav
import Derived.Test.YtaamhakdhaolmaaGreatDoorSay
import Derived.Test.YtaamhakdhaolmaaGreatDoorSbd
import Derived.Test.YtaamhakdhaolmaaGreatDoorSbe
namespace Go.Proofs.YtaamhakdhaolmaaGreatDoor
open Go.RowKit Go.Proofs.Tryz
open World(setCell)
set_option maxHeartbeats 8000000
set_option maxRecDepth 100000
variable {P:Prop}
set_option linter.all false
structure CS where
 A:Int
 B:Int
 X:Int
 Y:Int
 E:Int
 L:bM
def CS.ok(s:CS):Prop:=be s.A s.B=true/\cf s.A s.B (s.X,s.Y,s.E)/\eJ s.L
def nD:ak:=⟨#[110,111]⟩
def eX:ak:=⟨#[111,107]⟩
def cL:ak:=⟨#[119,104,97,116]⟩
abbrev fo:=ak×CS
def de(s:CS):Option P3->fo
 |some p=>(eX,⟨s.A,s.B,p.1,p.2.1,p.2.2,s.L⟩)
 |none=>(nD,s)
def gT(s:CS)(b:Bool)(A B:Int):fo:=if b then (eX,⟨A,B,0,0,0,s.L⟩) else (nD,s)
def eR(s:CS):Option (bM)->fo
 |some L=>(eX,⟨s.A,s.B,s.X,s.Y,s.E,L⟩)
 |none=>(nD,s)
def ci(s:CS)(t:ak)(b:Bool):fo:=if b then (t,s) else (nD,s)
def iR:ak:=⟨#[109,105,110,117,115]⟩
def iO:ak:=⟨#[100,111,117,98,108,101]⟩
def iV:ak:=⟨#[115,104,111,119]⟩
def iQ:ak:=⟨#[111,114,100,101,114]⟩
def iM:ak:=⟨#[116,111,114,115,105,111,110]⟩
def iS:ak:=⟨#[100,114,111,112]⟩
def iU:ak:=⟨#[114,97,110,107]⟩
def iK:ak:=⟨#[101,110,116,114,105,101,115]⟩
def iy:ak:=⟨#[116,105,109,101,115]⟩
def it:ak:=⟨#[115,99,97,108,101]⟩
def iu:ak:=⟨#[99,111,117,110,116]⟩
def iw:ak:=⟨#[116,114,97,99,101]⟩
def iA:ak:=⟨#[107,105,110,100]⟩
def ir:ak:=⟨#[104,101,105,103,104,116]⟩
def iz:ak:=⟨#[99,117,114,118,101]⟩
def io:ak:=⟨#[99,111,110,103,114,117,101,110,116]⟩
def iq:ak:=⟨#[114,101,99,111,114,100]⟩
def wPoint:ak:=⟨#[112,111,105,110,116]⟩
def wAt:ak:=⟨#[97,116]⟩
def kL:Option E5->ak
 |none=>⟨#[110,111,110,101]⟩
 |some e=>aC e.2.1++⟨#[46,46]⟩++aC e.2.2.1
noncomputable def fD(A B:Int):Int:=((dL A B).length:Int) / (dw A B (dL A B) 1)
noncomputable def fU(A B:Int):Int:=dw A B (dL A B) 1
noncomputable def mG(A B:Int):ak:=aC (fD A B)++⟨#[44]⟩++aC (fU A B)
noncomputable def wh(A B p:Int):ak:=iF (dQ A B p) B p++⟨#[44]⟩++eD (dK (dQ A B p) B p)
def wN(o:Option (Int×Int)):ak:=match o with|some p=>ii (dE p.1) (cY p.1) (dE p.2) (cY p.2)|none=>⟨#[]⟩
noncomputable def kl(n m:Int):ak:=(rH n m).choose
noncomputable def lj(n m:Int):Bool:=(rH n m).choose_spec.choose
noncomputable def gQ(w:ak)(s:CS):fo:=
 if w=iR then de s (some (s.X,-s.Y,s.E))
 else if w=iO then de s (er s.A s.B (s.X,s.Y,s.E) (s.X,s.Y,s.E))
 else if w=iV then (im s.X s.Y s.E,s)
 else if w=iQ then ci s (aC ((cg s.A s.B (s.X,s.Y,s.E)).getD 0)) (cg s.A s.B (s.X,s.Y,s.E)).isSome
 else if w=iM then (mG s.A s.B,s)
 else if w=iS then eR s (iT s.L (s.A,s.B))
 else if w=iU then (kL (fK s.L (s.A,s.B)),s)
 else if w=iK then (aC s.L.length,s)
 else (cL,s)
noncomputable def gs(w:ak)(n:Int)(s:CS):fo:=
 if w=iy then de s (if aw n (-12) 12 then gK s.A s.B (s.X,s.Y,s.E) n else none)
 else if w=it then gT s (aw n 1 5&&be (s.A*n*n*n*n) (s.B*n*n*n*n*n*n)) (s.A*n*n*n*n) (s.B*n*n*n*n*n*n)
 else if w=iu then ci s (aC (gC s.A s.B n)) (fg s.A s.B n)
 else if w=iw then ci s (aC (jK s.A s.B n)) (fg s.A s.B n)
 else if w=iA then ci s (wh s.A s.B n) (fA n)
 else if w=ir then ci s (wN (iI s.A s.B s.X s.E n)) (iI s.A s.B s.X s.E n).isSome
 else (cL,s)
noncomputable def gu(w:ak)(a b:Int)(s:CS):fo:=
 if w=iz then gT s (be a b) a b
 else if w=io then ci s (kl a b) (lj a b)
 else if w=iq then eR s (jG s.L ((s.A,s.B),a,b,0))
 else (cL,s)
noncomputable def gp(t:ak)(s:CS):fo:=match bA t.data.toList with
 |none=>(cL,s)
 |some x=>de s (jH s.A s.B x.1 x.2).head?
noncomputable def dt(V:bW)(s:CS):fo:=match V with
 |[w]=>gQ w s
 |[w,t]=>if w=wPoint then de s (dW s.A s.B t.data.toList) else if w=wAt then gp t s else match jD t.data.toList with|some n=>gs w n s|none=>(cL,s)
 |[w,t,u]=>match jD t.data.toList,jD u.data.toList with|some a,some b=>gu w a b s|_,_=>(cL,s)
 |_=>(cL,s)
def vS(h:P:=by
 go_wp2;go_ret;exact⟨rfl,hO,k9⟩):=h
def IN(h:P:=by
 go_upto_region 1 with fail
 generalize w.alloc _=W at *;go_wp2_with fail
 refine (HD.out W).mono ?_;rintro e w2 ⟨rfl,rfl⟩;go_wp2;go_ret;exact⟨rfl,.of_below J,ab⟩):=h
def FV(h:P:=by
 go_wp2_with fail
 refine HI.out.mono ?_;rintro e w1 ⟨rfl,I⟩;go_wp2_with fail
 refine (HT.out w1).mono ?_;rintro e w2 ⟨rfl,rfl⟩;exact vW):=h
def F0(h:P:=by
 go_enter func79,ntmps79;go_wp2_with fail
 refine (HD.out _).mono ?_;rintro e w2 ⟨rfl,rfl⟩;go_wp2;go_ret;exact⟨rfl,.refl _ _,hk⟩):=h
def Kj(h:P:=by
 go_upto_region 1 with fail
 generalize w.alloc _=W at *;go_wp2;go_ret;exact⟨rfl,.of_below J,ab⟩):=h
def Ae(h:P:=by
 go_wp2_with fail
 refine (HD.out _).mono ?_;rintro e w2 ⟨rfl,rfl⟩;exact vS):=h
def IC(h:P:=by
 go_enter func144,ntmps144;go_wp2;go_ret;exact⟨rfl,.refl _ _,hk⟩):=h
def cR(S:ak)(b:Bool):ak:=if b then S else nD
def uA(S:ak)(b:Bool)(w):Rw 158 #[S,b] w (.string (cR S b)):=by
 cases b
 all_goals
  go_enter func158,ntmps158;exact qe
def uf(S:ak)(b:Bool)(w):Rw 128 #[S,b] w (.string (cR S b)):=by
 cases b
 all_goals
  go_enter func128,ntmps128;exact qe
def ub(b:Bool)(w):Rw 103 #[b] w (.string (cR eX b)):=by
 cases b
 all_goals
  go_enter func103,ntmps103;exact qe
def xa(n:Int)(b:Bool)(hn:-1000000000000<=n/\n<=1000000000000)(w)(ht:TabI w):
 Rv 140 #[n,b] w (.string (cR (aC n) b)):=by
 have HI:=h_ (pL n o_ o_ w ht);have HT:=h_ (uA (aC n) b);have hI:(⟨(Lib.itoa n).toArray⟩:ak)=aC n:=rfl;rw[hI] at HI;generalize aC n=S at *;generalize cR S b=R at *;go_enter func140,ntmps140;exact FV
def xM(n:Int)(b:Bool)(hn:-1000000000000<=n/\n<=1000000000000)(w):
 Rv 122 #[n,b] w (.string (cR (aC n) b)):=by
 have HI:=h_ (yS n hn w);have HT:=h_ (uf (aC n) b);generalize aC n=S at *;generalize cR S b=R at *;go_enter func122,ntmps122;exact FV
def bE(r:Nat)(A B X Y E:Int)(vl vr:Value)(w:World):Prop:=ah r #[A,B,X,Y,E,vl,vr] 65 w
def cJ(r:Nat)(A B X Y E:Int)(vl v0 v1 v2:Value)(w:World):Prop:=ah r #[A,B,X,Y,E,vl,v0,v1,v2] 61 w
def fQ(r:Nat)(T:ak)(P:av)(w:World)(e:Ending)(w':World):Prop:=e=.returned T/\ai [r] w w'/\P w'
def mU(r)(A B X Y E x y z:Int)(vl vr)(b:Bool)(w)(hk:bE r A B X Y E vl vr w):
 Kp 88 #[.pointer r,.agg #[x,y,z],b] w (fQ r (cR eX b) (if b then bE r A B x y z vl vr else bE r A B X Y E vl vr) w):=by
 have⟨kP,J⟩:=ay w #[x,y,z] 46;have ab:=hk.next J
 cases b
 .go_enter func88,ntmps88;exact Kj
 .go_enter func88,ntmps88;go_upto_region 1 with fail
  generalize w.alloc _=W at *;have⟨bY,bZ,bX⟩:=kP.q3;have⟨_,_,s2,s3,s4,_⟩:=ab.q6;have z2:=ab.frozen 2;have z3:=ab.frozen 3;have z4:=ab.frozen 4;have k9:=((ab.set 2 x).set 3 y).set 4 z;have hO:=(((ai.of_below (ex:=[r]) J).setCell (p:=⟨r,2,none⟩) (.inr s_) x).setCell (p:=⟨r,3,none⟩) (.inr s_) y).setCell (p:=⟨r,4,none⟩) (.inr s_) z;exact vS
def BN(r)(A B X Y E x y:Int)(vl vr)(b:Bool)(w)(hk:bE r A B X Y E vl vr w):
 Kp 153 #[.pointer r,.agg #[x,y],b] w (fQ r (cR eX b) (if b then bE r x y 0 0 0 vl vr else bE r A B X Y E vl vr) w):=by
 have⟨kP,J⟩:=ay w #[x,y] 42;have ab:=hk.next J
 cases b
 .go_enter func153,ntmps153;exact Kj
 .go_enter func153,ntmps153;go_upto_region 1 with fail
  generalize w.alloc _=W at *;have⟨bY,bZ⟩:=kP.q2;have⟨s0,s1,s2,s3,s4,s5⟩:=ab.q6;have⟨z0,z1,z2,z3,z4,z5⟩:=ab.f6;have k9:=((((ab.set 0 x).set 1 y).set 2 ()).set 3 ()).set 4 ();have hO:=(((((ai.of_below (ex:=[r]) J).setCell (p:=r) (.inr s_) x).setCell (p:=⟨r,1,none⟩) (.inr s_) y).setCell (p:=⟨r,2,none⟩) (.inr s_) ()).setCell (p:=⟨r,3,none⟩) (.inr s_) ()).setCell (p:=⟨r,4,none⟩) (.inr s_) ();go_upto_region 4 with fail
  generalize setCell _ _ _=W9 at hO k9 ⊢;exact vS
def Bo(r)(A B X Y E)(vl vr)(a)(n c)(b:Bool)(w)(hk:bE r A B X Y E vl vr w):
 Kp 144 #[.pointer r,.slice a n c,b] w (fQ r (cR eX b) (if b then bE r A B X Y E (.slice a n c) vr else bE r A B X Y E vl vr) w):=by
 cases b
 .exact IC
 .
   have⟨_,_,_,_,_,s5⟩:=hk.q6;have z5:=hk.frozen 5;have k9:=hk.set 5 (.slice a n c);have hO:=((ai.refl [r] w).setCell (p:=⟨r,5,none⟩) (.inr s_) (.slice a n c))
   go_enter func144,ntmps144;exact vS
def mZ(r)(A B X Y E x y z:Int)(vl v0 v1 v2)(b:Bool)(w)(hk:cJ r A B X Y E vl v0 v1 v2 w):
 Kp 73 #[.pointer r,.agg #[x,y,z],b] w (fQ r (cR eX b) (if b then cJ r A B x y z vl v0 v1 v2 else cJ r A B X Y E vl v0 v1 v2) w):=by
 have⟨kP,J⟩:=ay w #[x,y,z] 46;have ab:=hk.next J
 have HD:=h_ (ub b);cases b
 .go_enter func73,ntmps73;exact IN
 .go_enter func73,ntmps73;go_upto_region 1 with fail
  generalize w.alloc _=W at *;have⟨bY,bZ,bX⟩:=kP.q3;have⟨_,_,s2,s3,s4,_⟩:=ab.q6;have z2:=ab.frozen 2;have z3:=ab.frozen 3;have z4:=ab.frozen 4;have k9:=((ab.set 2 x).set 3 y).set 4 z;have hO:=(((ai.of_below (ex:=[r]) J).setCell (p:=⟨r,2,none⟩) (.inr s_) x).setCell (p:=⟨r,3,none⟩) (.inr s_) y).setCell (p:=⟨r,4,none⟩) (.inr s_) z;exact Ae
def D4(r)(A B X Y E x y:Int)(vl v0 v1 v2)(b:Bool)(w)(hk:cJ r A B X Y E vl v0 v1 v2 w):
 Kp 70 #[.pointer r,.agg #[x,y],b] w (fQ r (cR eX b) (if b then cJ r x y 0 0 0 vl v0 v1 v2 else cJ r A B X Y E vl v0 v1 v2) w):=by
 have⟨kP,J⟩:=ay w #[x,y] 42;have ab:=hk.next J
 have HD:=h_ (ub b);cases b
 .go_enter func70,ntmps70;exact IN
 .go_enter func70,ntmps70;go_upto_region 1 with fail
  generalize w.alloc _=W at *;have⟨bY,bZ⟩:=kP.q2;have⟨s0,s1,s2,s3,s4,s5⟩:=ab.q6;have⟨z0,z1,z2,z3,z4,z5⟩:=ab.f6;have k9:=((((ab.set 0 x).set 1 y).set 2 ()).set 3 ()).set 4 ();have hO:=(((((ai.of_below (ex:=[r]) J).setCell (p:=r) (.inr s_) x).setCell (p:=⟨r,1,none⟩) (.inr s_) y).setCell (p:=⟨r,2,none⟩) (.inr s_) ()).setCell (p:=⟨r,3,none⟩) (.inr s_) ()).setCell (p:=⟨r,4,none⟩) (.inr s_) ();go_upto_region 4 with fail
  generalize setCell _ _ _=W9 at hO k9 ⊢;exact Ae
def DC(r)(A B X Y E)(vl v0 v1 v2)(a)(n c)(b:Bool)(w)(hk:cJ r A B X Y E vl v0 v1 v2 w):
 Kp 79 #[.pointer r,.slice a n c,b] w (fQ r (cR eX b) (if b then cJ r A B X Y E (.slice a n c) v0 v1 v2 else cJ r A B X Y E vl v0 v1 v2) w):=by
 have HD:=h_ (ub b);cases b
 .exact F0
 .
   have⟨_,_,_,_,_,s5⟩:=hk.q6;have z5:=hk.frozen 5;have k9:=hk.set 5 (.slice a n c);have hO:=((ai.refl [r] w).setCell (p:=⟨r,5,none⟩) (.inr s_) (.slice a n c))
   go_enter func79,ntmps79;exact Ae
def Ja(h:P:=by
 simp only[VE] at h;subst h;rw[ByteArray.size_extract];omega):=h
def snoc_ind{α:Type}{P:List α->Prop}(h0:P [])(h1:∀l a,P l->P (l++[a])):∀l,P l:=by
 intro l;rw[<-l.reverse_reverse]
 induction l.reverse with
 |nil=>exact h0
 |cons a t g=>rw[List.reverse_cons];exact h1 _ _ g
def Mn{b x:UInt8}{l}(h:x≠b):Lib.index (x::l) [b]=if Lib.index l [b]==-1 then -1 else Lib.index l [b]+1:=by
 rw[Lib.index,Vm];simp [List.isPrefixOf];exactλe=>h e.symm
def Bh{b:UInt8}{l}:Lib.index (b::l) [b]=0:=by
 rw[Lib.index,Vo];simp [List.isPrefixOf]
theorem xp(b:UInt8):∀l:List UInt8,Lib.splitK [b] 0 (Lib.count l [b]) l=cn b l/\(Lib.index l [b]=-1->cn b l=[l])
 |[]=>⟨rfl,λ_=>rfl⟩
 |x::l=>by
  have g:=xp b l;by_cases hx:x=b
  .subst hx;have hc:=Lib.count_hit (s:=x::l) (sub:=[x]) (i:=0) s_ Bh;rw[hc,js,Vo rfl];refine⟨?_,λh=>?_⟩
   .rw[XC,Lib.splitK,Bh];simpa using g.1
   .rw[Bh] at h;simp at h
  .rw[js,Vm hx];rcases Lib.index_spec l [b] with ⟨h,_⟩|⟨i,h,_⟩
   .have h2:Lib.index (x::l) [b]=-1:=by rw[Mn hx,h];rfl
    rw[Lib.count_miss h2,g.2 h];exact⟨rfl,λ_=>rfl⟩
   .have h2:Lib.index (x::l) [b]=((i+1:Nat):Int):=by
     rw[Mn hx,h,Vm]
     .simp
     .simp
    refine⟨?_,λh9=>by rw[h2] at h9;omega⟩;rw[(Lib.count_hit (s:=x::l) (sub:=[b]) (i:=i+1) s_ h2),<-g.1,(Lib.count_hit (s:=l) (sub:=[b]) (i:=i) s_ h),XC 1,XC 1];simp only[Lib.splitK,h,h2,VA,Wf,VQ];have e1:¬(((i+1:Nat):Int)==-1)=true:=u_;have e2:¬((i:Int)==-1)=true:=s_;rw[Vm e1,Vm e2];simp [jB]
theorem xJ(b:UInt8):∀l:List UInt8,cn b (l++[b])=cn b l++[[]]
 |[]=>by simp [cn]
 |x::l=>by
  rw[Wo,js,js,xJ b l];split
  .rfl
  .have:=nX b l;cases h:cn b l with
   |nil=>exact absurd h this
   |cons p g=>rfl
def zv{a b:ak}(h:a.data.toList=b.data.toList):a=b:=by
 cases a;cases b;congr 1;exact Array.toList_inj.1 h
theorem qZ:∀{L M:bW},L.map (·.data.toList)=M.map (·.data.toList)->L=M
 |[],[],_=>rfl
 |[],_::_,h=>by simp at h
 |_::_,[],h=>by simp at h
 |a::L,b::M,h=>by
  simp only[WU,List.cons.injEq] at h;rw[zv h.1,qZ h.2]
def O7(s)(c:UInt8):Lib.splitB ⟨#[c]⟩ 0 (Lib.countB s ⟨#[c]⟩) s=bB s c:=by
 apply qZ;rw[ky,Lib.splitB_data];exact (xp c s.data.toList).1
theorem tA(b:UInt8):∀l:List UInt8,(cn b l).length=l.count b+1
 |[]=>rfl
 |x::l=>by
  rw[js,Yy];split
  .rename_i h;subst h;simp [tA]
  .rename_i h;have h2:(x==b)=false:=by simpa using h
   rw[h2];have:=tA b l;cases hc:cn b l with
   |nil=>rw[hc] at this;simp at this
   |cons p g=>rw[hc] at this;simpa[jB] using this
def xr(s)(b:UInt8):(bB s b).length=s.data.toList.count b+1:=by
 rw[<-tA,<-ky,Yx]
def OL(s)(c:UInt8):Lib.countB s ⟨#[c]⟩+1=(bB s c).length:=by
 rw[xr];have h:∀l:List UInt8,Lib.count l [c]=l.count c:=by
  intro l;have h2:∀(k:Nat) (l:List UInt8),k<=Lib.count l [c]->(Lib.splitK [c] 0 k l).length=k+1:=by
   intro k
   induction k with
   |zero=>intro l _;rfl
   |succ k g=>
    intro l hk;rcases Lib.index_spec l [c] with ⟨h,_⟩|⟨i,h,_⟩
    .rw[Lib.count_miss h] at hk;omega
    .have hc:=Lib.count_hit (s:=l) (sub:=[c]) (i:=i) s_ h;have e2:¬((i:Int)==-1)=true:=s_;simp only[Lib.splitK,h,Vm e2,VA];rw[g];simp only[YW];simp at hc ⊢;omega
  have h3:=h2 (Lib.count l [c]) l (Vj _);rw[((xp c l).1),tA] at h3;omega
 have:=h s.data.toList;show Lib.count _ _+1=_;simpa using this
theorem Cd(s)(b:UInt8):∀k,k<=s.size->∀x∈(dN s b k).1,x.size<=s.size
 |0,_,x,h=>by simp [dN] at h
 |k+1,hk,x,h=>by
  have g:=Cd s b k o_;rw[dN] at h;split at h
  .rcases Wy.1 h with h|h
   .exact g x h
   .exact Ja
  .exact g x h
def xP(s)(b:UInt8):∀x∈bB s b,x.size<=s.size:=by
 intro x h;unfold bB at h;rcases Wy.1 h with h|h
 .exact Cd s b s.size (Vj _) x h
 .exact Ja
def cV(s:ak):bW:=(bB s 10).dropLast
def ur(s):(cV s).length=s.data.toList.count 10:=by
 unfold cV;rw[List.length_dropLast,xr];omega
def Dx(s):∀x∈cV s,x.size<=s.size:=λx h=>xP s 10 x ((List.dropLast_sublist _).subset h)
def SZ:cV ⟨#[]⟩=[]:=rfl
def Re(s)(h:Lib.hasSuffix s.data.toList [10]=true):bB ⟨(Lib.trimSuffix s.data.toList [10]).toArray⟩ 10=cV s:=by
 unfold Lib.trimSuffix;rw[Vo h];unfold Lib.hasSuffix at h;have⟨t,ht⟩:=WN.1 h;have h2:s.data.toList.take (s.data.toList.length - [(10:UInt8)].length)=t:=by rw[<-ht];simp
 rw[h2];apply qZ;unfold cV;rw[ky,List.map_dropLast,ky,<-ht,xJ];simp
noncomputable def b_(K:bW)(s:CS):bW×CS:=K.foldl (λq l=>(q.1++[(dt (bB l 32) q.2).1],(dt (bB l 32) q.2).2)) ([],s)
def RU(s:CS):b_ [] s=([],s):=rfl
def oZ(K)(l)(s:CS):b_ (K++[l]) s=((b_ K s).1++[(dt (bB l 32) (b_ K s).2).1],(dt (bB l 32) (b_ K s).2).2):=by
 unfold b_;rw[XL];rfl
def CU(K:bW)(k)(h:k<K.length)(s:CS):b_ (K.take (k+1)) s=((b_ (K.take k) s).1++[(dt (bB K[k] 32) (b_ (K.take k) s).2).1],(dt (bB K[k] 32) (b_ (K.take k) s).2).2):=by
 rw[VF h,oZ]
def pk(s:CS):∀K:bW,(b_ K s).1.length=K.length:=by
 intro K
 induction K using snoc_ind with
 |h0=>rfl
 |h1 K l g=>rw[oZ];simp [g]
def eu(rs:bW):ak:=rs.foldl (λo r=>o++(r++⟨#[10]⟩)) ⟨#[]⟩
def qO(rs)(r):eu (rs++[r])=eu rs++(r++⟨#[10]⟩):=by
 unfold eu;rw[XL];rfl
def Dc(B):∀rs:bW,(∀r∈rs,r.size<=B)->(eu rs).size<=rs.length*(B+1):=by
 intro rs
 induction rs using snoc_ind with
 |h0=>intro _;exact VH _
 |h1 rs r g=>
  intro h;have h1:=g λx hx=>h x (by simp [hx]);have h2:=h r s_;have e1:(⟨#[10]⟩:ak).size=1:=rfl;rw[qO,VI,XW];simp;omega
def bC(p:ak->Bool)(rs:bW):List Int:=(rs.zipIdx.filter λx=>p x.1).map λx=>(x.2:Int)+1
def jX(p:ak->Bool)(rs)(r):bC p (rs++[r])=if p r then bC p rs++[(rs.length:Int)+1] else bC p rs:=by
 unfold bC;rw[List.zipIdx_append,List.filter_append,Xi];cases h:p r
 .simp [h]
 .simp [h]
def rl(p:ak->Bool)(rs)(n):n∈bC p rs↔∃i,∃h:i<rs.length,p rs[i]=true/\n=(i)+1:=by
 unfold bC;simp only[X9,Zi];constructor
 .rintro⟨⟨x,i⟩,⟨h1,h2⟩,rfl⟩;have h3:=List.mem_zipIdx h1;simp only[V9,Zx] at h3;exact⟨i,o_,by rw[<-h3.2.2];exact h2,rfl⟩
 .rintro⟨i,hi,h1,rfl⟩;exact⟨(rs[i],i),⟨by rw[List.mk_mem_zipIdx_iff_getElem?];exact Vv hi,h1⟩,rfl⟩
def lL(p:ak->Bool)(rs):(bC p rs).length<=rs.length:=by
 unfold bC;rw[Yx];exact Vl (Yv _ _) s_
def T7(p:ak->Bool)(rs){n}(h:n∈bC p rs):1<=n/\n<=rs.length:=by
 obtain⟨i,hi,_,rfl⟩:=(rl p rs n).1 h;omega
def Pw(p:ak->Bool)(rs):(bC p rs).Pairwise (·<·):=by
 induction rs using snoc_ind with
 |h0=>simp [bC]
 |h1 rs r g=>
  rw[jX];split
  .rw[List.pairwise_append];refine⟨g,s_,λa ha b hb=>?_⟩;have:=T7 p rs ha;simp at hb;omega
  .exact g
def GI(h:P:=by
 try simp only[Value.cells]
 refine aE hne (bk 18 1) 0 (KD.closed ao _) aB ?_;refine jp k_ (λWz a7 aX=>?_) _;exact bp r5 Wz ⟨a7,aX.1,o_,aX.2.head⟩):=h
def FJ(h:P:=by
 go_wp2_with fail
 refine (HM.out W3 (hk.below aM)).mono ?_;intro e w9 G;have HP:=h_ (HF.out W3 e w9 aM G);obtain⟨rfl,_,_⟩:=G;go_wp2;go_ret;exact HP.out):=h
def zR(h:P:=by
 exact⟨rfl,ku hb h2,vl,h3,(Z.below hb).past h2⟩):=h
def vy(h:P:=by
 obtain⟨rfl,_,_⟩:=G;go_wp2;go_ret;exact HP.out):=h
def L4(h:P:=by
 refine aR [17] ?_;refine am.cons ?_ ?_
 .refine fB (v:=.agg #[(),(),()]) [] [] (.inl bo) ao (λ_ _ h _=>h) s_ (λhne=>?_);exact GI
 exact am.nil):=h
def LQ(h:P:=by
 refine aR [17] ?_;refine am.cons ?_ ?_
 .refine fB (v:=.agg #[x,y,z]) [] [] (.inl bo) ao (λ_ _ h _=>h) s_ (λhne=>?_);exact GI
 exact am.nil):=h
def vX(h:P:=by
 try dsimp only
 rintro rM W3 ⟨bi,_,b4,kM⟩;have aM:=bi.below;have⟨a9,ba,cz,bX⟩:=kM.p3;clear s0 s1 s2 s3 s4 s5 bi;exact FJ):=h
def Gt(h:P:=by
 obtain⟨rfl,h2,h3⟩:=h;cases f
 .exact zR
 .obtain⟨rfl,rfl⟩:=hf rfl;exact zR):=h
def F7(h:P:=by
 cases hv:cg A B (X,Y,E) with
 |none=>exact⟨0,false,rfl,o_,rfl⟩
 |some k=>
  have:=uF 12 1 (0,0,0) k hv;exact⟨k,true,rfl,o_,rfl⟩):=h
def vT(h:P:=by
 obtain⟨rfl,h2,h3⟩:=h;exact zR):=h
def Ao(h:P:=by
 exact vy):=h
def dA(r:Nat)(s:CS)(vr:Value)(w:World):Prop:=∃vl,bE r s.A s.B s.X s.Y s.E vl vr w/\an w (r+1) vl s.L
def aY(r:Nat)(vr:Value)(w:World)(o:fo)(e:Ending)(w':World):Prop:=e=.returned o.1/\ai [r] w w'/\dA r o.2 vr w'
def fE(r:Nat)(s:CS)(v0 v1 v2:Value)(w:World):Prop:=∃vl,cJ r s.A s.B s.X s.Y s.E vl v0 v1 v2 w/\an w (r+1) vl s.L
def aI(r:Nat)(v0 v1 v2:Value)(w:World)(o:fo)(e:Ending)(w':World):Prop:=e=.returned o.1/\ai [r] w w'/\fE r o.2 v0 v1 v2 w'
def dR(r:Nat)(w:World):Prop:=∀w',ai [r] w w'->PEnv w'
def dR.env{r}{w}(h:dR r w):PEnv w:=h w (.refl _ _)
def dR.over{r}{w w'}(h:dR r w)(Z:ai [r] w w'):dR r w':=λ_ h2=>h _ (Z.trans h2)
def dR.below{r}{w w'}(h:dR r w)(hb:af w w w'):dR r w':=h.over (.of_below hb)
def ku{ex:List Nat}{w w1 w2}(hb:af w.heap.size w w1)(h:ai ex w1 w2):ai ex w w2:=
 ⟨h.os.trans hb.os,h.tape.trans hb.tape,h.output.trans hb.output,Vl hb.size h.size,λk hk hn=>(h.block k (Vp hk hb.size) hn).trans (hb.block k hk)⟩
def dR.of{r}{w w'}(h:PEnv w)(hb:af w w w')(hr:w.heap.size<=r):dR r w':=λ_ h2=>h.below (h2.belowGe hb hb.size (by intro k hk;rw[VE] at hk;omega))
def bE.below{r}{A B X Y E}{vl vr}{w w'}(h:bE r A B X Y E vl vr w)(hb:af w w w'):bE r A B X Y E vl vr w':=ah.next h hb
def cJ.below{r}{A B X Y E}{vl v0 v1 v2}{w w'}(h:cJ r A B X Y E vl v0 v1 v2 w)(hb:af w w w'):cJ r A B X Y E vl v0 v1 v2 w':=ah.next h hb
def an.past{w w'}{r}{v}{L}(h:an w (r+1) v L)(Z:ai [r] w w'):an w' (r+1) v L:=
 h.over Z (λk hk hm=>by have:=(h.lt k hk).1;rw[VE] at hm;omega)
def aY.same{r}{vr vl}{s:CS}{T}{w w'}(hk:bE r s.A s.B s.X s.Y s.E vl vr w)(Z:an w (r+1) vl s.L)(hb:af w w w'):aY r vr w (T,s) (.returned T) w':=
 ⟨rfl,.of_below hb,vl,hk.below hb,Z.below hb⟩
def aY.move{r}{A B X Y E}{L}{vr vl}{w w1 w2}{e}{x y z}(Z:an w (r+1) vl L)(hb:af w w w1)(h:fQ r (cR eX true) (if true then bE r A B x y z vl vr else bE r A B X Y E vl vr) w1 e w2):aY r vr w (de ⟨A,B,X,Y,E,L⟩ (some (x,y,z))) e w2:=by
 exact vT
def aY.stay{r}{A B X Y E}{L}{vr vl}{w w1 w2}{e}{x y z}(Z:an w (r+1) vl L)(hb:af w w w1)(h:fQ r (cR eX false) (if false then bE r A B x y z vl vr else bE r A B X Y E vl vr) w1 e w2):aY r vr w (de ⟨A,B,X,Y,E,L⟩ none) e w2:=by
 exact vT
def aY.told{r}{vr vl}{s:CS}{t}{b}{w w'}(hk:bE r s.A s.B s.X s.Y s.E vl vr w)(Z:an w (r+1) vl s.L)(hb:af w w w'):aY r vr w (ci s t b) (.returned (.string (cR t b))) w':=by
 cases b
 .exact aY.same hk Z hb
 .exact aY.same hk Z hb
def aY.keep{r}{A B X Y E}{L M}{vr vl v}{w w1 w2:World}{e}(Z:an w1 w.heap.size v M)(hr:r<w.heap.size)(hb:af w w w1)(h:fQ r (cR eX true) (if true then bE r A B X Y E v vr else bE r A B X Y E vl vr) w1 e w2):aY r vr w (eR ⟨A,B,X,Y,E,L⟩ (some M)) e w2:=by
 obtain⟨rfl,h2,h3⟩:=h;exact⟨rfl,ku hb h2,v,h3,(Z.le hr).past h2⟩
def aY.turn{r}{A B X Y E}{L}{vr vl}{w w1 w2}{e}{x y a b}{f}(hf:f=true->x=a/\y=b)(Z:an w (r+1) vl L)(hb:af w w w1)(h:fQ r (cR eX f) (if f then bE r x y 0 0 0 vl vr else bE r A B X Y E vl vr) w1 e w2):aY r vr w (gT ⟨A,B,X,Y,E,L⟩ f a b) e w2:=by
 exact Gt
def No(r)(A B X Y E)(L)(vl vr)(aa:CS.ok ⟨A,B,X,Y,E,L⟩)(w)(hk:bE r A B X Y E vl vr w)(Z:an w (r+1) vl L):
 Kp 86 #[.pointer r,iR] w (aY r vr w (de ⟨A,B,X,Y,E,L⟩ (some (X,-Y,E)))):=by
 have b6:=aa.2.1.bd;simp only at b6;have HM:=h_ (λW (k:bE r A B X Y E vl vr W)=>mU r A B X Y E X (-Y) E vl vr true W k);have HF:=h_ (λw1 e w2 (hb:af w w w1) h=>@aY.move r A B X Y E L vr vl w w1 w2 e X (-Y) E Z hb h);generalize de ⟨A,B,X,Y,E,L⟩ (some (X,-Y,E))=R,a1:-Y=NY at *;simp only[iR];have⟨_,_,s2,s3,s4,_⟩:=hk.q6;go_enter func86,ntmps86;go_wp2_with fail
 refine aj ((h_ (tD X Y E o_)).out w) λw1 aM=>?_;go_wp2_with fail
 refine (HM.out w1 (hk.below aM)).mono ?_;intro e w9 G;have HP:=h_ (HF.out w1 e w9 aM G);exact Ao
def Na(r)(A B X Y E)(L)(vl vr)(aa:CS.ok ⟨A,B,X,Y,E,L⟩)(w)(hk:bE r A B X Y E vl vr w)(Z:an w (r+1) vl L):
 Kp 86 #[.pointer r,iO] w (aY r vr w (de ⟨A,B,X,Y,E,L⟩ (er A B (X,Y,E) (X,Y,E)))):=by
 have⟨hA,hB⟩:=fs aa.1;have HA:=λW=>zh A B X Y E X Y E hA hB aa.2.1 aa.2.1 W;generalize er A B (X,Y,E) (X,Y,E)=o at *;simp only[iO];have⟨s0,s1,s2,s3,s4,s5,sl⟩:=hk.p6;rcases o with _|⟨x,y,z⟩
 .have HM:=h_ (λW (k:bE r A B X Y E vl vr W)=>mU r A B X Y E 0 0 0 vl vr false W k);have HF:=h_ (λw1 e w2 (hb:af w w w1) h=>@aY.stay r A B X Y E L vr vl w w1 w2 e 0 0 0 Z hb h);generalize de ⟨A,B,X,Y,E,L⟩ none=R at *;have ac:=h_ HA;clear HA;go_enter func86,ntmps86;go_upto_region 5 with fail
  apply fZ (λr5 Wz=>ai [] w Wz/\(λ_=>True) Wz/\w.heap.size<=r5/\ah r5 #[(),(),()] 46 Wz)
  .intro bp;refine bw [] (λ_=>false) (λ_=>True) (KD (λ_=>True) []) k_ ⟨trivial,bU.nil _⟩ ?_;refine aE ⟨w,ai.refl _ _,trivial,bU.nil _⟩ (cj 12 0) 7 (KD.closed ao _) aB ?_;refine aR [12,16] ?_;refine am.cons ?_ ?_
   .refine ep (v:=.tuple #[.agg #[(),(),()],false]) (some 39) (λ_=>True) ao (λ_ _=>by simp) (λw' hC=>(ac.out w').mono λ_ _ h=>⟨h.1,.of_below h.2,trivial⟩) (λhne=>?_);refine ap ?_;refine aE hne (bk 13 3) 3 (KD.closed ao _) aB ?_;refine aR [16] ?_;refine am.cons ?_ ?_
    .refine dB (zs:=#[(),(),()]) (T:=46) ao (λr5 bo bY hne=>?_);refine ap ?_;exact L4
    exact am.nil
   refine am.cons ?_ ?_
   .refine dB (zs:=#[(),(),()]) (T:=46) ao (λr5 bo bY hne=>?_);refine ap ?_;refine aR [12] ?_;refine am.cons ?_ ?_
    .refine ep (v:=.tuple #[.agg #[(),(),()],false]) (some 39) (λ_=>True) ao (λ_ _=>by simp) (λw' hC=>(ac.out w').mono λ_ _ h=>⟨h.1,.of_below h.2,trivial⟩) (λhne=>?_);refine ap ?_;refine aE hne (bk 13 3) 2 (KD.closed ao _) aB ?_;exact L4
    exact am.nil
   exact am.nil
  exact vX
 .have HM:=h_ (λW (k:bE r A B X Y E vl vr W)=>mU r A B X Y E x y z vl vr true W k);have HF:=h_ (λw1 e w2 (hb:af w w w1) h=>@aY.move r A B X Y E L vr vl w w1 w2 e x y z Z hb h);generalize de ⟨A,B,X,Y,E,L⟩ (some (x,y,z))=R at *;have ac:=h_ HA;go_enter func86,ntmps86;go_upto_region 5 with fail
  apply fZ (λr5 Wz=>ai [] w Wz/\(λ_=>True) Wz/\w.heap.size<=r5/\ah r5 #[x,y,z] 46 Wz)
  .intro bp;refine bw [] (λ_=>false) (λ_=>True) (KD (λ_=>True) []) k_ ⟨trivial,bU.nil _⟩ (aE ⟨w,ai.refl _ _,trivial,bU.nil _⟩ (cj 12 0) 7 (KD.closed ao _) aB ?_);refine aR [12,16] (am.cons ?_ ?_)
   .refine ep (v:=.tuple #[.agg #[x,y,z],true]) (some 39) (λ_=>True) ao (λ_ _=>by simp) (λw' hC=>(ac.out w').mono λ_ _ h=>⟨h.1,.of_below h.2,trivial⟩) (λhne=>?_);refine ap ?_;refine aE hne (bk 13 3) 3 (KD.closed ao _) aB ?_;refine aR [16] (am.cons ?_ ?_)
    .refine dB (zs:=#[(),(),()]) (T:=46) ao (λr5 bo bY hne=>?_);refine ap ?_;exact LQ
    exact am.nil
   refine am.cons ?_ ?_
   .refine dB (zs:=#[(),(),()]) (T:=46) ao (λr5 bo bY hne=>?_);refine ap (aR [12] ?_);refine am.cons ?_ ?_
    .refine ep (v:=.tuple #[.agg #[x,y,z],true]) (some 39) (λ_=>True) ao (λ_ _=>by simp) (λw' hC=>(ac.out w').mono λ_ _ h=>⟨h.1,.of_below h.2,trivial⟩) (λhne=>?_);refine ap ?_;refine aE hne (bk 13 3) 2 (KD.closed ao _) aB ?_;exact LQ
    exact am.nil
   exact am.nil
  exact vX
def NZ(r)(A B X Y E)(L)(vl vr)(aa:CS.ok ⟨A,B,X,Y,E,L⟩)(w)(hE:dR r w)(hk:bE r A B X Y E vl vr w)(Z:an w (r+1) vl L):
 Kp 86 #[.pointer r,iV] w (aY r vr w (im X Y E,⟨A,B,X,Y,E,L⟩)):=by
 have HT:=h_ (BO A B X Y E aa.2.1 w hE.env.1);have HF:=h_ (λw1 (hb:af w w w1)=>@aY.same r vr vl ⟨A,B,X,Y,E,L⟩ (im X Y E) w w1 hk Z hb);generalize im X Y E=T at *;simp only[iV];have⟨_,_,s2,s3,s4,_⟩:=hk.q6;go_enter func86,ntmps86;go_wp2_with fail
 refine HT.out.mono ?_;rintro e w1 ⟨rfl,aM⟩;go_wp2;go_ret;exact HF.out w1 aM
def NE(r)(A B X Y E)(L)(vl vr)(aa:CS.ok ⟨A,B,X,Y,E,L⟩)(w)(hE:dR r w)(hk:bE r A B X Y E vl vr w)(Z:an w (r+1) vl L):
 Kp 86 #[.pointer r,iQ] w (aY r vr w (ci ⟨A,B,X,Y,E,L⟩ (aC ((cg A B (X,Y,E)).getD 0)) (cg A B (X,Y,E)).isSome)):=by
 have⟨hA,hB⟩:=fs aa.1;obtain⟨k,b,hq,ae,hR⟩:∃(k:Int) (b:Bool),iG (cg A B (X,Y,E))=.tuple #[.int .i64 k,.bool b]/\(0<=k/\k<=12)/\ci ⟨A,B,X,Y,E,L⟩ (aC ((cg A B (X,Y,E)).getD 0)) (cg A B (X,Y,E)).isSome=ci ⟨A,B,X,Y,E,L⟩ (aC k) b:=by
  exact F7
 have h1:=λW=>wY A B X Y E hA hB aa.2.1 W;rw[hq] at h1;rw[hR];have HT:=h_ (λW (hb:af w w W)=>xa k b o_ W (hE.env.1.below hb));have HF:=h_ (λw1 (hb:af w w w1)=>@aY.told r vr vl ⟨A,B,X,Y,E,L⟩ (aC k) b w w1 hk Z hb);generalize ci _ _ _=R,cR (aC k) b=T at *;simp only[iQ];have⟨s0,s1,s2,s3,s4,_,sl⟩:=hk.p6;go_enter func86,ntmps86;go_upto_region 10 with fail
 (refine bR k_ k_ ?_;(repeat (go_big_quiet_step ((first|(go_at_call 141;exact Calls.quiet_cls ao _ ((h_ h1).out _))|(go_at_call 140;exact Calls.quiet_cls ao _ (HT.out _ (aU.over _).below))))));refine wpQuiet_nil ?_;intro w1 I)
 go_wp2;go_ret;exact HF.out w1 I
def iB(h:P:=by intro k hk;rw[VE] at hk;omega):=h
def JA(h:P:=by
 try simp only[Value.cells]
 refine aE hne (bk 14 1) 0 (KD.closed (bt w) _) aB ?_;exact IV):=h
def Lq(h:P:=by
 refine aR [13] ?_;refine am.cons ?_ ?_
 .refine fB (v:=.agg #[(),(),(),(),()]) [] [] (.inl cu) (bt w) (λ_ _ h Z=>Z.belowGe h h.size iB) s_ (λhne=>?_);exact JA
 exact am.nil):=h
def KF(h:P:=by
 refine aR [13] ?_;refine am.cons ?_ ?_
 .refine fB (v:=.agg #[c1,c2,lo,hi,t]) [] [] (.inl cu) (bt w) (λ_ _ h Z=>Z.belowGe h h.size iB) s_ (λhne=>?_);exact JA
 exact am.nil):=h
def LR(h:P:=by
 refine dn λWz a7 aX=>?_
 try dsimp only
 have aM:=a7.below;have bX:an Wz w.heap.size (.slice x M.length c) M:=by
  obtain⟨g,c',h1,h2⟩:=aX;have h3:x=g/\c=c':=by simpa using h1
  rw[h3.1,h3.2];exact h2
 have HO:=h_ bX;clear s0 s1 s2 s3 s4 s5 aX hne b1 bX;go_wp2_with fail
 refine (HM.out x M.length c Wz (hk.below aM)).mono ?_;intro e w9 G;have HP:=h_ (HF.out _ Wz e w9 HO.out aM G);exact vy):=h
def GW(h:P:=by
 refine dn λWz a7 aX=>?_
 try dsimp only
 have aM:=a7.below;clear s0 s1 s2 s3 s4 s5 aX hne b1;go_wp2_with fail
 refine (HM.out x Wz (hk.below aM)).mono ?_;intro e w9 G;have HP:=h_ (HF.out Wz e w9 aM G);exact vy):=h
def Bm(r)(A B X Y E)(vl vr v)(w)(hk:bE r A B X Y E vl vr w):
 Kp 144 #[.pointer r,v,false] w (fQ r (cR eX false) (bE r A B X Y E vl vr) w):=by
 exact IC
def Cc(r)(A B X Y E)(vl v0 v1 v2 v)(w)(hk:cJ r A B X Y E vl v0 v1 v2 w):
 Kp 79 #[.pointer r,v,false] w (fQ r (cR eX false) (cJ r A B X Y E vl v0 v1 v2) w):=by
 have HD:=h_ (ub false);exact F0
def bt(w):aQ (λw'=>af w.heap.size w w'):=λ_ _ h hb=>ag hb h.size h
def pe(S T U:ak)(hS:S.size<=300)(hT:T.size<=300)(hU:U.size<=300):S.size+T.size<=600/\(S++T).size+U.size<=900:=by
 rw[Vu];omega
def zy(A B):(0<=fD A B/\fD A B<=12003)/\(1<=fU A B/\fU A B<=12):=by
 have hl:=yG A B;have hg:=rK A B (dL A B) 1 o_ o_;unfold fD fU;refine⟨⟨Xh o_ o_,?_⟩,hg⟩;have:=WZ (a:=((dL A B).length:Int)) (dw A B (dL A B) 1) o_;omega
def MW(r)(A B X Y E)(L)(vl vr)(aa:CS.ok ⟨A,B,X,Y,E,L⟩)(w)(hE:dR r w)(hk:bE r A B X Y E vl vr w)(Z:an w (r+1) vl L):
 Kp 86 #[.pointer r,iM] w (aY r vr w (mG A B,⟨A,B,X,Y,E,L⟩)):=by
 have hb:=zy A B;have H:=h_ (MO A B aa.1 w);rw[show qq A B=.tuple #[fD A B,fU A B,true] from rfl] at H;have H1:=h_ (λW (aZ:af w w W)=>pn (fD A B) o_ o_ W (hE.env.below aZ));have H2:=h_ (λW (aZ:af w w W)=>pn (fU A B) o_ o_ W (hE.env.below aZ));have HF:=h_ (λw1 (hb:af w w w1)=>@aY.same r vr vl ⟨A,B,X,Y,E,L⟩ (mG A B) w w1 hk Z hb);unfold mG at HF ⊢;have z1:=dX (fD A B) o_;have z2:=dX (fU A B) o_;have e1:(⟨#[44]⟩:ak).size=1:=rfl;have g:=pe (aC (fD A B)) ⟨#[44]⟩ (aC (fU A B)) o_ o_ o_;have a5:=λw=>Vr (P:=prog) w (aC (fD A B)) ⟨#[44]⟩ o_;have a8:=λw=>Vr (P:=prog) w (aC (fD A B)++⟨#[44]⟩) (aC (fU A B)) o_;generalize aC (fD A B)=V,aC (fU A B)=SN,fD A B=m,fU A B=n at *;simp only[iM];have⟨s0,s1,_,_,_,_⟩:=hk.q6;go_enter func86,ntmps86;go_upto_region 12 with fail
 go_wp2_with fail
 refine H.out.mono ?_;rintro e w1 ⟨rfl,I⟩;go_wp2_with fail
 refine aj (H1.out w1 I) λw2 U=>?_;have ax:=ag U I.size I;go_wp2_with fail
 refine aj (H2.out w2 ax) λw3 aF=>?_;go_wp2;go_ret;exact HF.out w3 (ag aF ax.size ax)
def Ov(r)(A B X Y E:Int)(L:bM)(vl vr:Value)(aa:CS.ok ⟨A,B,X,Y,E,L⟩)(w:World)(hk:bE r A B X Y E vl vr w)(Z:an w (r+1) vl L):
 Kp 86 #[.pointer (some ⟨r,0,none⟩),iS] w (aY r vr w (eR ⟨A,B,X,Y,E,L⟩ (iT L (A,B)))):=by
 have HD:=λW (hb:af w w W)=>SR (r+1) vl L A B aa.2.2 W (Z.below hb);generalize iT L (A,B)=o at *;simp only[iS];obtain⟨a,F,rfl,_,_⟩:=Z.form;have⟨s0,s1,s2,s3,s4,s5,sl⟩:=hk.p6;rcases o with _|M
 .have HM:=h_ (λv W (k:bE r A B X Y E (.slice a L.length F) vr W)=>Bm r A B X Y E (.slice a L.length F) vr v W k);have HF:=h_ (λw1 e w2 (hb:af w w w1) h=>@aY.stay r A B X Y E L vr (.slice a L.length F) w w1 w2 e 0 0 0 Z hb h);rw[show de ⟨A,B,X,Y,E,L⟩ none=eR ⟨A,B,X,Y,E,L⟩ none from rfl] at HF;generalize eR ⟨A,B,X,Y,E,L⟩ none=R at *;have a1:=h_ HD;clear HD Z;go_enter func86,ntmps86;go_upto_region 15 with fail
  refine bw [] (λ_=>false) (λ_=>True) (λ_=>True) k_ (trivial) ?_;refine aE ⟨w,ai.refl _ _,trivial⟩ (cj 8 0) 6 ao aB ?_;refine aD 8 ?_;refine bN (some 95) (λv=>λw'=>∃x,v=.tuple #[x,false]) (λv=>λ_ _ h _=>h) (λw' hO _=>(a1.out w' hO.below).mono λe w2 ⟨x,h1,h2,h3⟩=>⟨_,h1,.of_below h3,x,rfl⟩) (λv hne=>?_);refine ap ?_;obtain⟨w8,b1,x,rfl⟩:=id hne;refine aE hne (bk 9 5) 0 (λ_ _ h _=>h) aB ?_;exact GW
 .have hr:=sl;have HF:=h_ (λv w1 e w2 (h0:an w1 w v M) (hb:af w w w1) h=>@aY.keep r A B X Y E L M vr (.slice a L.length F) v w w1 w2 e h0 hr hb h);have HM:=h_ (λa2 n2 c2 W (k:bE r A B X Y E (.slice a L.length F) vr W)=>Bo r A B X Y E (.slice a L.length F) vr a2 n2 c2 true W k);generalize eR ⟨A,B,X,Y,E,L⟩ (some M)=R at *;go_enter func86,ntmps86;go_upto_region 15 with fail
  refine bw [] (λ_=>false) (λ_=>True) (λ_=>True) k_ (trivial) (aE ⟨w,ai.refl _ _,trivial⟩ (cj 8 0) 6 ao aB ?_);refine aD 8 ?_;refine bN (some 95) (λv=>λw'=>∃x c,v=.tuple #[.slice x M.length c,true]/\an w' w (.slice x M.length c) M) (λv=>λ_ _ ⟨x,c,h1,h2⟩ hb=>⟨x,c,h1,h2.below hb⟩) (λw' hO _=>((h_ HD).out w' hO.below).mono λe w2 ⟨x,h1,h2,h3⟩=>by obtain⟨y,c,rfl,_,_⟩:=(h2 M rfl).form;exact⟨_,h1,.of_below h3,y,c,rfl,(h2 M rfl).le hO.size⟩) (λv hne=>?_);refine ap ?_;obtain⟨w8,b1,x,c,rfl,_⟩:=id hne;refine aE hne (bk 9 5) 0 (λ_ _ ⟨x,c,h1,h2⟩ hb=>⟨x,c,h1,h2.below hb⟩) aB ?_;exact LR
def Oi(r)(A B X Y E)(L)(vl vr)(aa:CS.ok ⟨A,B,X,Y,E,L⟩)(w)(hE:dR r w)(hk:bE r A B X Y E vl vr w)(Z:an w (r+1) vl L):
 Kp 86 #[.pointer r,iU] w (aY r vr w (kL (fK L (A,B)),⟨A,B,X,Y,E,L⟩)):=by
 have HD:=λW (hb:af w w W)=>NF (r+1) vl L A B aa.2.2 W (Z.below hb);have U:=λe=>@yg L (A,B) aa.2.2 e;have HF:=h_ (λw1 (hb:af w w w1)=>@aY.same r vr vl ⟨A,B,X,Y,E,L⟩ (kL (fK L (A,B))) w w1 hk Z hb);generalize fK L (A,B)=o at *;simp only[iU];obtain⟨a,F,rfl,_,_⟩:=Z.form;have⟨s0,s1,s2,s3,s4,s5,sl⟩:=hk.p6;rcases o with _|⟨⟨c1,c2⟩,lo,hi,t⟩
 .simp only[kL] at HF ⊢;simp only[mb] at HD;have a1:=h_ HD;go_enter func86,ntmps86;go_upto_region 18 with fail
  apply fZ (λcv Wz=>ai [] w Wz/\(λw'=>af w w w') Wz/\w.heap.size<=cv/\ah cv #[(),(),(),(),()] 70 Wz)
  .intro bp;refine bw [] (λ_=>false) (λ_=>True) (KD (λw'=>af w w w') []) k_ ⟨(bt w) _ _ (Vn _ _) ((Vn _ _).drew),bU.nil _⟩ (aE ⟨w,ai.refl _ _,Vn _ _,bU.nil _⟩ (cj 8 0) 7 (KD.closed (bt w) _) aB ?_);refine aR [8,12] (am.cons ?_ ?_)
   .refine ep (v:=.tuple #[.agg #[(),(),(),(),()],false]) (some 113) (λw'=>af w w w') (bt w) (λ_ _=>by simp) (λw' hC=>(a1.out w' hC).mono λ_ _ h=>⟨h.1,.of_below h.2,ag h.2 hC.size hC⟩) (λhne=>?_);refine ap ?_;refine aE hne (bk 9 3) 3 (KD.closed (bt w) _) aB ?_;refine aR [12] (am.cons ?_ ?_)
    .refine dB (zs:=#[(),(),(),(),()]) (T:=70) (bt w) (λcv cu b5 hne=>?_);refine ap ?_;exact Lq
    exact am.nil
   refine am.cons ?_ ?_
   .refine dB (zs:=#[(),(),(),(),()]) (T:=70) (bt w) (λcv cu b5 hne=>?_);refine ap (aR [8] ?_);refine am.cons ?_ ?_
    .refine ep (v:=.tuple #[.agg #[(),(),(),(),()],false]) (some 113) (λw'=>af w w w') (bt w) (λ_ _=>by simp) (λw' hC=>(a1.out w' hC).mono λ_ _ h=>⟨h.1,.of_below h.2,ag h.2 hC.size hC⟩) (λhne=>?_);refine ap ?_;refine aE hne (bk 9 3) 2 (KD.closed (bt w) _) aB ?_;exact Lq
    exact am.nil
   exact am.nil
  rintro rM W3 ⟨bi,_,_,kM⟩;have aM:=bi.below;go_wp2;go_ret;exact HF.out W3 aM
 .have bb:=ni (U _ rfl);simp only at bb;simp only[mb,cI] at HD;simp only[kL] at HF ⊢;have H1:=h_ (λW (aZ:af w w W)=>pn lo o_ o_ W (hE.env.below aZ));have H2:=h_ (λW (aZ:af w w W)=>pn hi o_ o_ W (hE.env.below aZ));have z1:=dX lo o_;have z2:=dX hi o_;have e1:(⟨#[46,46]⟩:ak).size=2:=rfl;have g:=pe (aC lo) ⟨#[46,46]⟩ (aC hi) o_ o_ o_;have a5:=λw=>Vr (P:=prog) w (aC lo) ⟨#[46,46]⟩ o_;have a8:=λw=>Vr (P:=prog) w (aC lo++⟨#[46,46]⟩) (aC hi) o_;generalize aC lo=V,aC hi=SN at *;have a1:=h_ HD;go_enter func86,ntmps86;go_upto_region 18 with fail
  apply fZ (λcv Wz=>ai [] w Wz/\(λw'=>af w w w') Wz/\w.heap.size<=cv/\ah cv #[c1,c2,lo,hi,t] 70 Wz)
  .intro bp;refine bw [] (λ_=>false) (λ_=>True) (KD (λw'=>af w w w') []) k_ ⟨(bt w) _ _ (Vn _ _) ((Vn _ _).drew),bU.nil _⟩ (aE ⟨w,ai.refl _ _,Vn _ _,bU.nil _⟩ (cj 8 0) 7 (KD.closed (bt w) _) aB ?_);refine aR [8,12] (am.cons ?_ ?_)
   .refine ep (v:=.tuple #[.agg #[c1,c2,lo,hi,t],true]) (some 113) (λw'=>af w w w') (bt w) (λ_ _=>by simp) (λw' hC=>(a1.out w' hC).mono λ_ _ h=>⟨h.1,.of_below h.2,ag h.2 hC.size hC⟩) (λhne=>?_);refine ap ?_;refine aE hne (bk 9 3) 3 (KD.closed (bt w) _) aB ?_;refine aR [12] (am.cons ?_ ?_)
    .refine dB (zs:=#[(),(),(),(),()]) (T:=70) (bt w) (λcv cu b5 hne=>?_);refine ap ?_;exact KF
    exact am.nil
   refine am.cons ?_ ?_
   .refine dB (zs:=#[(),(),(),(),()]) (T:=70) (bt w) (λcv cu b5 hne=>?_);refine ap (aR [8] ?_);refine am.cons ?_ ?_
    .refine ep (v:=.tuple #[.agg #[c1,c2,lo,hi,t],true]) (some 113) (λw'=>af w w w') (bt w) (λ_ _=>by simp) (λw' hC=>(a1.out w' hC).mono λ_ _ h=>⟨h.1,.of_below h.2,ag h.2 hC.size hC⟩) (λhne=>?_);refine ap ?_;refine aE hne (bk 9 3) 2 (KD.closed (bt w) _) aB ?_;exact KF
    exact am.nil
   exact am.nil
  rintro rM W3 ⟨bi,_,_,kM⟩;have aM:=bi.below;have⟨_,_,cz,cF,_,bX⟩:=kM.p5;go_upto_region 21 with fail
  (refine bR k_ k_ ?_;(repeat (go_big_quiet_step ((go_at_call 136;first|with_reducible exact Calls.quiet_cls ao _ (H1.out _ (ag (aU.over _).below aM.size aM))|with_reducible exact Calls.quiet_cls ao _ (H2.out _ (ag (aU.over _).below aM.size aM))))));refine wpQuiet_nil ?_;intro w4 K)
  go_wp2;go_ret;exact HF.out w4 (ag K aM.size aM)
def MT(r)(A B X Y E)(L)(vl vr)(aa:CS.ok ⟨A,B,X,Y,E,L⟩)(w)(hE:dR r w)(hk:bE r A B X Y E vl vr w)(Z:an w (r+1) vl L):
 Kp 86 #[.pointer r,iK] w (aY r vr w (aC L.length,⟨A,B,X,Y,E,L⟩)):=by
 have hl:=aa.2.2.2.2;simp only at hl;have H1:=h_ (pn (L.length:Int) o_ o_ w hE.env);have HF:=h_ (λw1 (hb:af w w w1)=>@aY.same r vr vl ⟨A,B,X,Y,E,L⟩ (aC L.length) w w1 hk Z hb);obtain⟨a,F,rfl,_,_⟩:=Z.form;generalize aC L.length=T at *;simp only[iK];have⟨_,_,_,_,_,s5⟩:=hk.q6;go_enter func86,ntmps86;go_upto_region 23 with fail
 go_wp2_with fail
 refine H1.out.mono ?_;rintro e w1 ⟨rfl,aM⟩;go_wp2;go_ret;exact HF.out w1 aM
def Is(h:P:=by
 try simp only[Value.cells]
 refine aE hne (bk 15 1) 0 (KD.closed ao _) aB ?_;refine jp k_ (λWz a7 aX=>?_) _;exact bp r7 Wz ⟨a7,aX.1,o_,aX.2.head⟩):=h
def LB(h:P:=by
 refine aR [14] ?_;refine am.cons ?_ ?_
 .refine fB (v:=.agg #[na,da,nb,db]) [] [] (.inl G) ao (λ_ _ h _=>h) s_ (λhne=>?_)
  try simp only[Value.cells]
  refine aE hne (bk 15 1) 0 (KD.closed ao _) aB ?_;refine jp k_ (λWz a7 aX=>?_) _;exact bp F Wz ⟨a7,aX.1,o_,aX.2.head⟩
 exact am.nil):=h
def Lj(h:P:=by
 refine aR [14] ?_;refine am.cons ?_ ?_
 .refine fB (v:=.agg #[(),(),()]) [] [] (.inl a3) ao (λ_ _ h _=>h) s_ (λhne=>?_);exact Is
 exact am.nil):=h
def Lr(h:P:=by
 refine aR [14] ?_;refine am.cons ?_ ?_
 .refine fB (v:=.agg #[x,y,z]) [] [] (.inl a3) ao (λ_ _ h _=>h) s_ (λhne=>?_);exact Is
 exact am.nil):=h
def GN(h:P:=by
 generalize w1.alloc _=W3 at *;generalize w1.heap.size=rN at *;have⟨cz,cv,bp⟩:=k9.p2;exact FJ):=h
def G_(h:P:=by
 go_wp2_with fail
 refine aj (HO.out w) λw1 I=>?_;go_wp2_with fail
 refine aj (HT.out w1 I) λw2 U=>?_;have ax:=ag U I.size I;go_wp2;go_ret;exact HF.out w2 ax):=h
def Hf(h:P:=by
 have g:=ag K aM.size aM;go_wp2_with fail
 refine (H3.out _).mono ?_;rintro e w5 ⟨rfl,rfl⟩;go_wp2;go_ret;exact HF.out w4 g):=h
def Jf(h:P:=by
 go_wp2_with fail
 refine (H3.out _).mono ?_;rintro e w3 ⟨rfl,rfl⟩;go_wp2;go_ret;exact HF.out w2 ax):=h
def O_(A B v)(hC:be A B=true)(hv:aw v 1 5=false)(w):
 Rv 152 #[.agg #[A,B],v] w (.tuple #[.agg #[(),()],false]):=by
 go_enter func152,ntmps152;go_wp2_with ((go_at_call 63;refine aA (dh _ _ _ _) ?_))
 (go_at_call 62;refine aj (jV _ _ _) λw1 I=>?_;obtain⟨aZ,a6⟩:=bu I)
 go_wp2_with ((go_at_call 63;refine aA (dh _ _ _ _) ?_))
 have⟨_,_,q3,q4,_⟩:=(((S9.new2 w (.int .i64 A) (.int .i64 B) (.int .i64 0) (.int .i64 0) 42 42).below I))
 refine Vk (v:=.tuple #[.agg #[(),()],false]) He rfl ⟨rfl,?_⟩;exact z_
def Pr(A B v)(hC:be A B=true)(hv:aw v 1 5=false)(w):
 Rv 72 #[.agg #[A,B],v] w (.tuple #[.agg #[(),()],false]):=by
 go_enter func72,ntmps72;go_wp2_with ((go_at_call 104;refine aA (cK _ _ _ _) ?_))
 (go_at_call 71;refine aj (f_ _ _ _) λw1 I=>?_;obtain⟨aZ,a6⟩:=bu I;(try (have F:w.heap.size<w1.heap.size:=o_));(try (have b7:=Vt ac));(try (have b9:=Vt (Vq b7))))
 go_wp2_with ((go_at_call 104;refine aA (cK _ _ _ _) ?_))
 have⟨_,_,q3,q4,_⟩:=(((S9.new2 w (.int .i64 A) (.int .i64 B) (.int .i64 0) (.int .i64 0) 42 42).below I))
 exact Ge
def fW(A B n:Int):Bool:=aw n 1 5&&be (A*n*n*n*n) (B*n*n*n*n*n*n)
def qu(A B n:Int):Value:=.tuple #[.agg #[(rs (fW A B n) (A*n*n*n*n):Int),(rs (fW A B n) (B*n*n*n*n*n*n):Int)],.bool (fW A B n)]
def Ok(A B n:Int)(hC:be A B=true)(w):
 Rv 152 #[.agg #[A,B],n] w (qu A B n):=by
 unfold qu fW;cases h:aw n 1 5
 .exact O_ A B n hC h w
 .exact Sd A B n hC h w
def NT(A B n:Int)(hC:be A B=true)(w):
 Rv 72 #[.agg #[A,B],n] w (qu A B n):=by
 unfold qu fW;cases h:aw n 1 5
 .exact Pr A B n hC h w
 .exact RR A B n hC h w
def RE{A B p}(hA:bh A)(hB:a_ B):(iF A B p).size<=30:=by
 have hd:=lI hA hB;have hv:=rk (a:=aP A B) (p:=p) (by unfold aP;omega);have e1:(⟨#[73]⟩:ak).size=1:=rfl;have e2:(⟨#[42]⟩:ak).size=1:=rfl;unfold iF;split
 .have:=dX (val (aP A B) p) o_;rw[Vu];omega
 .split
  .have:=dX (val (aP A B) p - 6) o_;rw[Vu,Vu];omega
  .unfold fj
   repeat' split
   all_goals decide
def QV(k):(eD k).size<=14:=by
 unfold eD;split<;>decide
def tZ(s:CS)(t u):ci s t false=ci s u false:=rfl
def yn{A B p}(s:CS):∃(k:Int) (b:Bool),km A B p (gC A B p)=.tuple #[k,b]/\(-1000000000000<=k/\k<=1000000000000)/\ci s (aC (gC A B p)) (fg A B p)=ci s (aC k) b:=by
 unfold km;cases h:fg A B p
 .exact⟨0,false,rfl,o_,tZ _ _ _⟩
 .obtain⟨h1,h2⟩:=pH h;have:=um (A:=A) (B:=B) h2 o_;exact⟨gC A B p,true,rfl,o_,rfl⟩
def yp{A B p}(s:CS):∃(k:Int) (b:Bool),km A B p (jK A B p)=.tuple #[k,b]/\(-1000000000000<=k/\k<=1000000000000)/\ci s (aC (jK A B p)) (fg A B p)=ci s (aC k) b:=by
 unfold km;cases h:fg A B p
 .exact⟨0,false,rfl,o_,tZ _ _ _⟩
 .obtain⟨h1,h2⟩:=pH h;have:=um (A:=A) (B:=B) h2 o_;exact⟨jK A B p,true,rfl,by unfold jK;omega,rfl⟩
def yr{A B p}(hC:be A B=true)(s:CS):∃(S T:ak) (b:Bool),lk p (iF (dQ A B p) B p)=.tuple #[S,b]/\lk p (eD (dK (dQ A B p) B p))=.tuple #[T,b]/\S.size<=30/\T.size<=30/\ci s (wh A B p) (fA p)=ci s (S++⟨#[44]⟩++T) b:=by
 unfold lk;have hm:=qd (p:=p) hC;have h2:=QV (dK (dQ A B p) B p);cases h:fA p
 .exact⟨⟨#[]⟩,⟨#[]⟩,false,rfl,rfl,d_,d_,tZ _ _ _⟩
 .exact⟨iF (dQ A B p) B p,eD (dK (dQ A B p) B p),true,rfl,rfl,(RE (p:=p) hm.1 hm.2.1),o_,rfl⟩
def x_{A B X Y E n}(hC:be A B=true)(G:cf A B (X,Y,E))(s:CS):∃(na da nb db:Int) (b:Bool),mc (iI A B X E n)=.tuple #[.agg #[na,da,nb,db],b]/\((0<=da/\da<=1000000000)/\(-1000000000<=na/\na<=1000000000))/\((0<=db/\db<=1000000000)/\(-1000000000<=nb/\nb<=1000000000))/\ci s (wN (iI A B X E n)) (iI A B X E n).isSome=ci s (ii na da nb db) b:=by
 cases h:iI A B X E n with
 |none=>exact⟨0,0,0,0,false,rfl,o_,o_,tZ _ _ _⟩
 |some q=>
  obtain⟨hA,hB⟩:=fs hC;have b6:=G.bd;simp only at b6;unfold iI at h;split at h
  .rename_i hn;have cy:=bO hn;have:=Fq hA hB b6.1 b6.2.2 o_ h;unfold ia at this;simp at this;exact⟨dE q.1,cY q.1,dE q.2,cY q.2,true,rfl,E9 o_,E9 o_,rfl⟩
  .cases h
def Nd(r:Nat)(A B X Y E n:Int)(L:bM)(vl vr:Value)(aa:CS.ok ⟨A,B,X,Y,E,L⟩)(w:World)(hk:bE r A B X Y E vl vr w)(Z:an w (r+1) vl L):
 Kp 91 #[.pointer (some ⟨r,0,none⟩),iy,n] w (aY r vr w (de ⟨A,B,X,Y,E,L⟩ (if aw n (-12) 12 then gK A B (X,Y,E) n else none))):=by
 have HA:=λW=>NX A B X Y E n aa.1 aa.2.1 W;generalize (if aw n (-12) 12=true then gK A B (X,Y,E) n else none)=o at *;simp only[iy];have⟨s0,s1,s2,s3,s4,s5,sl⟩:=hk.p6;rcases o with _|⟨x,y,z⟩
 .have HM:=h_ (λW (k:bE r A B X Y E vl vr W)=>mU r A B X Y E 0 0 0 vl vr false W k);have HF:=h_ (λw1 e w2 (hb:af w w w1) h=>@aY.stay r A B X Y E L vr vl w w1 w2 e 0 0 0 Z hb h);generalize de ⟨A,B,X,Y,E,L⟩ none=R at *;have ac:=h_ HA;clear HA;go_enter func91,ntmps91;go_upto_region 3 with fail
  apply fZ (λr7 Wz=>ai [] w Wz/\(λ_=>True) Wz/\w.heap.size<=r7/\ah r7 #[(),(),()] 46 Wz)
  .intro bp;refine bw [] (λ_=>false) (λ_=>True) (KD (λ_=>True) []) k_ ⟨trivial,bU.nil _⟩ ?_;refine aE ⟨w,ai.refl _ _,trivial,bU.nil _⟩ (cj 9 0) 7 (KD.closed ao _) aB ?_;refine aR [9,13] ?_;refine am.cons ?_ ?_
   .refine ep (v:=.tuple #[.agg #[(),(),()],false]) (some 30) (λ_=>True) ao (λ_ _=>by simp) (λw' hC=>(ac.out w').mono λ_ _ h=>⟨h.1,.of_below h.2,trivial⟩) (λhne=>?_);refine ap ?_;refine aE hne (bk 10 3) 3 (KD.closed ao _) aB ?_;refine aR [13] ?_;refine am.cons ?_ ?_
    .refine dB (zs:=#[(),(),()]) (T:=46) ao (λr7 a3 g hne=>?_);refine ap ?_;exact Lj
    exact am.nil
   refine am.cons ?_ ?_
   .refine dB (zs:=#[(),(),()]) (T:=46) ao (λr7 a3 g hne=>?_);refine ap ?_;refine aR [9] ?_;refine am.cons ?_ ?_
    .refine ep (v:=.tuple #[.agg #[(),(),()],false]) (some 30) (λ_=>True) ao (λ_ _=>by simp) (λw' hC=>(ac.out w').mono λ_ _ h=>⟨h.1,.of_below h.2,trivial⟩) (λhne=>?_);refine ap ?_;refine aE hne (bk 10 3) 2 (KD.closed ao _) aB ?_;exact Lj
    exact am.nil
   exact am.nil
  exact vX
 .have HM:=h_ (λW (k:bE r A B X Y E vl vr W)=>mU r A B X Y E x y z vl vr true W k);have HF:=h_ (λw1 e w2 (hb:af w w w1) h=>@aY.move r A B X Y E L vr vl w w1 w2 e x y z Z hb h);generalize de ⟨A,B,X,Y,E,L⟩ (some (x,y,z))=R at *;have ac:=h_ HA;clear HA;go_enter func91,ntmps91;go_upto_region 3 with fail
  apply fZ (λr7 Wz=>ai [] w Wz/\(λ_=>True) Wz/\w.heap.size<=r7/\ah r7 #[x,y,z] 46 Wz)
  .intro bp;refine bw [] (λ_=>false) (λ_=>True) (KD (λ_=>True) []) k_ ⟨trivial,bU.nil _⟩ ?_;refine aE ⟨w,ai.refl _ _,trivial,bU.nil _⟩ (cj 9 0) 7 (KD.closed ao _) aB ?_;refine aR [9,13] ?_;refine am.cons ?_ ?_
   .refine ep (v:=.tuple #[.agg #[x,y,z],true]) (some 30) (λ_=>True) ao (λ_ _=>by simp) (λw' hC=>(ac.out w').mono λ_ _ h=>⟨h.1,.of_below h.2,trivial⟩) (λhne=>?_);refine ap ?_;refine aE hne (bk 10 3) 3 (KD.closed ao _) aB ?_;refine aR [13] ?_;refine am.cons ?_ ?_
    .refine dB (zs:=#[(),(),()]) (T:=46) ao (λr7 a3 g hne=>?_);refine ap ?_;exact Lr
    exact am.nil
   refine am.cons ?_ ?_
   .refine dB (zs:=#[(),(),()]) (T:=46) ao (λr7 a3 g hne=>?_);refine ap ?_;refine aR [9] ?_;refine am.cons ?_ ?_
    .refine ep (v:=.tuple #[.agg #[x,y,z],true]) (some 30) (λ_=>True) ao (λ_ _=>by simp) (λw' hC=>(ac.out w').mono λ_ _ h=>⟨h.1,.of_below h.2,trivial⟩) (λhne=>?_);refine ap ?_;refine aE hne (bk 10 3) 2 (KD.closed ao _) aB ?_;exact Lr
    exact am.nil
   exact am.nil
  exact vX
def Nm(r:Nat)(A B X Y E n:Int)(L:bM)(vl vr:Value)(aa:CS.ok ⟨A,B,X,Y,E,L⟩)(w:World)(hk:bE r A B X Y E vl vr w)(Z:an w (r+1) vl L):
 Kp 91 #[.pointer (some ⟨r,0,none⟩),it,n] w (aY r vr w (gT ⟨A,B,X,Y,E,L⟩ (fW A B n) (A*n*n*n*n) (B*n*n*n*n*n*n))):=by
 have HA:=Ok A B n aa.1 w;unfold qu at HA;have HF:=h_ (λw1 e w2 (hb:af w w w1) h=>@aY.turn r A B X Y E L vr vl w w1 w2 e (rs (fW A B n) (A*n*n*n*n)) (rs (fW A B n) (B*n*n*n*n*n*n)) (A*n*n*n*n) (B*n*n*n*n*n*n) (fW A B n) (λh=>by rw[h];exact⟨rfl,rfl⟩) Z hb h);generalize gT _ _ _ _=R,rs (fW A B n) (A*n*n*n*n)=x at *;generalize rs (fW A B n) (B*n*n*n*n*n*n)=y at *;generalize fW A B n=b at *;have HM:=h_ (λW (k:bE r A B X Y E vl vr W)=>BN r A B X Y E x y vl vr b W k);simp only[it];have⟨s0,s1,s2,s3,s4,s5⟩:=hk.q6;go_enter func91,ntmps91;go_upto_region 6 with fail
 go_wp2_with fail
 refine (h_ HA).out.mono ?_;rintro e w1 ⟨rfl,I⟩;have⟨k9,ab⟩:=ay w1 #[x,y] 42;have aM:=ag ab I.size I;go_upto_region 7 with fail
 clear s0 s1 s2 s3 s4 s5 ab;exact GN
def Nh(r)(A B X Y E n:Int)(L:bM)(vl vr)(aa:CS.ok ⟨A,B,X,Y,E,L⟩)(w)(hE:dR r w)(hk:bE r A B X Y E vl vr w)(Z:an w (r+1) vl L):
 Kp 91 #[.pointer r,iu,n] w (aY r vr w (ci ⟨A,B,X,Y,E,L⟩ (aC (gC A B n)) (fg A B n))):=by
 have⟨k,b,hq,ae,hR⟩:=yn (A:=A) (B:=B) (p:=n) ⟨A,B,X,Y,E,L⟩;have h1:=λW=>MX A B n aa.1 W;rw[hq] at h1;rw[hR];have HO:=h_ h1;have HT:=h_ (λW (hb:af w w W)=>xa k b o_ W (hE.env.1.below hb));have HF:=h_ (λw1 (hb:af w w w1)=>@aY.told r vr vl ⟨A,B,X,Y,E,L⟩ (aC k) b w w1 hk Z hb);generalize ci _ _ _=R,cR (aC k) b=T at *;simp only[iu];have⟨s0,s1,_,_,_,_⟩:=hk.q6;go_enter func91,ntmps91;go_upto_region 9 with fail
 exact G_
def Nf(r)(A B X Y E n:Int)(L:bM)(vl vr)(aa:CS.ok ⟨A,B,X,Y,E,L⟩)(w)(hE:dR r w)(hk:bE r A B X Y E vl vr w)(Z:an w (r+1) vl L):
 Kp 91 #[.pointer r,iw,n] w (aY r vr w (ci ⟨A,B,X,Y,E,L⟩ (aC (jK A B n)) (fg A B n))):=by
 have⟨k,b,hq,ae,hR⟩:=yp (A:=A) (B:=B) (p:=n) ⟨A,B,X,Y,E,L⟩;have h1:=λW=>OT A B n aa.1 W;rw[hq] at h1;rw[hR];have HO:=h_ h1;have HT:=h_ (λW (hb:af w w W)=>xa k b o_ W (hE.env.1.below hb));have HF:=h_ (λw1 (hb:af w w w1)=>@aY.told r vr vl ⟨A,B,X,Y,E,L⟩ (aC k) b w w1 hk Z hb);generalize ci _ _ _=R,cR (aC k) b=T at *;simp only[iw];have⟨s0,s1,_,_,_,_⟩:=hk.q6;go_enter func91,ntmps91;go_upto_region 11 with fail
 exact G_
def Ny(r)(A B X Y E n:Int)(L:bM)(vl vr)(aa:CS.ok ⟨A,B,X,Y,E,L⟩)(w)(hE:dR r w)(hk:bE r A B X Y E vl vr w)(Z:an w (r+1) vl L):
 Kp 91 #[.pointer r,iA,n] w (aY r vr w (ci ⟨A,B,X,Y,E,L⟩ (wh A B n) (fA n))):=by
 have⟨S,T,b,hS,hT,bb,ad,hR⟩:=yr (p:=n) aa.1 ⟨A,B,X,Y,E,L⟩;have h1:=MC A B n aa.1 w hE.env.1;have h2:=λW=>MG A B n aa.1 W;rw[hS] at h1;rw[hT] at h2;rw[hR];have H3:=h_ (uA (S++⟨#[44]⟩++T) b);have HF:=h_ (λw1 (hb:af w w w1)=>@aY.told r vr vl ⟨A,B,X,Y,E,L⟩ (S++⟨#[44]⟩++T) b w w1 hk Z hb);have e1:(⟨#[44]⟩:ak).size=1:=rfl;have g:=pe S ⟨#[44]⟩ T o_ o_ o_;have a5:=λw=>Vr (P:=prog) w S ⟨#[44]⟩ o_;have a8:=λw=>Vr (P:=prog) w (S++⟨#[44]⟩) T o_;generalize ci _ _ _=R,cR (S++⟨#[44]⟩++T) b=V at *;simp only[iA];have⟨s0,s1,_,_,_,_,sl⟩:=hk.p6;cases b
 all_goals
  go_enter func91,ntmps91;go_upto_region 13 with fail
  go_wp2_with fail
  refine (h_ h1).out.mono ?_;rintro e w1 ⟨rfl,I⟩;have t0:=(I.cell (p:=r) sl).trans s0;have t1:=(I.cell (p:=⟨r,1,none⟩) sl).trans s1;go_wp2_with fail
  refine aj ((h_ h2).out w1) λw2 U=>?_;have ax:=ag U I.size I;exact Jf
def M_(r)(A B X Y E n:Int)(L:bM)(vl vr:Value)(aa:CS.ok ⟨A,B,X,Y,E,L⟩)(w:World)(hE:dR r w)(hk:bE r A B X Y E vl vr w)(Z:an w (r+1) vl L):
 Kp 91 #[.pointer (some ⟨r,0,none⟩),ir,n] w (aY r vr w (ci ⟨A,B,X,Y,E,L⟩ (wN (iI A B X E n)) (iI A B X E n).isSome)):=by
 have⟨na,da,nb,db,b,hV,I,U,hR⟩:=x_ (n:=n) aa.1 aa.2.1 ⟨A,B,X,Y,E,L⟩;have h1:=λW=>Ox A B X Y E n aa.1 aa.2.1 W;rw[hV] at h1;rw[hR];have H1:=h_ h1;have H2:=h_ (λW (hb:af w w W)=>M8 na da nb db I U W (hE.env.1.below hb));have H3:=h_ (uA (ii na da nb db) b);have HF:=h_ (λw1 (hb:af w w w1)=>@aY.told r vr vl ⟨A,B,X,Y,E,L⟩ (ii na da nb db) b w w1 hk Z hb);generalize ci _ _ _=R,cR (ii na da nb db) b=V,ii na da nb db=T at *;simp only[ir];have⟨s0,s1,s2,s3,s4,s5,sl⟩:=hk.p6;go_enter func91,ntmps91;go_upto_region 17 with fail
 apply fZ (λF Wz=>ai [] w Wz/\(λ_=>True) Wz/\w.heap.size<=F/\ah F #[na,da,nb,db] 145 Wz)
 .intro bp;refine bw [] (λ_=>false) (λ_=>True) (KD (λ_=>True) []) k_ ⟨trivial,bU.nil _⟩ (aE ⟨w,ai.refl _ _,trivial,bU.nil _⟩ (cj 9 0) 7 (KD.closed ao _) aB ?_);refine aR [9,13] (am.cons ?_ ?_)
  .refine ep (v:=.tuple #[.agg #[na,da,nb,db],b]) (some 115) (λ_=>True) ao (λ_ _=>by simp) (λw' hC=>(H1.out w').mono λ_ _ h=>⟨h.1,.of_below h.2,trivial⟩) (λhne=>?_);refine ap ?_;refine aE hne (bk 10 3) 3 (KD.closed ao _) aB ?_;refine aR [13] (am.cons ?_ ?_)
   .refine dB (zs:=#[(),(),(),()]) (T:=145) ao (λF G H hne=>?_);refine ap ?_;exact LB
   exact am.nil
  refine am.cons ?_ ?_
  .refine dB (zs:=#[(),(),(),()]) (T:=145) ao (λF G H hne=>?_);refine ap (aR [9] ?_);refine am.cons ?_ ?_
   .refine ep (v:=.tuple #[.agg #[na,da,nb,db],b]) (some 115) (λ_=>True) ao (λ_ _=>by simp) (λw' hC=>(H1.out w').mono λ_ _ h=>⟨h.1,.of_below h.2,trivial⟩) (λhne=>?_);refine ap ?_;refine aE hne (bk 10 3) 2 (KD.closed ao _) aB ?_;exact LB
   exact am.nil
  exact am.nil
 rintro rM W3 ⟨bi,_,_,kM⟩;have aM:=bi.below;have⟨a9,ba,cz,cF⟩:=kM.q4;go_wp2_with fail
 exact aj (H2.out W3 aM) λw4 K=>Hf
def bg{t:ak}{l}(h:t≠⟨l.toArray⟩):(t.toList==l)=false:=by
 rw[VD];intro h2;apply h;rw[Vw] at h2;apply Zv;rw[<-h2]
def EL(n m:Int):(∀w:World,TabI w->Kp 132 #[n,m] w (ki (kl n m) (lj n m) w))/\(∀w:World,TabI w->Kp 162 #[n,m] w (ki (kl n m) (lj n m) w)):=⟨(rH n m).choose_spec.choose_spec.1,(rH n m).choose_spec.choose_spec.2.1⟩
def SG(n m):(kl n m).size<=400:=(rH n m).choose_spec.choose_spec.2.2
def Nk(r:Nat)(A B X Y E n m:Int)(L:bM)(vl vr:Value)(w:World)(hk:bE r A B X Y E vl vr w)(Z:an w (r+1) vl L):
 Kp 92 #[.pointer (some ⟨r,0,none⟩),iz,n,m] w (aY r vr w (gT ⟨A,B,X,Y,E,L⟩ (be n m) n m)):=by
 have HA:=Bv n m w;have HF:=h_ (λw1 e w2 (hb:af w w w1) h=>@aY.turn r A B X Y E L vr vl w w1 w2 e (rs (be n m) n) (rs (be n m) m) n m (be n m) (λh=>by rw[h];exact⟨rfl,rfl⟩) Z hb h);generalize gT _ _ _ _=R,rs (be n m) n=x at *;generalize rs (be n m) m=y at *;generalize be n m=b at *;have HM:=h_ (λW (k:bE r A B X Y E vl vr W)=>BN r A B X Y E x y vl vr b W k);simp only[iz];go_enter func92,ntmps92;go_upto_region 3 with fail
 go_wp2_with fail
 refine (h_ HA).out.mono ?_;rintro e w1 ⟨rfl,I⟩;have⟨k9,ab⟩:=ay w1 #[x,y] 42;have aM:=ag ab I.size I;go_upto_region 4 with fail
 exact GN
def NP(r)(A B X Y E n m:Int)(L:bM)(vl vr)(w)(hE:dR r w)(hk:bE r A B X Y E vl vr w)(Z:an w (r+1) vl L):
 Kp 92 #[.pointer r,io,n,m] w (aY r vr w (ci ⟨A,B,X,Y,E,L⟩ (kl n m) (lj n m))):=by
 have H1:=h_ ((EL n m).2 w hE.env.1);have HF:=h_ (λw1 (hb:af w w w1)=>@aY.told r vr vl ⟨A,B,X,Y,E,L⟩ (kl n m) (lj n m) w w1 hk Z hb);have H3:=h_ (uA (kl n m) (lj n m));generalize ci _ _ _=R,cR _ _=V,kl n m=S,lj n m=b at *;simp only[io];go_enter func92,ntmps92;go_upto_region 6 with fail
 go_wp2_with fail
 refine H1.out.mono ?_;rintro e w1 ⟨rfl,I⟩;go_wp2_with fail
 refine (H3.out _).mono ?_;rintro e w5 ⟨rfl,rfl⟩;go_wp2;go_ret;exact HF.out w1 I
def M5(r:Nat)(A B X Y E n m:Int)(L:bM)(vl vr:Value)(aa:CS.ok ⟨A,B,X,Y,E,L⟩)(w:World)(hk:bE r A B X Y E vl vr w)(Z:an w (r+1) vl L):
 Kp 92 #[.pointer (some ⟨r,0,none⟩),iq,n,m] w (aY r vr w (eR ⟨A,B,X,Y,E,L⟩ (jG L ((A,B),n,m,0)))):=by
 have HD:=λW (hb:af w w W)=>O4 (r+1) vl L ((A,B),n,m,0) aa.2.2 W (Z.below hb);simp only[cI] at HD;generalize jG L ((A,B),n,m,0)=o at *;simp only[iq];obtain⟨a,F,rfl,_,_⟩:=Z.form;have⟨s0,s1,s2,s3,s4,s5,sl⟩:=hk.p6;rcases o with _|M
 .have HM:=h_ (λv W (k:bE r A B X Y E (.slice a L.length F) vr W)=>Bm r A B X Y E (.slice a L.length F) vr v W k);have HF:=h_ (λw1 e w2 (hb:af w w w1) h=>@aY.stay r A B X Y E L vr (.slice a L.length F) w w1 w2 e 0 0 0 Z hb h);rw[show de ⟨A,B,X,Y,E,L⟩ none=eR ⟨A,B,X,Y,E,L⟩ none from rfl] at HF;generalize eR ⟨A,B,X,Y,E,L⟩ none=R at *;have a1:=h_ HD;clear HD Z;go_enter func92,ntmps92;go_upto_region 8 with fail
  refine bw [] (λ_=>false) (λ_=>True) (λ_=>True) k_ (trivial) ?_;refine aE ⟨w,ai.refl _ _,trivial⟩ (cj 11 0) 6 ao aB ?_;refine aD 11 ?_;refine bN (some 49) (λv=>λw'=>∃x,v=.tuple #[x,false]) (λv=>λ_ _ h _=>h) (λw' hO _=>(a1.out w' hO.below).mono λe w2 ⟨x,h1,h2,h3⟩=>⟨_,h1,.of_below h3,x,rfl⟩) (λv hne=>?_);refine ap ?_;obtain⟨w8,b1,x,rfl⟩:=id hne;refine aE hne (bk 12 5) 0 (λ_ _ h _=>h) aB ?_;exact GW
 .have hr:r<w.heap.size:=sl;have HF:=h_ (λv w1 e w2 (h0:an w1 w.heap.size v M) (hb:af w.heap.size w w1) h=>@aY.keep r A B X Y E L M vr (.slice a L.length F) v w w1 w2 e h0 hr hb h);have HM:=h_ (λa2 n2 c2 W (k:bE r A B X Y E (.slice a L.length F) vr W)=>Bo r A B X Y E (.slice a L.length F) vr a2 n2 c2 true W k);generalize eR ⟨A,B,X,Y,E,L⟩ (some M)=R at *;have a1:=h_ HD;clear HD Z hr;go_enter func92,ntmps92;go_upto_region 8 with fail
  refine bw [] (λ_=>false) (λ_=>True) (λ_=>True) k_ (trivial) ?_;refine aE ⟨w,ai.refl _ _,trivial⟩ (cj 11 0) 6 ao aB ?_;refine aD 11 ?_;refine bN (some 49) (λv=>λw'=>∃x c,v=.tuple #[.slice x M.length c,true]/\an w' w.heap.size (.slice x M.length c) M) (λv=>λ_ _ ⟨x,c,h1,h2⟩ hb=>⟨x,c,h1,h2.below hb⟩) (λw' hO _=>(a1.out w' hO.below).mono λe w2 ⟨x,h1,h2,h3⟩=>by obtain⟨y,c,rfl,_,_⟩:=(h2 M rfl).form;exact⟨_,h1,.of_below h3,y,c,rfl,(h2 M rfl).le hO.size⟩) (λv hne=>?_);refine ap ?_;obtain⟨w8,b1,x,c,rfl,_⟩:=id hne;refine aE hne (bk 12 5) 0 (λ_ _ ⟨x,c,h1,h2⟩ hb=>⟨x,c,h1,h2.below hb⟩) aB ?_;exact LR
def O0(r)(s:CS)(vl vr:Value)(n m:Int)(t)(h1:t≠iz)(h2:t≠io)(h3:t≠iq)(w)(hk:bE r s.A s.B s.X s.Y s.E vl vr w)(Z:an w (r+1) vl s.L):
 Kp 92 #[.pointer r,t,n,m] w (aY r vr w (cL,s)):=by
 have HF:=h_ (@aY.same r vr vl s cL w w hk Z (.refl _ _));generalize (cL,s)=R at HF ⊢;unfold cL at HF;have g1:=bg h1;have g2:=bg h2;have g3:=bg h3;go_enter func92,ntmps92;go_wp2;go_ret;exact HF.out
def ON(r:Nat)(s:CS)(vl vr:Value)(n:Int)(t)(h1:t≠iy)(h2:t≠it)(h3:t≠iu)(h4:t≠iw)(h5:t≠iA)(h6:t≠ir)(w)(hk:bE r s.A s.B s.X s.Y s.E vl vr w)(Z:an w (r+1) vl s.L):
 Kp 91 #[.pointer r,t,n] w (aY r vr w (cL,s)):=by
 have HF:=h_ (@aY.same r vr vl s cL w w hk Z (.refl _ _));generalize (cL,s)=R at HF ⊢;unfold cL at HF;have g1:=bg h1;have g2:=bg h2;have g3:=bg h3;have g4:=bg h4;have g5:=bg h5;have g6:=bg h6;go_enter func91,ntmps91;go_wp2;go_ret;exact HF.out
def PG(r)(s:CS)(vl vr)(t)(h1:t≠iR)(h2:t≠iO)(h3:t≠iV)(h4:t≠iQ)(h5:t≠iM)(h6:t≠iS)(h7:t≠iU)(h8:t≠iK)(w)(hk:bE r s.A s.B s.X s.Y s.E vl vr w)(Z:an w (r+1) vl s.L):
 Kp 86 #[.pointer r,t] w (aY r vr w (cL,s)):=by
 have HF:=h_ (@aY.same r vr vl s cL w w hk Z (.refl _ _));generalize (cL,s)=R at HF ⊢;unfold cL at HF;have g1:=bg h1;have g2:=bg h2;have g3:=bg h3;have g4:=bg h4;have g5:=bg h5;have g6:=bg h6;have g7:=bg h7;have g8:=bg h8;go_enter func86,ntmps86;go_wp2;go_ret;exact HF.out
def Ss(r)(s:CS)(vr)(t:ak)(aa:s.ok)(w)(hE:dR r w)(hk:dA r s vr w):
 Kp 86 #[.pointer r,t] w (aY r vr w (gQ t s)):=by
 have⟨vl,hk,Z⟩:=hk;have⟨A,B,X,Y,E,L⟩:=s;simp only at hk Z;unfold gQ;by_cases h1:t=iR
 .rw[Vo h1];subst h1;exact No r A B X Y E L vl vr aa w hk Z
 rw[Vm h1];by_cases h2:t=iO
 .rw[Vo h2];subst h2;exact Na r A B X Y E L vl vr aa w hk Z
 rw[Vm h2];by_cases h3:t=iV
 .rw[Vo h3];subst h3;exact NZ r A B X Y E L vl vr aa w hE hk Z
 rw[Vm h3];by_cases h4:t=iQ
 .rw[Vo h4];subst h4;exact NE r A B X Y E L vl vr aa w hE hk Z
 rw[Vm h4];by_cases h5:t=iM
 .rw[Vo h5];subst h5;exact MW r A B X Y E L vl vr aa w hE hk Z
 rw[Vm h5];by_cases h6:t=iS
 .rw[Vo h6];subst h6;exact Ov r A B X Y E L vl vr aa w hk Z
 rw[Vm h6];by_cases h7:t=iU
 .rw[Vo h7];subst h7;exact Oi r A B X Y E L vl vr aa w hE hk Z
 rw[Vm h7];by_cases h8:t=iK
 .rw[Vo h8];subst h8;exact MT r A B X Y E L vl vr aa w hE hk Z
 rw[Vm h8];exact PG r ⟨A,B,X,Y,E,L⟩ vl vr t h1 h2 h3 h4 h5 h6 h7 h8 w hk Z
def Q9(r)(s:CS)(vr)(t:ak)(n:Int)(aa:s.ok)(w)(hE:dR r w)(hk:dA r s vr w):
 Kp 91 #[.pointer r,t,n] w (aY r vr w (gs t n s)):=by
 have⟨vl,hk,Z⟩:=hk;have⟨A,B,X,Y,E,L⟩:=s;simp only at hk Z;unfold gs;by_cases h1:t=iy
 .rw[Vo h1];subst h1;exact Nd r A B X Y E n L vl vr aa w hk Z
 rw[Vm h1];by_cases h2:t=it
 .rw[Vo h2];subst h2;exact Nm r A B X Y E n L vl vr aa w hk Z
 rw[Vm h2];by_cases h3:t=iu
 .rw[Vo h3];subst h3;exact Nh r A B X Y E n L vl vr aa w hE hk Z
 rw[Vm h3];by_cases h4:t=iw
 .rw[Vo h4];subst h4;exact Nf r A B X Y E n L vl vr aa w hE hk Z
 rw[Vm h4];by_cases h5:t=iA
 .rw[Vo h5];subst h5;exact Ny r A B X Y E n L vl vr aa w hE hk Z
 rw[Vm h5];by_cases h6:t=ir
 .rw[Vo h6];subst h6;exact M_ r A B X Y E n L vl vr aa w hE hk Z
 rw[Vm h6];exact ON r ⟨A,B,X,Y,E,L⟩ vl vr n t h1 h2 h3 h4 h5 h6 w hk Z
def Si(r)(s:CS)(vr)(t:ak)(n m:Int)(aa:s.ok)(w)(hE:dR r w)(hk:dA r s vr w):
 Kp 92 #[.pointer r,t,n,m] w (aY r vr w (gu t n m s)):=by
 have⟨vl,hk,Z⟩:=hk;have⟨A,B,X,Y,E,L⟩:=s;simp only at hk Z;unfold gu;by_cases h1:t=iz
 .rw[Vo h1];subst h1;exact Nk r A B X Y E n m L vl vr w hk Z
 rw[Vm h1];by_cases h2:t=io
 .rw[Vo h2];subst h2;exact NP r A B X Y E n m L vl vr w hE hk Z
 rw[Vm h2];by_cases h3:t=iq
 .rw[Vo h3];subst h3;exact M5 r A B X Y E n m L vl vr aa w hk Z
 rw[Vm h3];exact O0 r ⟨A,B,X,Y,E,L⟩ vl vr n m t h1 h2 h3 w hk Z
def sr(h:P:=by rw[VO (by have:=HM.out;omega)]):=h
def sH(h:P:=by have:=a6 x hx;omega):=h
def Gh(h:P:=by simp only[b9.out];exact b3.out.trans h):=h
def wa(h:P:=by rw[b9.out];simp):=h
def wA(h:P:=by rw[<-hm,a4];rfl):=h
def sS(h:P:=by
 have cN:k<tl.length:=by rw[HM.out];exact b2
 have co:(k:Int)<(m:Int):=o_;have hq:wr.cell? ⟨g,1+k,none⟩=some (.string tl[k]):=by
  have h9:=(HT.out.below (hS▸aL)).2 (k+1) (by rw[VA];omega);rw[XC 1 k];exact h9
 have H1:=h_ (HN.out tl[k] (VC cN) wr (hS▸aL));have aG:=h_ (λv2 w2 n Z hn=>a3.step (v2:=v2) (w2:=w2) (n:=n) cN Z hn);unfold cp at aG;generalize tl[k]=x at *;generalize fh (List.take k tl)=b at *;clear a3 U;go_wp2_with fail
 refine H1.out.mono ?_;rintro e w1 ⟨v,rfl,⟨n,rfl,hn⟩,I⟩;have cG:S<=wr.heap.size:=hS▸aL.size;have H:=ag I cG aL;have ax:=Z.below I;generalize cP:(jD x.data.toList).isSome=so at *;have cX:=h_ cP;have cW:=h_ hn;clear cP hn H1 hq;obtain⟨a5,c5,rfl,_⟩:=Z.form;have cQ:xs.length<1000000000000:=o_;have cA:=h_ ad;clear ad;have cb:S<=w1.heap.size:=Vl cG I.size;cases b
 all_goals
  go_wp2_with (at_builtin;refine fY (y:=n) rfl _ _ rfl S _ xs rfl ax rfl cQ cb ?_;intro v' w4 bb K b0)
  refine⟨⟨k+1,xs++[n],s_,o_,H.trans K,aG.out v' w4 n bb cW.out⟩,?_⟩;simp [intOf];omega):=h
def Kx(h:P:=by
 go_enter func55,ntmps55;go_upto_region 4 with fail
 go_loopw [22] (λiv wr=>iv=.int .i64 0/\wr=w) (λ_ _=>0)
 case atStart=>exact⟨rfl,rfl⟩
 case round=>
  obtain⟨rfl,rfl⟩:=hrel;go_wp2_with fail
  refine HP.out.mono ?_;rintro e w9 G;have HQ:=h_ G;obtain⟨rfl,_,_⟩:=G;go_wp2;go_ret;exact HQ.out):=h
def I3(h:P:=by
 have hb:fh tl=false:=HA.out;obtain⟨vl,h1,h2⟩:=b5;have HX:=h_ (J.out (cL,s) _ wr (aY.same h1 h2 (.refl _ _)));clear x0 x1 h1 h2;go_wp2;go_ret;rw[HR.out];exact HX.out):=h
def si(h:P:=by
 obtain⟨vl,h1,h2⟩:=hk;exact⟨vl,h1.below a8,h2.below a8⟩):=h
def we(h:P:=by
 go_wp2;go_ret;rw[HR.out];exact HX.out):=h
def dZ(g:Nat)(xs:bW)(w:World):Prop:=g<w.heap.size/\∀i (_:i<xs.length),w.cell? ⟨g,i,none⟩=some (.string xs[i])
def dZ.below{g:Nat}{xs:bW}{w w':World}(h:dZ g xs w)(hb:af w w w'):dZ g xs w':=⟨Vp h.1 hb.size,λi hi=>(hb.cell (p:=⟨g,i,none⟩) h.1).trans (h.2 i hi)⟩
noncomputable def cp(t:ak):Option Int:=jD t.data.toList
noncomputable def fh(l:bW):Bool:=l.all λt=>(cp t).isSome
def nA(S:Nat)(tl:bW)(k:Nat)(v b:Value)(xs:List Int)(w:World):Prop:=
 ar w S v xs/\xs.length=k/\b=.bool (fh (tl.take k))/\∀j (h:j<tl.length) m,j<k->cp tl[j]=some m->xs[j]?=some m
def nA.step{S:Nat}{tl:bW}{k:Nat}{v v2:Value}{b:Bool}{xs:List Int}{w w2:World}{n:Int}(h:nA S tl k v b xs w)(hk:k<tl.length)(Z:ar w2 S v2 (xs++[n]))(hn:∀m,cp tl[k]=some m->n=m):nA S tl (k+1) v2 (.bool (b&&(cp tl[k]).isSome)) (xs++[n]) w2:=by
 obtain⟨h1,h2,h3,h4⟩:=h;injection h3 with h3;refine⟨Z,by simp [h2],?_,λj hj m ab hm=>?_⟩
 .rw[h3];unfold fh;rw[VF hk,List.all_append];simp
 .by_cases g:j<k
  .rw[WR o_];exact h4 j hj m g hm
  .obtain rfl:j=k:=o_
   rw[Wp o_,h2,XB];exact congrArg some (hn m hm)
def dA.below{r:Nat}{s:CS}{vr:Value}{w w':World}(h:dA r s vr w)(hb:af w w w'):dA r s vr w':=by
 obtain⟨vl,h1,h2⟩:=h;exact⟨vl,h1.below hb,h2.below hb⟩
def aY.closed(r:Nat)(vr:Value)(w:World)(o:fo)(e:Ending):aQ (aY r vr w o e):=λ_ _ ⟨h1,h2,h3⟩ hb=>⟨h1,h2.next hb,h3.below hb⟩
def aY.ahead{r:Nat}{vr:Value}{w w1 w2:World}{o:fo}{e:Ending}(hb:af w w w1)(h:aY r vr w1 o e w2):∃v,e=.returned v/\ai [r] w1 w2/\aY r vr w o (.returned v) w2:=
 ⟨_,h.1,h.2.1,rfl,ku hb h.2.1,h.2.2⟩
def QN(r:Nat)(s:CS)(vr:Value)(t:ak)(g F:Nat)(aa:s.ok)(w:World)(hE:dR r w)(hk:dA r s vr w)(ht:dZ g [t] w)(hc:1<=F):
 Kp 55 #[.pointer (some ⟨r,0,none⟩),.slice (some ⟨g,0,none⟩) 1 F] w (aY r vr w (gQ t s)):=by
 have HP:=h_ (Ss r s vr t aa w hE hk);obtain⟨R,hR⟩:∃R,gQ t s=R:=⟨_,rfl⟩
 rw[hR] at HP ⊢;have q0:w.cell? ⟨g,0,none⟩=some (.string t):=ht.2 0 s_;clear hE hk ht hR;by_cases aZ:F=1
 .subst aZ;exact Kx
 .exact Kx
def PU(r:Nat)(s:CS)(vr:Value)(t:ak)(tl:bW)(g F m:Nat)(R:fo)(hR:R=(cL,s))(hm:tl.length=m)(cy:3<=m)(cm:m<=3000)(a6:∀x∈tl,x.size<=10000)(aa:s.ok)(w:World)(hE:dR r w)(hk:dA r s vr w)(ht:dZ g (t::tl) w)(hc:m+1<=F):
 Kp 55 #[.pointer (some ⟨r,0,none⟩),.slice (some ⟨g,0,none⟩) (m+1) F] w (aY r vr w R):=by
 have HR:=h_ hR;clear hR;cases cc:(t.toList==[112,111,105,110,116])
 all_goals cases bY:(t.toList==[97,116])
 all_goals
  have HN:=h_ (λx (hx:x∈tl) W (hb:af w w W)=>qy x sH W (hE.env.below hb));have aZ:¬F=1:=o_;have HT:=h_ ht;have HM:=h_ hm;obtain⟨S,hS⟩:∃S,w.heap.size=S:=⟨_,rfl⟩
  have HS:=h_ hS;clear ht hm;go_enter func55,ntmps55;go_upto_region 4 with fail
  go_loopw [5,6,22] (λnv bv iv wr=>∃(k:Nat) (xs:List Int),iv=.int .i64 k/\k<=m/\af S w wr/\nA S tl k nv bv xs wr) (λ_ _ iv _=>m - (intOf iv).toNat)
  case atStart=>exact⟨0,[],rfl,VH _,.refl _ _,ar.nil _ _,rfl,rfl,λj h m hj=>by omega⟩
  case round=>
   obtain⟨k,xs,rfl,cF,aL,a3⟩:=hrel;obtain⟨Z,ad,hb,U⟩:=id a3;subst hb;by_cases b2:k<m
   .exact sS
   .obtain rfl:k=m:=o_
    have cB:¬(k:Int)<(k:Int):=o_;have a8:af w w wr:=hS▸aL;have b6:=HT.out.below a8;have b5:dA r s vr wr:=by
     exact si
    have b8:=hE.below a8;have J:Hid (∀o e w2,aY r vr wr o e w2->aY r vr w o e w2):=h_ (λo e w2 ⟨h1,h2,h3⟩=>⟨h1,ku a8 h2,h3⟩);have bZ:r<S:=by obtain⟨vl,h1,_⟩:=hk;exact hS▸h1.lt
    clear hk hE HT HN Z U;obtain⟨Z,_,_,bo⟩:=a3;have cA:=h_ ad;have V:Hid (fh (List.take k tl)=fh tl):=h_ sr;rw[V.out];obtain⟨a5,c5,rfl,az⟩:=Z.form;clear V aL a8 Z;have q0:wr.cell? ⟨g,0,none⟩=some (.string t):=b6.2 0 s_;have m0:((k:Int)==0)=false:=by rw[VD];omega
    have m1:((k:Int)==1)=false:=by rw[VD];omega
    have m2:((k:Int)==2)=false:=by rw[VD];omega
    clear ad bo;generalize fh tl=b at *;obtain⟨vl,h1,h2⟩:=b5;have HX:=h_ (J.out (cL,s) _ wr (aY.same h1 h2 (.refl _ _)));cases b
    all_goals
     exact we
def O6(r:Nat)(s:CS)(vr:Value)(t u u2:ak)(tl:bW)(a4:tl=[u,u2])(g F m:Nat)(R:fo)(hR:R=match cp u,cp u2 with|some a,some b=>gu t a b s|_,_=>(cL,s))(hm:tl.length=m)(a6:∀x∈tl,x.size<=10000)(aa:s.ok)(w:World)(hE:dR r w)(hk:dA r s vr w)(ht:dZ g (t::tl) w)(hc:m+1<=F):
 Kp 55 #[.pointer (some ⟨r,0,none⟩),.slice (some ⟨g,0,none⟩) (m+1) F] w (aY r vr w R):=by
 have cm:m<=3000:=by rw[<-hm,a4];simp
 have cy:1<=m:=by rw[<-hm,a4];simp
 have bz:Hid (m=2):=h_ wA;have b9:=h_ a4;clear a4;obtain⟨o1,ax⟩:∃o,cp u=o:=⟨_,rfl⟩
 obtain⟨o2,bs⟩:∃o,cp u2=o:=⟨_,rfl⟩
 rw[ax,bs] at hR;have b3:=h_ ax;have b4:=h_ bs;have HR:=h_ hR;clear hR ax bs;cases cc:(t.toList==[112,111,105,110,116])
 all_goals cases bY:(t.toList==[97,116])
 all_goals
  have HN:=h_ (λx (hx:x∈tl) W (hb:af w w W)=>qy x sH W (hE.env.below hb));have aZ:¬F=1:=o_;have HT:=h_ ht;have HM:=h_ hm;obtain⟨S,hS⟩:∃S,w.heap.size=S:=⟨_,rfl⟩
  have HS:=h_ hS;clear ht hm;go_enter func55,ntmps55;go_upto_region 4 with fail
  go_loopw [5,6,22] (λnv bv iv wr=>∃(k:Nat) (xs:List Int),iv=.int .i64 k/\k<=m/\af S w wr/\nA S tl k nv bv xs wr) (λ_ _ iv _=>m - (intOf iv).toNat)
  case atStart=>exact⟨0,[],rfl,VH _,.refl _ _,ar.nil _ _,rfl,rfl,λj h m hj=>by omega⟩
  case round=>
   obtain⟨k,xs,rfl,cF,aL,a3⟩:=hrel;obtain⟨Z,ad,hb,U⟩:=id a3;subst hb;by_cases b2:k<m
   .exact sS
   .obtain rfl:k=m:=o_
    have cB:¬(k:Int)<(k:Int):=o_;have a8:af w w wr:=hS▸aL;have b6:=HT.out.below a8;have b5:dA r s vr wr:=by
     exact si
    have b8:=hE.below a8;have J:Hid (∀o e w2,aY r vr wr o e w2->aY r vr w o e w2):=h_ (λo e w2 ⟨h1,h2,h3⟩=>⟨h1,ku a8 h2,h3⟩);have bZ:r<S:=by obtain⟨vl,h1,_⟩:=hk;exact hS▸h1.lt
    clear hk hE HT HN Z U;obtain⟨Z,_,_,bo⟩:=a3;have cA:=h_ ad;have V:Hid (fh (List.take k tl)=fh tl):=h_ sr;rw[V.out];obtain⟨a5,c5,rfl,az⟩:=Z.form;clear V aL a8 Z;have q0:wr.cell? ⟨g,0,none⟩=some (.string t):=b6.2 0 s_;have aF:k=2:=bz.out;have m0:((k:Int)==0)=false:=by rw[VD];omega
    have m1:((k:Int)==1)=false:=by rw[VD];omega
    have m2:((k:Int)==2)=true:=by rw[WO];omega
    have l0:(0:Int)<(k:Int):=o_;have l1:(1:Int)<(k:Int):=o_;obtain⟨g5,rfl,x0,bx,aM⟩:=az 0 o_;have bq:g5≠r:=o_;obtain⟨g6,e6,x1,_,_⟩:=az 1 o_;injection e6 with e6;injection e6 with e6;subst e6;have HA:Hid (fh tl=(o1.isSome&&o2.isSome)):=h_ (by rw[b9.out];unfold fh;simp [b3.out,b4.out]);have ae:∀a,o1=some a->xs[0]?=some a:=λa h=>bo 0 wa a o_ Gh;have cM:∀a,o2=some a->xs[1]?=some a:=λa h=>bo 1 wa a o_ (by simp only[b9.out];exact b4.out.trans h);have ac:=h_ ae;have ab:=h_ cM;clear ad bo ae cM aF az;rcases o1 with _|a1
    .exact I3
    .rcases o2 with _|a2
     .exact I3
     .have hb:fh tl=true:=HA.out;rw[ac.out a1 rfl] at x0;rw[ab.out a2 rfl] at x1;simp only[XS] at x0 x1;have HC:=h_ (λW (hb:af wr wr W)=>Si r s vr t a1 a2 aa W (b8.below hb) (b5.below hb));clear b5 b8;go_upto_region 27 with fail
      refine bw [r] (λ_=>false) (λ_=>True) (λw'=>af wr wr w') k_ ((Vn _ _).drew) ?_;refine aE ⟨wr.drew,(ai.refl _ _).drew,(Vn _ _).drew⟩ (cj 8 0) 2 (bt wr) aB ?_;refine aD 8 ?_;refine bN (some 133) (λv=>λw'=>aY r vr wr (gu t a1 a2 s) (.returned v) w') (λv=>aY.closed _ _ _ _ _) (λw' hO hD=>(HC.out w' hD).mono λe w2 h=>aY.ahead hD h) (λv hne=>?_);refine ap ?_;refine aE hne (bk 9 1) 0 (aY.closed _ _ _ _ _) aB ?_;refine dn λWz a7 aX=>?_
      try dsimp only
      have HX:=h_ (J.out _ _ _ aX);clear x0 x1 a7 aX hne;exact we
def JX(h:P:=by
 try simp only[Value.cells]
 refine aE hne (bk 13 1) 0 (KD.closed (bt wr) _) aB ?_;refine jp k_ (λWz a7 aX=>?_) _;exact bp ab Wz ⟨a7,aX.1,o_,aX.2.head⟩):=h
def LY(h:P:=by
 refine aR [12] ?_;refine am.cons ?_ ?_
 .refine fB (v:=.agg #[(),(),()]) [] [] (.inl c6) (bt wr) (λ_ _ h Z=>Z.belowGe h h.size iB) s_ (λhne=>?_);exact JX
 exact am.nil):=h
def Ln(h:P:=by
 refine aR [12] ?_;refine am.cons ?_ ?_
 .refine fB (v:=.agg #[x,y,z]) [] [] (.inl c6) (bt wr) (λ_ _ h Z=>Z.belowGe h h.size iB) s_ (λhne=>?_);exact JX
 exact am.nil):=h
def Gu(h:P:=by
 try dsimp only
 rintro rM W3 ⟨bi,_,b4,kM⟩;have aM:=bi.below;have⟨a9,ba,cz,bX⟩:=kM.p3;clear s0 s1 s2 s3 s4 s5 bi;go_wp2_with fail
 refine (cu.out W3 (hk.below aM)).mono ?_;intro e w9 G;have HP:=h_ (HF.out W3 e w9 aM G);exact vy):=h
def Gk(h:P:=by
 have h9:=b6.2 1 wa;simp only[b9.out] at h9;exact h9):=h
def yU{l:List UInt8}{p:Int×Int}(h:bA l=some p):bQ p.1 p.2=true:=by
 unfold bA at h;split at h
 .rename_i hx;injection h with h;rw[<-h];exact hx.choose_spec.1
 .cases h
def Ro(r:Nat)(s:CS)(vr:Value)(t u:ak)(tl:bW)(a4:tl=[u])(g F m:Nat)(ab:t≠wPoint)(a2:t≠wAt)(R:fo)(hR:R=match cp u with|some n=>gs t n s|none=>(cL,s))(hm:tl.length=m)(a6:∀x∈tl,x.size<=10000)(aa:s.ok)(w:World)(hE:dR r w)(hk:dA r s vr w)(ht:dZ g (t::tl) w)(hc:m+1<=F):
 Kp 55 #[.pointer (some ⟨r,0,none⟩),.slice (some ⟨g,0,none⟩) (m+1) F] w (aY r vr w R):=by
 have cc:(t.toList==[112,111,105,110,116])=false:=bg ab;have bY:(t.toList==[97,116])=false:=bg a2;obtain⟨o1,ax⟩:∃o,cp u=o:=⟨_,rfl⟩
 rw[ax] at hR;have b3:=h_ ax;clear ax ab a2;have cm:m<=3000:=by rw[<-hm,a4];simp
 have cy:1<=m:=by rw[<-hm,a4];simp
 have bz:Hid (m=1):=h_ wA;have b9:=h_ a4;clear a4;have HR:=h_ hR;clear hR;have HN:=h_ (λx (hx:x∈tl) W (hb:af w w W)=>qy x sH W (hE.env.below hb));have aZ:¬F=1:=o_;have HT:=h_ ht;have HM:=h_ hm;obtain⟨S,hS⟩:∃S,w.heap.size=S:=⟨_,rfl⟩
 have HS:=h_ hS;clear ht hm;go_enter func55,ntmps55;go_upto_region 4 with fail
 go_loopw [5,6,22] (λnv bv iv wr=>∃(k:Nat) (xs:List Int),iv=.int .i64 k/\k<=m/\af S w wr/\nA S tl k nv bv xs wr) (λ_ _ iv _=>m - (intOf iv).toNat)
 case atStart=>exact⟨0,[],rfl,VH _,.refl _ _,ar.nil _ _,rfl,rfl,λj h m hj=>by omega⟩
 case round=>
  obtain⟨k,xs,rfl,cF,aL,a3⟩:=hrel;obtain⟨Z,ad,hb,U⟩:=id a3;subst hb;by_cases b2:k<m
  .exact sS
  .obtain rfl:k=m:=o_
   have cB:¬(k:Int)<(k:Int):=o_;have a8:af w w wr:=hS▸aL;have b6:=HT.out.below a8;have b5:dA r s vr wr:=by
    exact si
   have b8:=hE.below a8;have J:Hid (∀o e w2,aY r vr wr o e w2->aY r vr w o e w2):=h_ (λo e w2 ⟨h1,h2,h3⟩=>⟨h1,ku a8 h2,h3⟩);have bZ:r<S:=by obtain⟨vl,h1,_⟩:=hk;exact hS▸h1.lt
   clear hk hE HT HN Z U;obtain⟨Z,_,_,bo⟩:=a3;have cA:=h_ ad;have V:Hid (fh (List.take k tl)=fh tl):=h_ sr;rw[V.out];obtain⟨a5,c5,rfl,az⟩:=Z.form;clear V aL a8 Z;have q0:wr.cell? ⟨g,0,none⟩=some (.string t):=b6.2 0 s_;have aF:k=1:=bz.out;have m0:((k:Int)==0)=false:=by rw[VD];omega
   have m1:((k:Int)==1)=true:=by rw[WO];omega
   have m2:((k:Int)==2)=false:=by rw[VD];omega
   have l0:(0:Int)<(k:Int):=o_;have l1:(1:Int)<(k:Int)+1:=o_;obtain⟨g5,rfl,x0,bx,aM⟩:=az 0 o_;have HA:Hid (fh tl=o1.isSome):=h_ (by rw[b9.out];unfold fh;simp [b3.out]);have ae:∀a,o1=some a->xs[0]?=some a:=λa h=>bo 0 wa a o_ Gh;have ac:=h_ ae;clear ad bo ae aF az;rcases o1 with _|a1
   .have hb:fh tl=false:=HA.out;obtain⟨vl,h1,h2⟩:=b5;have HX:=h_ (J.out (cL,s) _ wr (aY.same h1 h2 (.refl _ _)));clear x0 h1 h2;exact we
   .have hb:fh tl=true:=HA.out;rw[ac.out a1 rfl] at x0;simp only[XS] at x0;have HC:=h_ (Q9 r s vr t a1 aa wr b8 b5);clear b5 b8;go_wp2_with fail
    refine HC.out.mono ?_;intro e w9 G;have HX:=h_ (J.out _ _ _ G);obtain⟨rfl,_,_⟩:=G;clear x0;exact we
def Ph(r:Nat)(s:CS)(vr:Value)(u:ak)(tl:bW)(a4:tl=[u])(g F m:Nat)(R:fo)(hR:R=de s (dW s.A s.B u.data.toList))(hm:tl.length=m)(a6:∀x∈tl,x.size<=10000)(aa:s.ok)(w:World)(hE:dR r w)(hk:dA r s vr w)(ht:dZ g (wPoint::tl) w)(hc:m+1<=F):
 Kp 55 #[.pointer (some ⟨r,0,none⟩),.slice (some ⟨g,0,none⟩) (m+1) F] w (aY r vr w R):=by
 obtain⟨t,bs⟩:∃t,t=wPoint:=⟨_,rfl⟩
 rw[<-bs] at ht;have cc:(t.toList==[112,111,105,110,116])=true:=by rw[bs,Vw];rfl
 clear bs;have hu:u.size<=10000:=a6 u (by rw[a4];simp);have a1:Hid (tl=[u]):=h_ a4;have cm:m<=3000:=by rw[<-hm,a4];simp
 have cy:1<=m:=by rw[<-hm,a4];simp
 have bz:Hid (m=1):=h_ wA;have b9:=h_ a4;clear a4;have HR:=h_ hR;clear hR;have hC:=aa.1;obtain⟨o,ax⟩:∃o,dW s.A s.B u.data.toList=o:=⟨_,rfl⟩
 have b3:=h_ ax;clear ax;have HN:=h_ (λx (hx:x∈tl) W (hb:af w w W)=>qy x sH W (hE.env.below hb));have aZ:¬F=1:=o_;have HT:=h_ ht;have HM:=h_ hm;obtain⟨S,hS⟩:∃S,w.heap.size=S:=⟨_,rfl⟩
 have HS:=h_ hS;clear ht hm;go_enter func55,ntmps55;go_upto_region 4 with fail
 go_loopw [5,6,22] (λnv bv iv wr=>∃(k:Nat) (xs:List Int),iv=.int .i64 k/\k<=m/\af S w wr/\nA S tl k nv bv xs wr) (λ_ _ iv _=>m - (intOf iv).toNat)
 case atStart=>exact⟨0,[],rfl,VH _,.refl _ _,ar.nil _ _,rfl,rfl,λj h m hj=>by omega⟩
 case round=>
  obtain⟨k,xs,rfl,cF,aL,a3⟩:=hrel;obtain⟨Z,ad,hb,U⟩:=id a3;subst hb;by_cases b2:k<m
  .exact sS
  .obtain rfl:k=m:=o_
   have cB:¬(k:Int)<(k:Int):=o_;have a8:af w w wr:=hS▸aL;have b6:=HT.out.below a8;have b5:dA r s vr wr:=by
    exact si
   have b8:=hE.below a8;have J:Hid (∀o e w2,aY r vr wr o e w2->aY r vr w o e w2):=h_ (λo e w2 ⟨h1,h2,h3⟩=>⟨h1,ku a8 h2,h3⟩);have bZ:r<S:=by obtain⟨vl,h1,_⟩:=hk;exact hS▸h1.lt
   clear hk hE HT HN Z U;obtain⟨Z,_,_,bo⟩:=a3;have cA:=h_ ad;have V:Hid (fh (List.take k tl)=fh tl):=h_ sr;rw[V.out];obtain⟨a5,c5,rfl,az⟩:=Z.form;clear V aL a8 Z;have q0:wr.cell? ⟨g,0,none⟩=some (.string t):=b6.2 0 s_;have aF:k=1:=bz.out;have m0:((k:Int)==0)=false:=by rw[VD];omega
   have m1:((k:Int)==1)=true:=by rw[WO];omega
   have m2:((k:Int)==2)=false:=by rw[VD];omega
   have l0:(0:Int)<(k:Int):=o_;have l1:(1:Int)<(k:Int)+1:=o_;have q1:wr.cell? ⟨g,1,none⟩=some (.string u):=by
    exact Gk
   have bq:=b6.1;obtain⟨vl,hk,Z⟩:=b5;obtain⟨A,B,X,Y,E,L⟩:=s;simp only at hk Z hC b3 HR;have⟨s0,s1,s2,s3,s4,s5,sl⟩:=hk.p6;have HA:=λW (hb:af wr wr W)=>NA A B u hC o_ W (b8.env.below hb);rw[b3.out] at HA;clear ad bo aF az;rcases o with _|⟨x,y,z⟩
   .have ac:=h_ HA;have cu:=h_ (λW (k:bE r A B X Y E vl vr W)=>mU r A B X Y E 0 0 0 vl vr false W k);have HF:Hid (∀w1 e w2,af wr wr w1->fQ r (cR eX false) (if false then bE r A B 0 0 0 vl vr else bE r A B X Y E vl vr) w1 e w2->aY r vr w R e w2):=h_ (λw1 e w2 hb h=>by rw[HR.out,b3.out];exact J.out _ _ _ (@aY.stay r A B X Y E L vr vl wr w1 w2 e 0 0 0 Z hb h));clear HA Z;go_upto_region 14 with fail
    apply fZ (λab Wz=>ai [] wr Wz/\(λw'=>af wr wr w') Wz/\wr.heap.size<=ab/\ah ab #[(),(),()] 46 Wz)
    .intro bp;refine bw [] (λ_=>false) (λ_=>True) (KD (λw'=>af wr wr w') []) k_ ⟨(bt wr) _ _ (Vn _ _) ((Vn _ _).drew),bU.nil _⟩ ?_;refine aE ⟨wr,ai.refl _ _,Vn _ _,bU.nil _⟩ (cj 7 0) 7 (KD.closed (bt wr) _) aB ?_;refine aR [7,11] ?_;refine am.cons ?_ ?_
     .refine ep (v:=.tuple #[.agg #[(),(),()],false]) (some 67) (λw'=>af wr wr w') (bt wr) (λ_ _=>by simp) (λw' hC=>(ac.out w' hC).mono λ_ _ h=>⟨h.1,.of_below h.2,ag h.2 hC.size hC⟩) (λhne=>?_);refine ap ?_;refine aE hne (bk 8 3) 3 (KD.closed (bt wr) _) aB ?_;refine aR [11] ?_;refine am.cons ?_ ?_
      .refine dB (zs:=#[(),(),()]) (T:=46) (bt wr) (λab c6 ae hne=>?_);refine ap ?_;exact LY
      exact am.nil
     refine am.cons ?_ ?_
     .refine dB (zs:=#[(),(),()]) (T:=46) (bt wr) (λab c6 ae hne=>?_);refine ap ?_;refine aR [7] ?_;refine am.cons ?_ ?_
      .refine ep (v:=.tuple #[.agg #[(),(),()],false]) (some 67) (λw'=>af wr wr w') (bt wr) (λ_ _=>by simp) (λw' hC=>(ac.out w' hC).mono λ_ _ h=>⟨h.1,.of_below h.2,ag h.2 hC.size hC⟩) (λhne=>?_);refine ap ?_;refine aE hne (bk 8 3) 2 (KD.closed (bt wr) _) aB ?_;exact LY
      exact am.nil
     exact am.nil
    exact Gu
   .have ac:=h_ HA;have cu:=h_ (λW (k:bE r A B X Y E vl vr W)=>mU r A B X Y E x y z vl vr true W k);have HF:Hid (∀w1 e w2,af wr wr w1->fQ r (cR eX true) (if true then bE r A B x y z vl vr else bE r A B X Y E vl vr) w1 e w2->aY r vr w R e w2):=h_ (λw1 e w2 hb h=>by rw[HR.out,b3.out];exact J.out _ _ _ (@aY.move r A B X Y E L vr vl wr w1 w2 e x y z Z hb h));clear HA Z;go_upto_region 14 with fail
    apply fZ (λab Wz=>ai [] wr Wz/\(λw'=>af wr wr w') Wz/\wr.heap.size<=ab/\ah ab #[x,y,z] 46 Wz)
    .intro bp;refine bw [] (λ_=>false) (λ_=>True) (KD (λw'=>af wr wr w') []) k_ ⟨(bt wr) _ _ (Vn _ _) ((Vn _ _).drew),bU.nil _⟩ ?_;refine aE ⟨wr,ai.refl _ _,Vn _ _,bU.nil _⟩ (cj 7 0) 7 (KD.closed (bt wr) _) aB ?_;refine aR [7,11] ?_;refine am.cons ?_ ?_
     .refine ep (v:=.tuple #[.agg #[x,y,z],true]) (some 67) (λw'=>af wr wr w') (bt wr) (λ_ _=>by simp) (λw' hC=>(ac.out w' hC).mono λ_ _ h=>⟨h.1,.of_below h.2,ag h.2 hC.size hC⟩) (λhne=>?_);refine ap ?_;refine aE hne (bk 8 3) 3 (KD.closed (bt wr) _) aB ?_;refine aR [11] ?_;refine am.cons ?_ ?_
      .refine dB (zs:=#[(),(),()]) (T:=46) (bt wr) (λab c6 ae hne=>?_);refine ap ?_;exact Ln
      exact am.nil
     refine am.cons ?_ ?_
     .refine dB (zs:=#[(),(),()]) (T:=46) (bt wr) (λab c6 ae hne=>?_);refine ap ?_;refine aR [7] ?_;refine am.cons ?_ ?_
      .refine ep (v:=.tuple #[.agg #[x,y,z],true]) (some 67) (λw'=>af wr wr w') (bt wr) (λ_ _=>by simp) (λw' hC=>(ac.out w' hC).mono λ_ _ h=>⟨h.1,.of_below h.2,ag h.2 hC.size hC⟩) (λhne=>?_);refine ap ?_;refine aE hne (bk 8 3) 2 (KD.closed (bt wr) _) aB ?_;exact Ln
      exact am.nil
     exact am.nil
    exact Gu
def Sv(r:Nat)(s:CS)(vr:Value)(u:ak)(tl:bW)(a4:tl=[u])(g F m:Nat)(R:fo)(hR:R=gp u s)(hm:tl.length=m)(a6:∀x∈tl,x.size<=10000)(aa:s.ok)(w:World)(hE:dR r w)(hk:dA r s vr w)(ht:dZ g (wAt::tl) w)(hc:m+1<=F):
 Kp 55 #[.pointer (some ⟨r,0,none⟩),.slice (some ⟨g,0,none⟩) (m+1) F] w (aY r vr w R):=by
 obtain⟨t,bs⟩:∃t,t=wAt:=⟨_,rfl⟩
 rw[<-bs] at ht;have cc:(t.toList==[112,111,105,110,116])=false:=by rw[bs,Vw];rfl
 have bY:(t.toList==[97,116])=true:=by rw[bs,Vw];rfl
 clear bs;have hu:u.size<=10000:=a6 u (by rw[a4];simp);have cm:m<=3000:=by rw[<-hm,a4];simp
 have cy:1<=m:=by rw[<-hm,a4];simp
 have bz:Hid (m=1):=h_ wA;have b9:=h_ a4;clear a4;have HR:=h_ hR;clear hR;have hC:=aa.1;obtain⟨o,ax⟩:∃o,bA u.data.toList=o:=⟨_,rfl⟩
 have b3:=h_ ax;have cM:Hid (∀p,o=some p->bQ p.1 p.2=true):=h_ (λp h=>yU (ax.trans h));clear ax;have HN:=h_ (λx (hx:x∈tl) W (hb:af w w W)=>qy x sH W (hE.env.below hb));have aZ:¬F=1:=o_;have HT:=h_ ht;have HM:=h_ hm;obtain⟨S,hS⟩:∃S,w.heap.size=S:=⟨_,rfl⟩
 have HS:=h_ hS;clear ht hm;go_enter func55,ntmps55;go_upto_region 4 with fail
 go_loopw [5,6,22] (λnv bv iv wr=>∃(k:Nat) (xs:List Int),iv=.int .i64 k/\k<=m/\af S w wr/\nA S tl k nv bv xs wr) (λ_ _ iv _=>m - (intOf iv).toNat)
 case atStart=>exact⟨0,[],rfl,VH _,.refl _ _,ar.nil _ _,rfl,rfl,λj h m hj=>by omega⟩
 case round=>
  obtain⟨k,xs,rfl,cF,aL,a3⟩:=hrel;obtain⟨Z,ad,hb,U⟩:=id a3;subst hb;by_cases b2:k<m
  .exact sS
  .obtain rfl:k=m:=o_
   have cB:¬(k:Int)<(k:Int):=o_;have a8:af w w wr:=hS▸aL;have b6:=HT.out.below a8;have b5:dA r s vr wr:=by
    exact si
   have b8:=hE.below a8;have J:Hid (∀o e w2,aY r vr wr o e w2->aY r vr w o e w2):=h_ (λo e w2 ⟨h1,h2,h3⟩=>⟨h1,ku a8 h2,h3⟩);have bZ:r<S:=by obtain⟨vl,h1,_⟩:=hk;exact hS▸h1.lt
   clear hk hE HT HN Z U;obtain⟨Z,_,_,bo⟩:=a3;have cA:=h_ ad;have V:Hid (fh (List.take k tl)=fh tl):=h_ sr;rw[V.out];obtain⟨a5,c5,rfl,az⟩:=Z.form;clear V aL a8 Z;have q0:wr.cell? ⟨g,0,none⟩=some (.string t):=b6.2 0 s_;have aF:k=1:=bz.out;have m0:((k:Int)==0)=false:=by rw[VD];omega
   have m1:((k:Int)==1)=true:=by rw[WO];omega
   have m2:((k:Int)==2)=false:=by rw[VD];omega
   have l0:(0:Int)<(k:Int):=o_;have l1:(1:Int)<(k:Int)+1:=o_;have q1:wr.cell? ⟨g,1,none⟩=some (.string u):=by
    exact Gk
   have bq:=b6.1;obtain⟨vl,hk,Z⟩:=b5;obtain⟨A,B,X,Y,E,L⟩:=s;simp only at hk Z hC HR;have HA:=wW u o_ wr b8.env;rw[b3.out] at HA;clear ad bo aF az;rcases o with _|⟨a,b⟩
   .simp only[oL] at HA;have ac:=h_ HA;clear HA;have HX:=h_ (λw2 (hb:af wr wr w2)=>J.out (cL,⟨A,B,X,Y,E,L⟩) _ w2 (@aY.same r vr vl ⟨A,B,X,Y,E,L⟩ cL wr w2 hk Z hb));clear hk Z;go_upto_region 17 with fail
    go_wp2_with fail
    refine ac.out.mono ?_;rintro e w1 ⟨rfl,I⟩;obtain⟨k9,ab⟩:=ay w1 #[(),()] 96;have aM:=ag ab I.size I;go_upto_region 18 with fail
    clear ab q1;generalize w1.alloc _=W3 at *;generalize w1.heap.size=rN at *;go_wp2;go_ret;rw[HR.out,show gp u ⟨A,B,X,Y,E,L⟩=(cL,⟨A,B,X,Y,E,L⟩) from by unfold gp;rw[b3.out]];exact HX.out _ aM
   .simp only[oL] at HA;have ac:=h_ HA;clear HA;have HP:=h_ (NB A B a b hC (cM.out _ rfl));have bx:Hid (R=de ⟨A,B,X,Y,E,L⟩ (jH A B a b).head?):=h_ (by rw[HR.out];unfold gp;rw[b3.out]);generalize jH A B a b=PL at *;generalize ks a b=pb at *;rcases PL with _|⟨⟨x,y,z⟩,rest⟩
    .have HX:=h_ (λw2 (hb:af wr wr w2)=>J.out (nD,⟨A,B,X,Y,E,L⟩) _ w2 (@aY.same r vr vl ⟨A,B,X,Y,E,L⟩ nD wr w2 hk Z hb));have ae:=λW (hb:af wr wr W)=>hk.below hb;clear Z;go_upto_region 17 with fail
     go_wp2_with fail
     refine ac.out.mono ?_;rintro e w1 ⟨rfl,I⟩;obtain⟨k9,ab⟩:=ay w1 #[a,b] 96;have aM:=ag ab I.size I;go_upto_region 18 with fail
     clear ab q1;generalize w1.alloc _=W3 at *;generalize w1.heap.size=rN at *;have b7:=ae _ aM;have⟨s0,s1,s2,s3,s4,s5,sl⟩:=b7.p6;have⟨cz,cv,bp⟩:=k9.p2;clear ae hk b7;go_upto_region 20 with fail
     refine bw [] (λ_=>false) (λ_=>True) (λ_=>True) k_ (trivial) ?_;refine aE ⟨W3,ai.refl _ _,trivial⟩ (cj 5 0) 6 ao aB ?_;refine aD 5 ?_;refine bN (some 96) (λv=>λw'=>∃c:ck×Nat,v=.tuple #[.slice c.1 0 c.2,pb]) (λv=>λ_ _ h _=>h) (λw' hO _=>(HP.out w').mono λe w2 ⟨v,h1,h2,h3⟩=>by obtain⟨x,c,rfl,_⟩:=h2.form;exact⟨_,h1,.of_below h3,(x,c),rfl⟩) (λv hne=>?_);refine ap ?_;obtain⟨w8,b1,⟨x8,c8⟩,rfl⟩:=id hne;refine aE hne (bk 6 5) 0 (λ_ _ h _=>h) aB ?_;refine dn λWz a7 aX=>?_
     try dsimp only
     have bi:=ag a7.below aM.size aM;clear aX hne b1 a7 s0 s1 s2 s3 s4 s5 cz cv bp;go_wp2;go_ret;rw[bx.out];exact HX.out _ bi
    .have cu:=h_ (λW (k:bE r A B X Y E vl vr W)=>mU r A B X Y E x y z vl vr true W k);have HF:Hid (∀w1 e w2,af wr wr w1->fQ r (cR eX true) (if true then bE r A B x y z vl vr else bE r A B X Y E vl vr) w1 e w2->aY r vr w R e w2):=h_ (λw1 e w2 hb h=>by rw[bx.out];exact J.out _ _ _ (@aY.move r A B X Y E L vr vl wr w1 w2 e x y z Z hb h));clear Z;go_upto_region 17 with fail
     go_wp2_with fail
     refine ac.out.mono ?_;rintro e w1 ⟨rfl,I⟩;obtain⟨k9,ab⟩:=ay w1 #[a,b] 96;have aM:=ag ab I.size I;go_upto_region 18 with fail
     clear ab q1;generalize w1.alloc _=W3 at *;generalize w1.heap.size=rN at *;have b7:=hk.below aM;have⟨s0,s1,s2,s3,s4,s5,sl⟩:=b7.p6;have⟨cz,cv,bp⟩:=k9.p2;generalize b4:(x,y,z)::rest=PL at *;have ca:(0:Int)<(PL.length:Int):=by rw[<-b4];simp
     have c4:((PL.length:Int)==0)=false:=by rw[VD];omega
     go_upto_region 20 with fail
     refine bw [] (λ_=>false) (λ_=>True) (λ_=>True) k_ (trivial) ?_;refine aE ⟨W3,ai.refl _ _,trivial⟩ (cj 5 0) 6 ao aB ?_;refine aD 5 ?_;refine bN (some 96) (λv=>λw'=>∃c:ck×Nat,v=.tuple #[.slice c.1 PL.length c.2,pb]/\bI w' W3.heap.size (.slice c.1 PL.length c.2) PL) (λv=>λ_ _ ⟨c,h1,h2⟩ hb=>⟨c,h1,h2.below hb⟩) (λw' hO _=>(HP.out w').mono λe w2 ⟨v,h1,h2,h3⟩=>by obtain⟨x,c,rfl,_⟩:=h2.form;exact⟨_,h1,.of_below h3,(x,c),rfl,h2.le hO.size⟩) (λv hne=>?_);refine ap ?_;obtain⟨w8,b1,⟨x8,c8⟩,rfl,_⟩:=id hne;refine aE hne (bk 6 5) 0 (λ_ _ ⟨c,h1,h2⟩ hb=>⟨c,h1,h2.below hb⟩) aB ?_;refine dn λWz a7 aX=>?_
     try dsimp only
     have bi:=ag a7.below aM.size aM;obtain⟨c',a2,bX⟩:=aX;have h3:x8=c'.1/\c8=c'.2:=by simpa using a2
     rw[<-h3.1,<-h3.2] at bX;obtain⟨a9,c9,e9,a1⟩:=bX.form;injection e9 with e9 _ ba;subst e9 ba;subst b4;obtain⟨g9,rfl,y0,y1,y2,cT,_⟩:=a1 0 s_;simp only[XI,Nat.zero_mul,V9] at y0 y1 y2;clear hne b1 a7 s0 s1 s2 s3 s4 s5 cz cv bp a1 bX a2 h3 b7;replace aM:=bi;go_wp2_with fail
     refine (cu.out Wz (hk.below aM)).mono ?_;intro e w9 G;have HP:=h_ (HF.out Wz e w9 aM G);exact Ao
def yh(t u:ak)(s:CS):dt [t,u] s=if t=wPoint then de s (dW s.A s.B u.data.toList) else if t=wAt then gp u s else match cp u with|some n=>gs t n s|none=>(cL,s):=rfl
def UV(r:Nat)(s:CS)(vr:Value)(V:bW)(g F:Nat)(G:V≠[])(H:V.length<=3001)(a6:∀x∈V,x.size<=10000)(aa:s.ok)(w:World)(hE:dR r w)(hk:dA r s vr w)(ht:dZ g V w)(hc:V.length<=F):
 Kp 55 #[.pointer (some ⟨r,0,none⟩),.slice (some ⟨g,0,none⟩) V.length F] w (aY r vr w (dt V s)):=by
 match V,G,H,a6,ht,hc with
 |[t],_,_,a6,ht,hc=>exact QN r s vr t g F aa w hE hk ht hc
 |[t,u],_,_,a6,ht,hc=>
  have ax:∀x∈[u],x.size<=10000:=λx hx=>a6 x (Xd _ hx);by_cases h1:t=wPoint
  .subst h1;exact Ph r s vr u [u] rfl g F 1 _ ((yh _ _ _).trans (Vo rfl)) rfl ax aa w hE hk ht hc
  .by_cases h2:t=wAt
   .subst h2;exact Sv r s vr u [u] rfl g F 1 _ ((yh _ _ _).trans ((Vm h1).trans (Vo rfl))) rfl ax aa w hE hk ht hc
   .exact Ro r s vr t u [u] rfl g F 1 h1 h2 _ ((yh _ _ _).trans ((Vm h1).trans (Vm h2))) rfl ax aa w hE hk ht hc
 |[t,u,u2],_,_,a6,ht,hc=>exact O6 r s vr t u u2 [u,u2] rfl g F 2 _ rfl rfl (λx hx=>a6 x (Xd _ hx)) aa w hE hk ht hc
 |t::u::u2::u3::tl,_,H,a6,ht,hc=>
  refine PU r s vr t (u::u2::u3::tl) g F (tl.length+3) _ rfl rfl o_ (by simp at H;omega) (λx hx=>a6 x (Xd _ hx)) aa w hE hk ht (by simpa using hc)
def fM(h:P:=by
 go_enter func69,ntmps69;exact rV):=h
def cr(t:ak):ak:=
 if t=iR then ⟨#[]⟩
 else if t=iO then ⟨#[]⟩
 else if t=iV then ⟨#[]⟩
 else if t=iQ then ⟨#[]⟩
 else if t=iM then ⟨#[]⟩
 else if t=iS then ⟨#[]⟩
 else if t=iU then ⟨#[]⟩
 else if t=iK then ⟨#[]⟩
 else if t=iy then ⟨#[110]⟩
 else if t=it then ⟨#[110]⟩
 else if t=iu then ⟨#[110]⟩
 else if t=iw then ⟨#[110]⟩
 else if t=iA then ⟨#[110]⟩
 else if t=ir then ⟨#[110]⟩
 else if t=iz then ⟨#[110,110]⟩
 else if t=io then ⟨#[110,110]⟩
 else if t=iq then ⟨#[110,110]⟩
 else if t=wAt then ⟨#[102]⟩
 else if t=wPoint then ⟨#[119]⟩
 else ⟨#[63]⟩
def jt(t:ak)(w):Rw 69 #[t] w (.string (cr t)):=by
 unfold cr;by_cases h0:t=iR
 .rw[Vo h0];subst h0;simp only[iR];exact fM
 rw[Vm h0];have g0:=bg h0;by_cases h1:t=iO
 .rw[Vo h1];subst h1;simp only[iO];exact fM
 rw[Vm h1];have g1:=bg h1;by_cases h2:t=iV
 .rw[Vo h2];subst h2;simp only[iV];exact fM
 rw[Vm h2];have g2:=bg h2;by_cases h3:t=iQ
 .rw[Vo h3];subst h3;simp only[iQ];exact fM
 rw[Vm h3];have g3:=bg h3;by_cases h4:t=iM
 .rw[Vo h4];subst h4;simp only[iM];exact fM
 rw[Vm h4];have g4:=bg h4;by_cases h5:t=iS
 .rw[Vo h5];subst h5;simp only[iS];exact fM
 rw[Vm h5];have g5:=bg h5;by_cases h6:t=iU
 .rw[Vo h6];subst h6;simp only[iU];exact fM
 rw[Vm h6];have g6:=bg h6;by_cases h7:t=iK
 .rw[Vo h7];subst h7;simp only[iK];exact fM
 rw[Vm h7];have g7:=bg h7;by_cases h8:t=iy
 .rw[Vo h8];subst h8;simp only[iy];exact fM
 rw[Vm h8];have g8:=bg h8;by_cases h9:t=it
 .rw[Vo h9];subst h9;simp only[it];exact fM
 rw[Vm h9];have g9:=bg h9;by_cases F:t=iu
 .rw[Vo F];subst F;simp only[iu];exact fM
 rw[Vm F];have aF:=bg F;by_cases U:t=iw
 .rw[Vo U];subst U;simp only[iw];exact fM
 rw[Vm U];have ax:=bg U;by_cases H:t=iA
 .rw[Vo H];subst H;simp only[iA];exact fM
 rw[Vm H];have ab:=bg H;by_cases K:t=ir
 .rw[Vo K];subst K;simp only[ir];exact fM
 rw[Vm K];have aa:=bg K;by_cases J:t=iz
 .rw[Vo J];subst J;simp only[iz];exact fM
 rw[Vm J];have ac:=bg J;by_cases I:t=io
 .rw[Vo I];subst I;simp only[io];exact fM
 rw[Vm I];have ae:=bg I;by_cases V:t=iq
 .rw[Vo V];subst V;simp only[iq];exact fM
 rw[Vm V];have ad:=bg V;by_cases g:t=wAt
 .rw[Vo g];subst g;simp only[wAt];exact fM
 rw[Vm g];have Z:=bg g;by_cases G:t=wPoint
 .rw[Vo G];subst G;simp only[wPoint];exact fM
 rw[Vm G];have az:=bg G;exact fM
def qV{s:CS}{o:Option P3}(h:s.ok)(Z:∀p,o=some p->cf s.A s.B p):(de s o).2.ok:=by
 cases o with
 |none=>exact h
 |some p=>exact⟨h.1,Z p rfl,h.2.2⟩
def Dq{s:CS}{b}{A B}(h:s.ok)(hb:b=true->be A B=true):(gT s b A B).2.ok:=by
 cases b
 .exact h
 .exact⟨hb rfl,cf.zero _ _,h.2.2⟩
def DI{s:CS}{o:Option (bM)}(h:s.ok)(Z:∀M,o=some M->eJ M):(eR s o).2.ok:=by
 cases o with
 |none=>exact h
 |some M=>exact⟨h.1,h.2.1,Z M rfl⟩
def pj{s:CS}{t}{b}(h:s.ok):(ci s t b).2.ok:=by cases b<;>exact h
def Sh{a e}(h:au a (e*e)=1):au a e=1:=by
 unfold au at h ⊢;have h1:Int.gcd a e∣Int.gcd a (e*e):=YL (WA a e) (Xl (Wi a e));have h2:Int.gcd a (e*e)=1:=o_;rw[h2] at h1;have:=Nat.dvd_one.1 h1;omega
def Uk{A B x e}(hA:bh A)(hB:a_ B)(hx:a_ x)(he:1<=e/\e<=20)(hg:au x e=1){p:P3}(h:p∈jd A B x e):cf A B p:=by
 have db:=nN (lV hA hB hx he);unfold jd at h;split at h
 .rename_i hs;have hq:=eq_of_beq hs;split at h
  .rename_i hz;rw[hz] at hq;simp at h;subst h;exact .inr ⟨hx,he,hg,by show _<=(0:Int)/\(0:Int)<=_;omega,by show (0:Int)*0=cvV A B x e;omega⟩
  .simp at h;rcases h with rfl|rfl
   .exact .inr ⟨hx,he,hg,by show _<=-_/\-_<=_;omega,by show -_*-_=cvV A B x e;rw[V8];exact hq⟩
   .exact .inr ⟨hx,he,hg,by show _<=aq _/\aq _<=_;omega,hq⟩
 .simp at h
def Ur{A B a b}(hA:bh A)(hB:a_ B)(hf:bQ a b=true){p:P3}(h:p∈jH A B a b):cf A B p:=by
 unfold jH at h;split at h
 .rename_i G;unfold ks at G;unfold bQ at hf;simp at G hf;have⟨⟨h1,h2⟩,h3⟩:=G;have⟨⟨h4,h5⟩,h6⟩:=hf;have hq:=eq_of_beq h1;have hr:=zH (bO h4).1;rw[<-hq] at h6;exact Uk hA hB (bO h3) ⟨hr,h2⟩ (Sh h6) h
 .simp at h
def Q6{s:CS}(h:s.ok)(V):(dt V s).2.ok:=by
 have⟨hA,hB⟩:=fs h.1;have ca:∀w,(gQ w s).2.ok:=by
  intro w;unfold gQ
  repeat' split
  .exact qV h λp G=>by cases G;exact h.2.1.neg
  .exact qV h λp G=>Fw hA hB h.2.1 h.2.1 G
  .exact h
  .exact pj h
  .exact h
  .exact DI h λM hM=>QR h.2.2 hM
  .exact h
  .exact h
  .exact h
 have b5:∀w n,(gs w n s).2.ok:=by
  intro w n;unfold gs;split
  .refine qV h λp G=>?_;split at G
   .exact TL hA hB h.2.1 G
   .cases G
  repeat' split
  .exact Dq h λhb=>by
    simp at hb;exact hb.2
  .exact pj h
  .exact pj h
  .exact pj h
  .exact pj h
  .exact h
 have bp:∀w a b,(gu w a b s).2.ok:=by
  intro w a b;unfold gu
  repeat' split
  .exact Dq h λhb=>hb
  .exact pj h
  .refine DI h λM hM=>?_;unfold jG at hM;split at hM
   .rename_i he;exact C4 h.2.2 he hM
   .cases hM
  .exact h
 have bY:∀t,(gp t s).2.ok:=by
  intro t;unfold gp;split
  .exact h
  .rename_i x hx;refine qV h λp G=>Ur hA hB (yU hx) (List.mem_of_mem_head? G)
 unfold dt;split
 .exact ca _
 .split
  .exact qV h λp G=>TZ G
  .split
   .exact bY _
   .split
    .exact b5 _ _
    .exact h
 .split
  .exact bp _ _ _
  .exact h
 .exact h
def qI(s:CS)(o:Option P3):(de s o).1.size<=500:=by cases o<;>exact (by decide:(2:Nat)<=500)
def Cz(s:CS)(b)(A B):(gT s b A B).1.size<=500:=by cases b<;>exact (by decide:(2:Nat)<=500)
def Cy(s:CS)(o:Option (bM)):(eR s o).1.size<=500:=by cases o<;>exact (by decide:(2:Nat)<=500)
def oS(s:CS)(t)(b)(h:t.size<=500):(ci s t b).1.size<=500:=by
 cases b
 .exact (by decide:(2:Nat)<=500)
 .exact h
def nL:cL.size<=500:=(by decide:(4:Nat)<=500)
def TS(A B)(p:P3):0<=(cg A B p).getD 0/\(cg A B p).getD 0<=1000:=by
 cases h:cg A B p with
 |none=>exact⟨d_,d_⟩
 |some k=>
  have:=uF _ _ _ _ h;simp;omega
def B8{s:CS}(h:s.ok)(V):(dt V s).1.size<=500:=by
 have ca:∀w,(gQ w s).1.size<=500:=by
  intro w;unfold gQ
  repeat' split
  .exact qI _ _
  .exact qI _ _
  .have:=RP h.2.1;simp only at this ⊢;omega
  .have h1:=TS s.A s.B (s.X,s.Y,s.E);have h2:=dX ((cg s.A s.B (s.X,s.Y,s.E)).getD 0) o_;exact oS _ _ _ o_
  .have hb:=zy s.A s.B;have z1:=dX (fD s.A s.B) o_;have z2:=dX (fU s.A s.B) o_;have e1:(⟨#[44]⟩:ak).size=1:=rfl;show (mG s.A s.B).size<=500;unfold mG;exact vV
  .exact Cy _ _
  .show (kL (fK s.L (s.A,s.B))).size<=500;cases hf:fK s.L (s.A,s.B) with
   |none=>exact (by decide:(4:Nat)<=500)
   |some e=>
    have he:=ni (yg h.2.2 hf);have z1:=dX e.2.1 o_;have z2:=dX e.2.2.1 o_;have e1:(⟨#[46,46]⟩:ak).size=2:=rfl;unfold kL;exact vV
  .have hl:=h.2.2.2.2;have z1:=dX (s.L.length:Int) o_;show (aC (s.L.length:Int)).size<=500;omega
  .exact nL
 have b5:∀w n,(gs w n s).1.size<=500:=by
  intro w n;unfold gs;split
  .exact qI _ _
  repeat' split
  .exact Cz _ _ _ _
  .have⟨k,b,_,hk,hR⟩:=yn (A:=s.A) (B:=s.B) (p:=n) s;rw[hR];have:=dX k hk;exact oS _ _ _ o_
  .have⟨k,b,_,hk,hR⟩:=yp (A:=s.A) (B:=s.B) (p:=n) s;rw[hR];have:=dX k hk;exact oS _ _ _ o_
  .have⟨S,T,b,_,_,h1,h2,hR⟩:=yr (p:=n) h.1 s;rw[hR];have e1:(⟨#[44]⟩:ak).size=1:=rfl;exact oS _ _ _ u_
  .have⟨na,da,nb,db,b,_,h1,h2,hR⟩:=x_ (n:=n) h.1 h.2.1 s;rw[hR];have:=R_ na da nb db h1 h2;exact oS _ _ _ o_
  .exact nL
 have bp:∀w a b,(gu w a b s).1.size<=500:=by
  intro w a b;unfold gu
  repeat' split
  .exact Cz _ _ _ _
  .have:=SG a b;exact oS _ _ _ o_
  .exact Cy _ _
  .exact nL
 have bY:∀t,(gp t s).1.size<=500:=by
  intro t;unfold gp;split
  .exact nL
  .exact qI _ _
 unfold dt;split
 .exact ca _
 .split
  .exact qI _ _
  .split
   .exact bY _
   .split
    .exact b5 _ _
    .exact nL
 .split
  .exact bp _ _ _
  .exact nL
 .exact nL
def ru{s:CS}(h:s.ok)(K):(b_ K s).2.ok:=by
 induction K using snoc_ind with
 |h0=>exact h
 |h1 K l g=>rw[oZ];exact Q6 g _
def CX{s:CS}(h:s.ok)(K):∀r∈(b_ K s).1,r.size<=500:=by
 induction K using snoc_ind with
 |h0=>intro r hr;simp [RU] at hr
 |h1 K l g=>
  rw[oZ];intro r hr;rcases Wy.1 hr with hr|hr
  .exact g r hr
  .simp at hr;subst hr;exact B8 (ru h K) _
def dC:CS:=⟨-16,16,0,4,1,[]⟩
def pz:dC.ok:=⟨d_,Ax d_,eJ.nil⟩
def Rb{s:CS}(h:s.ok)(K)(hl:K.length<=2001):(eu (b_ K s).1).size<=2000000:=by
 have h1:=Dc 500 _ (CX h K);rw[pk] at h1;have:=WE 501 hl;omega
def mE(h:P:=by simp [results,results68,go_sem,q0,q1,q2,q3]):=h
def eo(ok:Bool)(Q:eK)(w:World)(e:Ending)(w':World):Prop:=
 ∃G a b T,e=.returned (.tuple #[.agg #[G,.int .i64 a,.int .i64 b,.string T],.bool ok])/\af w w w'/\(ok=true->Q G a b T w')/\(∀k,G.ownBlock=some k->w.heap.size<=k/\k<w'.heap.size)/\∃x n c,G=.slice x n c
def N9(g:ak)(a)(n c)(hn:g.size≠n)(hs:g.size<=2)(cy:n<=3000)(w):
 Kp 68 #[g,.slice a n c] w (eo false (λ_ _ _ _ _=>True) w):=by
 have⟨k4,U,J⟩:=cO w #[.slice none 0 0,(),(),.string ⟨#[]⟩] 98 #[.slice none 0 0,(),(),.string ⟨#[]⟩] 98;have ab:((g.size:Int)==(n:Int))=false:=by rw[VD];omega
 go_enter func68,ntmps68;go_upto_region 2 with fail
 generalize (w.alloc _).alloc _=W,aa:w.heap.size+1=rB at *;have⟨c0,c1,c2,c3⟩:=U.q4;have⟨d0,d1,d2,d3⟩:=k4.q4;have⟨f0,f1,f2,f3⟩:=k4.f4;have k9:=(((k4.set 0 (.slice none 0 0)).set 1 ()).set 2 ()).set 3 (.string (⟨#[]⟩));have ad:=(((J.setCell (p:=w) (Vj _) (.slice none 0 0)).setCell (p:=⟨w,1,none⟩) (Vj _) ()).setCell (p:=⟨w,2,none⟩) (Vj _) ()).setCell (p:=⟨w,3,none⟩) (Vj _) (.string (⟨#[]⟩));have ax:=((((ai.refl [w.heap.size] W).setCell (p:=w) (.inr s_) (.slice none 0 0)).setCell (p:=⟨w,1,none⟩) (.inr s_) ()).setCell (p:=⟨w,2,none⟩) (.inr s_) ()).setCell (p:=⟨w,3,none⟩) (.inr s_) (.string (⟨#[]⟩));go_wp2;generalize setCell _ _ _=w9 at ad k9 ax ⊢;have⟨q0,q1,q2,q3⟩:=k9.q4;exact Vk (v:=.tuple #[.agg #[.slice none 0 0,(),(),.string (⟨#[]⟩)],false]) mE rfl ⟨_,_,_,_,rfl,ad,(λ_=>trivial),(λk h=>by cases h),_,_,_,rfl⟩
def QL(a)(c)(w):
 Kp 68 #[.string ⟨#[]⟩,.slice a 0 c] w (eo true (λ_ _ _ _ _=>True) w):=by
 have⟨k4,U,J⟩:=cO w #[.slice none 0 0,(),(),.string ⟨#[]⟩] 98 #[.slice none 0 0,(),(),.string ⟨#[]⟩] 98;go_enter func68,ntmps68;go_upto_region 2 with fail
 generalize (w.alloc _).alloc _=W,aa:w.heap.size+1=rB at *;go_upto_region 5 with fail
 go_loopw [22] (λiv wr=>iv=.int .i64 0/\wr=W) (λ_ _=>0)
 case atStart=>exact⟨rfl,rfl⟩
 case round=>
  obtain⟨rfl,rfl⟩:=hrel
  rename World=>W
  have⟨c0,c1,c2,c3⟩:=U.q4;have⟨d0,d1,d2,d3⟩:=k4.q4;have⟨f0,f1,f2,f3⟩:=k4.f4;have k9:=(((k4.set 0 (.slice none 0 0)).set 1 ()).set 2 ()).set 3 (.string (⟨#[]⟩));have ad:=(((J.setCell (p:=w) (Vj _) (.slice none 0 0)).setCell (p:=⟨w,1,none⟩) (Vj _) ()).setCell (p:=⟨w,2,none⟩) (Vj _) ()).setCell (p:=⟨w,3,none⟩) (Vj _) (.string (⟨#[]⟩));have ax:=((((ai.refl [w.heap.size] W).setCell (p:=w) (.inr s_) (.slice none 0 0)).setCell (p:=⟨w,1,none⟩) (.inr s_) ()).setCell (p:=⟨w,2,none⟩) (.inr s_) ()).setCell (p:=⟨w,3,none⟩) (.inr s_) (.string (⟨#[]⟩));go_wp2;generalize setCell _ _ _=w9 at ad k9 ax ⊢;have⟨q0,q1,q2,q3⟩:=k9.q4;exact Vk (v:=.tuple #[.agg #[.slice none 0 0,(),(),.string (⟨#[]⟩)],true]) mE rfl ⟨_,_,_,_,rfl,ad,(λ_=>trivial),(λk h=>by cases h),_,_,_,rfl⟩
def IT(h:P:=by simp [results,results42,go_sem,R0,R1,R2,R3,R4,R5,R6]):=h
def KQ(h:P:=by
 rw[hq] at F ab;have HQ:=h_ hq;clear hq;obtain⟨vl,hk,Z⟩:=F;simp only at hk Z ab;obtain⟨a1,c1,rfl,_,_⟩:=Z.form;obtain⟨a2,c2,rfl,_,_⟩:=ab.form;have⟨s0,s1,s2,s3,s4,s5,s6,sl⟩:=hk.p7;have⟨z0,z1,z2,z3,z4,z5,z6⟩:=k0.f7;have⟨y0,y1,y2,y3,y4,y5,y6,yl⟩:=k0.p7;have R:=(((((((k0.set 0 A).set 1 B).set 2 X).set 3 Y).set 4 E).set 5 (.slice a1 L.length c1)).set 6 (.slice a2 reps.length c2))
 have hO:ai [w.heap.size] wr (((((((wr.setCell ⟨w.heap.size,0,none⟩ A).setCell ⟨w.heap.size,1,none⟩ B).setCell ⟨w.heap.size,2,none⟩ X).setCell ⟨w.heap.size,3,none⟩ Y).setCell ⟨w.heap.size,4,none⟩ E).setCell ⟨w.heap.size,5,none⟩ (.slice a1 L.length c1)).setCell ⟨w.heap.size,6,none⟩ (.slice a2 reps.length c2)):=((((((((ai.refl [w.heap.size] wr).setCell (.inr s_) _).setCell (.inr s_) _).setCell (.inr s_) _).setCell (.inr s_) _).setCell (.inr s_) _).setCell (.inr s_) _).setCell (.inr s_) _)
 simp only[V7,Wj,Wx] at R;go_wp2;clear s0 s1 s2 s3 s4 s5 s6 z0 z1 z2 z3 z4 z5 z6 y0 y1 y2 y3 y4 y5 y6;generalize (((((((wr.setCell ⟨w.heap.size,0,none⟩ A).setCell ⟨w.heap.size,1,none⟩ B).setCell ⟨w.heap.size,2,none⟩ X).setCell ⟨w.heap.size,3,none⟩ Y).setCell ⟨w.heap.size,4,none⟩ E).setCell ⟨w.heap.size,5,none⟩ (.slice a1 L.length c1)).setCell ⟨w.heap.size,6,none⟩ (.slice a2 reps.length c2))=W9 at R hO ⊢;have⟨R0,R1,R2,R3,R4,R5,R6⟩:=R.q7;refine Vk (v:=.tuple #[.agg #[A,B,X,Y,E,.slice a1 L.length c1,.slice a2 reps.length c2],true]) IT rfl ?_;have cc:∀(b:Nat) (v:Value),(∀k,v.ownBlock=some k->b<=k/\k<wr.heap.size)->w.heap.size<b->∀k,v.ownBlock=some k->k∉[w.heap.size]:=λb v h hb k hk hm=>by have:=(h k hk).1;rw[VE] at hm;omega
 refine⟨A,B,X,Y,E,L,_,_,rfl,by rw[HQ.out],?_,by rw[HQ.out];exact uQ (m_ ab hO (cc (g+1) _ ab.lt o_)) o_,?_⟩
 .exact uQ (m_ Z hO (cc (r+1) _ Z.lt o_)) o_
 .exact hO.belowGe a8 a8.size iB):=h
def Jm(h:P:=by
 rw[ur];unfold bf at aF;simp only[VB,V2] at aF;have:=aF.2;unfold cntN Lib.countByte at this;omega):=h
def Az(h:P:=by
 cases hv:vr.ownBlock with
 |none=>rw[hv] at hk;simp at hk
 |some k'=>rw[hv] at hk;simp at hk;have:=(ab.lt k' hv).1;omega):=h
def GT(h:P:=by
 cases hv:v.ownBlock with
 |none=>rw[hv] at hm;simp at hm
 |some g=>rw[hv] at hm;simp at hm;rw[hm]):=h
def Gn(h:P:=by
 unfold bf at aF;simp only[VB,V2] at aF;omega):=h
def ai.more{ex g:List Nat}{W w}(h:ai ex W w)(hs:∀k∈ex,k∈g):ai g W w:=⟨h.os,h.tape,h.output,h.size,λk hk hn=>h.block k hk (λhm=>hn (hs k hm))⟩
def yC(s:ak)(c:UInt8)(hs:s.size<=1048576)(w)(hE:PEnv w):
 Kp 53 #[s,.string ⟨#[c]⟩] w λe w'=>∃g,e=.returned (.slice (some ⟨g,0,none⟩) (bB s c).length (bB s c).length)/\dZ g (bB s c) w'/\w.heap.size<=g/\af w w w':=by
 have⟨_,⟨m,hm⟩,_,_⟩:=hE;refine (Tryz.strings_Split s ⟨#[c]⟩ m w o_ hm (Vj 1)).mono ?_;rintro e w' ⟨rfl,rfl⟩;refine⟨w,by rw[OL],⟨s_,λi hi=>?_⟩,Vj _,(Vn _ _).alloc (Vj _) _⟩;rw[(ah.new w _ _).cell i,O7];simp [hi]
section
variable {P:Program}{ops:Array Oper}{Q:Exit->Act->av}{ex:List Nat}{W:World}{R:Nat->Bool}{N D:av}
def Pj{a}{listed:Array Bool}{f i}{o}(N' F:av)(Z:ops[i]?=some o)(G:Region.wanted o (yielded ops a.tmps)=true)
 (bi:o.dst=none)(I:aQ F)(aa:∀u,F u->N' u)(hR:R i=false->N'=N)
 (H:∀w,ai ex W w->D w->∃w',(execOp a.eval o).run P w=.ok .skip w'/\ai ex W w'/\F w')
 (h:(∃w,ai ex W w/\F w)->ch P ops Q ex W R f (listed.setIfInBounds i true) a N' F):
 fa P ops Q ex W R f listed a N D i:=λw hO hd=>by
 unfold wpOp;simp only[Z,G,WB];refine .inl ?_;have⟨w',h1,h2,h3⟩:=H w hO hd;unfold Oper.wp;rw[h1];simp only[Oper.upon,bi,Act.put];exact⟨N',F,I,aa,hR,h2,h3,h ⟨w',h2,h3⟩⟩
end
def Q0{w}{G g ty:Nat}{v}{xs}{y:ak}(V:cU w G v xs)(H:G<=w.heap.size)(hx:ah g #[y] 9 w)(ae:xs.length<1000000):
 ∃v' w',(Builtin.append_ #[63,63] ty #[v,.slice g 1 1]).run prog w=.ok v' w'/\cU w' G v' (xs++[y])/\ai v.ownBlock.toList w w':=by
 have⟨U,hi,bi,ac,ba⟩:=WL Tryz.infoT;have⟨v',w',h1,h2,h3,_,_⟩:=run_append_own_at (P:=prog) w G 63 ty 9 U (.string ⟨#[]⟩) 1 16 underlying63 hi bi ac ba rfl d_ v xs.length (xs.map Value.string) V ⟨g,0,none⟩ 1 1 [.string y] rfl (λj u hj=>by
  match j,hj with
  |0,hj=>simp at hj;subst hj;simpa[Addr.add] using hx.cell 0) (by intro u hu;simp at hu;subst hu;rfl) pN o_ H
 refine⟨v',w',h1,?_,?_⟩
 .unfold cU;simpa using h2
 .exact⟨h3.os,h3.tape,h3.output,h3.size,λk hk hn=>h3.block k hk (λh=>hn wf)⟩
def S6{a:Act}{o:Oper}{s x:Operand}{v:Value}{g G:Nat}{w}{xs}{y:ak}(aL:o.op=.call {callee:=.builtin .append,args:=#[s,x],argTypes:=#[63,63]})(hs:a.eval s=v)(hx:a.eval x=.slice g 1 1)(hv:cU w G v xs)(hb:G<=w.heap.size)(hk:ah g #[y] 9 w)(hl:xs.length<1000000){O:World->av}{F:Value->av}
 (hK:∀v' w',cU w' G v' (xs++[y])->ai v.ownBlock.toList w w'->O w w'/\F v' w'):∃v' w',(execOp a.eval o).run prog w=.ok (.value v') w'/\O w w'/\F v' w':=by
 have⟨v',w',h1,h2,h3⟩:=Q0 (ty:=o.type) hv hb hk hl;refine⟨v',w',?_,hK v' w' h2 h3⟩;exact Gd
def cU.neE{w}{b b' k}{v v'}{xs}{L}(h:cU w b v xs)(J:an w b' v' L)(hk:v'.ownBlock=some k):k∉v.ownBlock.toList:=by
 intro hm;have hv:v.ownBlock=some k:=by
  exact GT
 have⟨c1,h1⟩:=rg h k hv;have⟨c2,h2⟩:=rg J k hk;unfold ah at h1 h2;rw[h1] at h2;simp at h2
def Mr(S r:Nat)(s:CS)(reps:bW)(vr:Value)(w:World):Prop:=dA r s vr w/\cU w S vr reps
def dA.cell{r}{s:CS}{vr}{w}(h:dA r s vr w):w.cell? ⟨r,6,none⟩=some vr/\r<w.heap.size/\∀o,w.frozen? ⟨r,o,none⟩=false:=by
 have⟨vl,h1,_⟩:=h;exact⟨h1.cell 6,h1.lt,h1.frozen⟩
def dA.turned{r}{s:CS}{vr}{w w'}{g:List Nat}(h:dA r s vr w)(Z:ai g w w')(hr:r∉g)(he:∀vl,an w (r+1) vl s.L->∀k,vl.ownBlock=some k->k∉g):dA r s vr w':=by
 have⟨vl,h1,h2⟩:=h;exact⟨vl,ah.over h1 Z hr,h2.over Z (he vl h2)⟩
def dA.stored{r}{s:CS}{vr v'}{w}(h:dA r s vr w):dA r s v' (w.setCell ⟨r,6,none⟩ v'):=by
 have⟨vl,h1,h2⟩:=h;refine⟨vl,h1.set 6 v',h2.past ((ai.refl [r] w).setCell (.inr s_) v')⟩
def sO(w:World)(s:ak)(e:Ending)(w':World):Prop:=
 ∃A B X Y E L vl vr,e=.returned (.tuple #[.agg #[.int .i64 A,.int .i64 B,.int .i64 X,.int .i64 Y,.int .i64 E,vl,vr],.bool true])/\(b_ (cV s) dC).2=⟨A,B,X,Y,E,L⟩/\an w' w vl L/\cU w' w vr (b_ (cV s) dC).1/\af w w w'
def NU(s)(hs:s.size<=1048576)(aF:bf s=true)(hne:s≠⟨#[]⟩)(w)(hE:PEnv w):
 Kp 42 #[s] w (sO w s):=by
 have a6:s.size<=2000:=by
  exact Gn
 have bb:i_ s=true:=by
  unfold bf at aF;simp at aF;rcases aF.1.2 with h|h
  .exfalso;apply hne;have h2:=by simpa using h
   rw[Vw] at h2;exact zv h2
  .exact h
 have b0:(cV s).length<=40:=by
  exact Jm
 have hH:=λW=>oT s W o_;rw[aF] at hH;have H2:=h_ (yj s 10 o_);have bx:=Re s bb;have cm:(Lib.trimSuffix s.data.toList [10]).length<=s.size:=by
  have hl:s.data.toList.length=s.size:=Vy;unfold Lib.trimSuffix;split
  .rw[VM];omega
  .omega
 have cb:(⟨(Lib.trimSuffix s.data.toList [10]).toArray⟩:ak).size<=2000:=by
  show (Lib.trimSuffix s.data.toList [10]).toArray.size<=2000;simp;omega
 generalize (⟨(Lib.trimSuffix s.data.toList [10]).toArray⟩:ak)=tr at *;have ax:=λW hW=>yC tr 10 o_ W hW;rw[bx] at ax;have cF:(s.toList==[])=false:=by
  rw[VD];intro h;rw[Vw] at h;exact hne (zv h)
 have bv:=Dx s;unfold sO;generalize cV s=K at *;have⟨k0,J⟩:=ay w #[(),(),(),(),(),.slice none 0 0,.slice none 0 0] 65;go_enter func42,ntmps42;go_upto_region 1 with fail
 generalize w.alloc _=W0 at *;go_wp2_with fail
 refine aA ((h_ hH).out _) ?_;go_upto_region 4 with fail
 have bi:=k0.lt;have⟨k1,I⟩:=ay W0 #[(-16:Int),(16:Int),(),(4:Int),(1:Int),.slice none 0 0,.slice none 0 0] 65;replace k0:=k0.next I
 have aL:=ag I J.size J;generalize W0.alloc _=W1,W0.heap.size=r at *;go_wp2_with fail
 refine aA (H2.out _) ?_;go_wp2_with fail
 refine ((h_ ax).out _ (hE.below aL)).mono ?_;rintro e w2 ⟨g,rfl,H,hg,U⟩;have b4:=k1.lt;have ac:=ag U aL.size aL;have ad:dA r dC (.slice none 0 0) w2:=⟨.slice none 0 0,k1.next U,an.nil _ _⟩
 replace k0:=k0.next U
 go_wp2;go_loopw [18] (λiv wr=>∃(k:Nat) (vr:Value),iv=.int .i64 k/\k<=K.length/\af w w wr/\ah w #[(),(),(),(),(),.slice none 0 0,.slice none 0 0] 65 wr/\dZ g K wr/\Mr (g+1) r (b_ (K.take k) dC).2 (b_ (K.take k) dC).1 vr wr) (λiv _=>K.length - (intOf iv).toNat)
 case atStart=>exact⟨0,.slice none 0 0,rfl,VH _,ac,k0,H,ad,cU.nil _ _⟩
 case round=>
  obtain⟨k,vr,rfl,b2,a8,k0,H,F,ab⟩:=hrel;by_cases aG:k<K.length
  .have q0:=H.2 k aG;have a4:=h_ (CU K k aG dC);have az:=bv K[k] (VC aG);have bq:=H.1;have aa:=ru pz (K.take k);have a3:=pk dC (K.take k);generalize b_ (K.take k) dC=q at *;have⟨reps,sk⟩:=q;simp only at F ab aa a3 a4;generalize K[k]=x at *;go_upto_region 8 with fail
   have bZ:r<g+1:=o_;have aM:=F.cell;have bo:=yd x 32;have G:=xP x 32;have b5:=h_ (λW hW=>(h_ (λ(x:ak) (hx:x.size<=1048576) W hW=>yC x 32 hx W hW)).out x o_ W hW);have aX:=h_ (λ(W:World) (hb:af wr wr W) g' (ht:dZ g' (bB x 32) W)=>UV r sk vr (bB x 32) g' (bB x 32).length (by intro h;rw[h] at bo;simp at bo) o_ (λy hy=>by have:=G y hy;omega) aa W (dR.of hE (ag hb a8.size a8) o_) (F.below hb) ht (Vj _));generalize dt (bB x 32) sk=R0 at *;generalize bB x 32=V at *;have⟨T,s9⟩:=R0;simp only at a4 aX;have a7:∀k∈r::vr.ownBlock.toList,r<=k:=by
    intro k hk;rcases VL.1 hk with rfl|hk
    .exact Vj _
    .exact Az
   have b7:g∉r::vr.ownBlock.toList:=by
    intro hk;rcases VL.1 hk with h|hk
    .omega
    .exact Az
   have aZ:r∉vr.ownBlock.toList:=by
    intro hk;exact Az
   have b6:∀k∈[r],k∈r::vr.ownBlock.toList:=s_;have cA:∀k∈vr.ownBlock.toList,k∈r::vr.ownBlock.toList:=λk hk=>Xd _ hk;have b9:reps.length<=40:=by rw[a3,VM];omega
   refine bw (r::vr.ownBlock.toList) (λj=>j==8) (λw'=>w'.cell? ⟨r,6,none⟩=some vr) (λw'=>af wr wr w') k_ ((Vn _ _).drew) ?_;apply jT ⟨wr,ai.refl _ _,Vn _ _⟩ [ae,ae,ae] 6 (bt wr) (λu h=>(h.cell (p:=⟨r,6,none⟩) aM.2.1).trans aM.1) k_ k_ k_ k_ s_
   .intro E bY bs b8;have s6:∀c:aU (r::vr.ownBlock.toList) wr E,c.wd.cell? ⟨r,6,none⟩=some vr:=λc=>bs _ c.more
    (repeat (first|(refine gN ?_;go_big_quiet_step (fail);refine wpQuiet_nil ?_)|refine gM ?_));exact gO rfl
   refine aD 3 (jc (some 27) (λw'=>w'.cell? ⟨r,6,none⟩=some vr) (λv w'=>af wr wr w'/\∃g',v=.slice (some ⟨g',0,none⟩) V.length V.length/\dZ g' V w') (λv _ _ ⟨h1,g',h2,h3⟩ hb=>⟨ag hb h1.size h1,g',h2,h3.below hb⟩) (λv u h=>(h.1.cell (p:=⟨r,6,none⟩) aM.2.1).trans aM.1) (λ_=>rfl) (λw' hO hd=>(b5.out w' (hE.below (ag hd a8.size a8))).mono λe w2 ⟨g',h1,h2,_,h3⟩=>⟨_,h1,.of_below h3,ag h3 hd.size hd,g',rfl,h2⟩) (λv hne=>?_));obtain⟨w8,_,_,g',rfl,_⟩:=id hne;refine ap (aD 4 ?_);refine BR (some 28) (λw'=>w'.cell? ⟨r,6,none⟩=some vr) (λv w'=>v=.string T/\dA r s9 vr w'/\cU w' (g+1) vr reps) r_ r_ r_ (λ_=>by go_simp;exact⟨rfl,rfl⟩) (λv _ _ ⟨h1,h2,h3⟩ hb=>⟨h1,h2.below hb,h3.below hb⟩) (λv u h=>h.2.1.cell.1) (λ_=>rfl) (λw' hO ⟨hd,bp,h1,h2⟩=>by
    have h3:g'=bp:=by injection h1 with h1;injection h1 with h1;injection h1
    subst h3;refine (aX.out w' hd g' h2).mono λe w2 ⟨h4,h5,h6⟩=>⟨_,h4,h5.more b6,rfl,h6,?_⟩
    exact m_ (ab.below hd) h5 (λk hk hm=>by have:=(ab.lt k hk).1;rw[VE] at hm;omega)) (λv hne=>?_)
   obtain⟨w8,_,rfl,_⟩:=id hne;refine ap (aD 5 ?_);refine CM (some 29) (λw'=>w'.cell? ⟨r,6,none⟩=some vr) (λv w'=>(∃g5,v=.slice (some ⟨g5,0,none⟩) 1 1/\ah g5 #[T] 9 w')/\dA r s9 vr w'/\cU w' (g+1) vr reps) r_ r_ r_ (λv _ _ ⟨⟨g5,h1,h2⟩,h3,h4⟩ hb=>⟨⟨g5,h1,h2.next hb⟩,h3.below hb,h4.below hb⟩) (λv u h=>h.2.1.cell.1) (λ_=>rfl) (λw' hO ⟨_,h2,h3⟩=>⟨.slice w' 1 1,w'.alloc (.cells #[T] 9),by go_simp,(ai.refl _ w').alloc _,⟨_,rfl,ah.new _ _ _⟩,h2.below ((Vn _ _).alloc (Vj _) _),h3.below ((Vn _ _).alloc (Vj _) _)⟩) (λv hne=>?_);obtain⟨w8,b1,⟨g5,rfl,_⟩,_⟩:=id hne;refine ap (aD 6 ?_);refine CM (some 30) (λw'=>w'.cell? ⟨r,6,none⟩=some vr) (λv w'=>dA r s9 vr w'/\cU w' (g+1) v (reps++[T])) r_ r_ r_ (λv _ _ ⟨h3,h4⟩ hb=>⟨h3.below hb,h4.below hb⟩) (λv u h=>h.1.cell.1) (λ_=>rfl) (λw' hO ⟨⟨g6,h1,h2⟩,h3,h4⟩=>by
    have h5:g5=g6:=by injection h1 with h1;injection h1 with h1;injection h1
    subst h5;refine S6 (O:=ai (r::vr.ownBlock.toList)) r_ r_ r_ h4 (by have:=hO.size;omega) h2 o_ (λv' w9 h7 h8=>?_);exact⟨h8.more cA,h3.turned h8 aZ (λvl bX k hk=>h4.neE bX hk),h7⟩) (λv hne=>?_)
   refine ap ?_;apply jT hne (bk 7 1) 1 (λ_ _ ⟨h3,h4⟩ hb=>⟨h3.below hb,h4.below hb⟩) (λ_ h=>h.1.cell.1) k_ k_ k_ k_ s_
   .intro E bY bs b8
    (repeat (first|(refine gN ?_;go_big_quiet_step (fail);refine wpQuiet_nil ?_)|refine gM ?_));exact gO rfl
   refine aD 8 ?_;refine Pj (λ_=>True) (λw'=>dA r s9 v w'/\cU w' (g+1) v (reps++[T])) r_ r_ r_ (λ_ _ ⟨h3,h4⟩ hb=>⟨h3.below hb,h4.below hb⟩) (λ_ _=>trivial) (λh=>by simp at h) (λw' hO ⟨h3,h4⟩=>by
    have f1:=h3.cell.1;have f2:=h3.cell.2.2 6;refine⟨w'.setCell ⟨r,6,none⟩ v,?_,hO.setCell (.inr s_) v,h3.stored,m_ h4 ((ai.refl [r] w').setCell (.inr s_) v) (λk hk hm=>by have:=(h4.lt k hk).1;rw[VE] at hm;omega)⟩;obtain⟨a5,c5,rfl,_⟩:=h4.form;go_simp) (λhne=>?_)
   refine dn λWq ca co=>?_;have bz:=ca.belowGe a8 a8.size (by intro k hk;have:=a7 k hk;omega);have b3:=k0.over ca (λhk=>by have:=a7 _ hk;omega);have a9:dZ g K Wq:=⟨Vp H.1 ca.size,λi hi=>(ca.cell (p:=⟨g,i,none⟩) H.1 b7).trans (H.2 i hi)⟩
   have ba:=h_ (show Mr (g+1) r (b_ (K.take (k+1)) dC).2 (b_ (K.take (k+1)) dC).1 v Wq from by rw[a4.out];exact co);go_wp2;go_roundw
   case rel=>exact⟨k+1,v,by go_num,o_,bz,b3,a9,ba.out⟩
   case measure=>exact aJ
  .obtain rfl:k=K.length:=o_
   rw[Wa] at F ab;obtain⟨reps,A,B,X,Y,E,L,hq⟩:∃reps A B X Y E L,b_ K dC=(reps,(⟨A,B,X,Y,E,L⟩:CS)):=⟨_,_,_,_,_,_,_,rfl⟩
   exact KQ
def Pm(w)(hE:PEnv w):Kp 42 #[.string ⟨#[]⟩] w (sO w ⟨#[]⟩):=by
 have H1:=h_ (λW=>show Rw 47 #[.string ⟨#[]⟩] W true from (by have h:=oT ⟨#[]⟩ W (VH _);rwa [show bf ⟨#[]⟩=true from by unfold bf i_ cntN;rw[Vw];rfl] at h));have H3:=h_ (λW hW=>show Kp 53 #[.string ⟨#[]⟩,.string ⟨#[10]⟩] W λe w'=>∃g,e=.returned (.slice (some ⟨g,0,none⟩) 1 1)/\dZ g [⟨#[]⟩] w'/\W.heap.size<=g/\af W W w' from yC ⟨#[]⟩ 10 (VH _) W hW);unfold sO;rw[SZ];have⟨k0,J⟩:=ay w #[(),(),(),(),(),.slice none 0 0,.slice none 0 0] 65;go_enter func42,ntmps42;go_upto_region 1 with fail
 generalize w.alloc _=W0 at *;go_wp2_with fail
 refine aA (H1.out _) ?_;go_upto_region 4 with fail
 have bi:=k0.lt;have⟨k1,I⟩:=ay W0 #[(-16:Int),(16:Int),(),(4:Int),(1:Int),.slice none 0 0,.slice none 0 0] 65;replace k0:=k0.next I
 have aL:=ag I J.size J;generalize W0.alloc _=W1,W0.heap.size=r at *;go_wp2_with fail
 refine aA ((h_ (λW=>show Rw 54 #[.string ⟨#[]⟩,.string ⟨#[10]⟩] W (.string ⟨#[]⟩) from yj ⟨#[]⟩ 10 (VH _) W)).out _) ?_;go_wp2_with fail
 refine (H3.out _ (hE.below aL)).mono ?_;rintro e w2 ⟨g,rfl,H,hg,U⟩;have cm:=H.1;have b4:=k1.lt;have ac:=ag U aL.size aL;have ad:dA r dC (.slice none 0 0) w2:=⟨.slice none 0 0,k1.next U,an.nil _ _⟩
 replace k0:=k0.next U
 have q0:w2.cell? g=some (.string ⟨#[]⟩):=H.2 0 s_;go_wp2;go_loopw [18] (λiv wr=>∃k:Nat,iv=.int .i64 k/\k<=1/\wr=w2) (λiv _=>1 - (intOf iv).toNat)
 case atStart=>exact⟨0,rfl,VH _,rfl⟩
 case round=>
  obtain⟨k,rfl,b2,rfl⟩:=hrel
  rename World=>wr
  by_cases aG:k<1
  .obtain rfl:k=0:=o_
   go_wp2;go_roundw
   case rel=>exact⟨1,by go_num,o_,trivial⟩
   case measure=>simp [intOf]
  .obtain rfl:k=1:=o_
   obtain⟨vr,F,ab⟩:∃vr,dA r (b_ [] dC).2 vr wr/\cU wr (g+1) vr (b_ [] dC).1:=⟨_,ad,cU.nil _ _⟩
   have a8:=ac;obtain⟨reps,A,B,X,Y,E,L,hq⟩:∃reps A B X Y E L,b_ [] dC=(reps,(⟨A,B,X,Y,E,L⟩:CS)):=⟨_,_,_,_,_,_,_,rfl⟩
   exact KQ
def TC(s)(hs:s.size<=1048576)(aF:bf s=false)(w):
 Rv 42 #[s] w (.tuple #[.agg #[(),(),(),(),(),.slice none 0 0,.slice none 0 0],false]):=by
 have hH:=λW=>oT s W o_;rw[aF] at hH;have⟨k0,J⟩:=ay w #[(),(),(),(),(),.slice none 0 0,.slice none 0 0] 65;go_enter func42,ntmps42;go_upto_region 1 with fail
 generalize w.alloc _=W0 at *;go_wp2_with fail
 refine aA ((h_ hH).out _) ?_;have z0:=k0.frozen 0;have y0:=k0.q1;have z1:=k0.frozen 1;have⟨_,y1⟩:=k0.q2;have z2:=k0.frozen 2;have⟨_,_,y2⟩:=k0.q3;have z3:=k0.frozen 3;have⟨_,_,_,y3⟩:=k0.q4;have z4:=k0.frozen 4;have⟨_,_,_,_,y4⟩:=k0.q5;have z5:=k0.frozen 5;have⟨_,_,_,_,_,y5⟩:=k0.q6;have z6:=k0.frozen 6;have⟨_,_,_,_,_,_,y6⟩:=k0.q7;have R:=(((((((k0.set 0 ()).set 1 ()).set 2 ()).set 3 ()).set 4 ()).set 5 (.slice none 0 0)).set 6 (.slice none 0 0))
 have hO:ai [w.heap.size] W0 (((((((W0.setCell w ()).setCell ⟨w,1,none⟩ ()).setCell ⟨w,2,none⟩ ()).setCell ⟨w,3,none⟩ ()).setCell ⟨w,4,none⟩ ()).setCell ⟨w,5,none⟩ (.slice none 0 0)).setCell ⟨w,6,none⟩ (.slice none 0 0)):=((((((((ai.refl [w.heap.size] W0).setCell (.inr s_) _).setCell (.inr s_) _).setCell (.inr s_) _).setCell (.inr s_) _).setCell (.inr s_) _).setCell (.inr s_) _).setCell (.inr s_) _)
 simp at R;go_wp2;generalize (((((((W0.setCell w ()).setCell ⟨w,1,none⟩ ()).setCell ⟨w,2,none⟩ ()).setCell ⟨w,3,none⟩ ()).setCell ⟨w,4,none⟩ ()).setCell ⟨w,5,none⟩ (.slice none 0 0)).setCell ⟨w,6,none⟩ (.slice none 0 0))=W9 at R hO ⊢;have⟨R0,R1,R2,R3,R4,R5,R6⟩:=R.q7;exact Vk (v:=.tuple #[.agg #[(),(),(),(),(),.slice none 0 0,.slice none 0 0],false]) IT rfl ⟨rfl,hO.belowGe J J.size iB⟩
def vh(h:P:=by show w.heap.size≠rB;omega):=h
def vL(h:P:=by show w.heap.size<=rB;omega):=h
def KO(h:P:=by
 go_wp2;clear c0 c1 c2 c3 d0 d1 d2 d3 f0 f1 f2 f3;generalize setCell _ _ _=w9 at ad k9 ax ⊢;have⟨q0,q1,q2,q3⟩:=k9.q4;refine Vk (v:=.tuple #[.agg #[.slice none 0 0,(),(),.string (⟨#[]⟩)],false]) mE rfl ?_;exact⟨_,_,_,_,rfl,ad,(λh=>by cases h),(λk h=>by cases h),_,_,_,rfl⟩):=h
def IE(h:P:=by
 have fl:=U.lt;go_wp2;go_roundw
 case rel=>exact .inr ⟨rfl,ad,k9,G⟩
 case measure=>simp [intOf]):=h
def PH(g c:Nat)(u:ak)(w:World)(hg:g<w.heap.size)(q1:w.cell? ⟨g,1,none⟩=some (.string u)):
 Kp 68 #[.string ⟨#[119]⟩,.slice (some ⟨g,1,none⟩) 1 c] w (eo true (λ_ _ _ T _=>T=u) w):=by
 obtain⟨k4,U,J⟩:=cO w #[.slice none 0 0,(),(),.string ⟨#[]⟩] 98 #[.slice none 0 0,(),(),.string ⟨#[]⟩] 98;have ae:=Vp hg J.size;have aG:=(J.cell (p:=⟨g,1,none⟩) hg).trans q1;clear q1;go_enter func68,ntmps68;go_upto_region 2 with fail
 generalize (w.alloc _).alloc _=W at *;generalize aa:w.heap.size+1=rB at *;have V:w.heap.size<rB:=o_;clear aa;go_upto_region 5 with fail
 go_loopw [22] (λiv wr=>(iv=.int .i64 0/\wr=W)\/(iv=.int .i64 1/\af w w wr/\ah rB #[.slice none 0 0,(),(),u] 98 wr/\ah w.heap.size #[.slice none 0 0,(),(),.string ⟨#[]⟩] 98 wr)) (λiv _=>1 - (intOf iv).toNat)
 case atStart=>exact .inl ⟨rfl,rfl⟩
 case round=>
  rcases hrel with ⟨rfl,rfl⟩|⟨rfl,aL,H,G⟩
  .rename World=>W
   have k9:=U.set 3 u;have G:=k4.far (p:=⟨rB,3,none⟩) vh u;have ad:=J.setCell (p:=⟨rB,3,none⟩) vL u;have f3:=U.frozen 3;have c3:W.cell? ⟨rB,3,none⟩=some (.string ⟨#[]⟩):=U.cell 3;exact IE
  .rename World=>W
   clear k4 U;have k4:=G;have U:=H;have⟨c0,c1,c2,c3⟩:=U.q4;have⟨d0,d1,d2,d3⟩:=k4.q4;have⟨f0,f1,f2,f3⟩:=k4.f4;have fl:=k4.lt;have k9:=(((k4.set 0 (.slice none 0 0)).set 1 ()).set 2 ()).set 3 u;have ad:=(((aL.setCell (p:=⟨w.heap.size,0,none⟩) (Vj _) (.slice none 0 0)).setCell (p:=⟨w.heap.size,1,none⟩) (Vj _) ()).setCell (p:=⟨w.heap.size,2,none⟩) (Vj _) ()).setCell (p:=⟨w.heap.size,3,none⟩) (Vj _) u;have ax:=((((ai.refl [w.heap.size] W).setCell (p:=⟨w.heap.size,0,none⟩) (.inr s_) (.slice none 0 0)).setCell (p:=⟨w.heap.size,1,none⟩) (.inr s_) ()).setCell (p:=⟨w.heap.size,2,none⟩) (.inr s_) ()).setCell (p:=⟨w.heap.size,3,none⟩) (.inr s_) u;go_wp2;clear c0 c1 c2 c3 d0 d1 d2 d3 f0 f1 f2 f3;generalize setCell _ _ _=w9 at ad k9 ax ⊢;have⟨q0,q1,q2,q3⟩:=k9.q4;refine Vk (v:=.tuple #[.agg #[.slice none 0 0,(),(),u],true]) mE rfl ?_;exact⟨_,_,_,_,rfl,ad,(λ_=>rfl),(λk h=>by cases h),_,_,_,rfl⟩
def Qf(g c:Nat)(u:ak)(w:World)(hg:g<w.heap.size)(q1:w.cell? ⟨g,1,none⟩=some (.string u)):
 Kp 68 #[.string ⟨#[63]⟩,.slice (some ⟨g,1,none⟩) 1 c] w (eo false (λ_ _ _ _ _=>True) w):=by
 obtain⟨k4,U,J⟩:=cO w #[.slice none 0 0,(),(),.string ⟨#[]⟩] 98 #[.slice none 0 0,(),(),.string ⟨#[]⟩] 98;have ae:=Vp hg J.size;have aG:=(J.cell (p:=⟨g,1,none⟩) hg).trans q1;clear q1;go_enter func68,ntmps68;go_upto_region 2 with fail
 generalize (w.alloc _).alloc _=W at *;generalize aa:w.heap.size+1=rB at *;have V:w.heap.size<rB:=o_;clear aa;go_upto_region 5 with fail
 go_loopw [22] (λiv wr=>(iv=.int .i64 0/\wr=W)) (λiv _=>1 - (intOf iv).toNat)
 case atStart=>exact⟨rfl,rfl⟩
 case round=>
  obtain⟨rfl,rfl⟩:=hrel
  rename World=>W
  have aL:=J;have⟨c0,c1,c2,c3⟩:=U.q4;have⟨d0,d1,d2,d3⟩:=k4.q4;have⟨f0,f1,f2,f3⟩:=k4.f4;have fl:=k4.lt;have k9:=(((k4.set 0 (.slice none 0 0)).set 1 ()).set 2 ()).set 3 (.string (⟨#[]⟩));have ad:=(((aL.setCell (p:=⟨w.heap.size,0,none⟩) (Vj _) (.slice none 0 0)).setCell (p:=⟨w.heap.size,1,none⟩) (Vj _) ()).setCell (p:=⟨w.heap.size,2,none⟩) (Vj _) ()).setCell (p:=⟨w.heap.size,3,none⟩) (Vj _) (.string (⟨#[]⟩));have ax:=((((ai.refl [w.heap.size] W).setCell (p:=⟨w.heap.size,0,none⟩) (.inr s_) (.slice none 0 0)).setCell (p:=⟨w.heap.size,1,none⟩) (.inr s_) ()).setCell (p:=⟨w.heap.size,2,none⟩) (.inr s_) ()).setCell (p:=⟨w.heap.size,3,none⟩) (.inr s_) (.string (⟨#[]⟩));exact KO
def PW(g c:Nat)(u:ak)(hu:u.size<=10000)(w:World)(hg:g<w.heap.size)(q1:w.cell? ⟨g,1,none⟩=some (.string u)):
 Kp 68 #[.string ⟨#[102]⟩,.slice (some ⟨g,1,none⟩) 1 c] w (eo (bA u.data.toList).isSome (λ_ a b _ _=>bA u.data.toList=some (a,b)) w):=by
 obtain⟨k4,U,J⟩:=cO w #[.slice none 0 0,(),(),.string ⟨#[]⟩] 98 #[.slice none 0 0,(),(),.string ⟨#[]⟩] 98;have ae:=Vp hg J.size;have aG:=(J.cell (p:=⟨g,1,none⟩) hg).trans q1;clear q1;have HF:=λW=>xI u o_ W;obtain⟨o,Z⟩:∃o,bA u.data.toList=o:=⟨_,rfl⟩
 rw[Z] at HF ⊢;clear Z;rcases o with _|⟨x,y⟩
 .simp only[oL] at HF;have co:=h_ HF;clear HF;rw[show (none:Option (Int×Int)).isSome=false from rfl];go_enter func68,ntmps68;go_upto_region 2 with fail
  generalize (w.alloc _).alloc _=W at *;generalize aa:w.heap.size+1=rB at *;have V:w.heap.size<rB:=o_;clear aa;go_upto_region 5 with fail
  go_loopw [22] (λiv wr=>(iv=.int .i64 0/\wr=W)) (λiv _=>1 - (intOf iv).toNat)
  case atStart=>exact⟨rfl,rfl⟩
  case round=>
   obtain⟨rfl,rfl⟩:=hrel
   rename World=>W
   go_upto_region 15 with fail
   go_wp2_with fail
   refine aj (co.out W) λw1 I=>?_;have ab:af w1 w1 (w1.alloc (.cells #[(),()] 96)):=(Vn _ _).alloc (Vj _) _;have F:=ag ab I.size I;go_upto_region 16 with fail
   replace k4:=k4.next F
   replace U:=U.next F
   have aL:=ag F J.size J;clear ab F I aG;generalize w1.alloc _=W5 at *;have⟨c0,c1,c2,c3⟩:=U.q4;have⟨d0,d1,d2,d3⟩:=k4.q4;have⟨f0,f1,f2,f3⟩:=k4.f4;have fl:=k4.lt;have k9:=(((k4.set 0 (.slice none 0 0)).set 1 ()).set 2 ()).set 3 (.string (⟨#[]⟩));have ad:=(((aL.setCell (p:=⟨w.heap.size,0,none⟩) (Vj _) (.slice none 0 0)).setCell (p:=⟨w.heap.size,1,none⟩) (Vj _) ()).setCell (p:=⟨w.heap.size,2,none⟩) (Vj _) ()).setCell (p:=⟨w.heap.size,3,none⟩) (Vj _) (.string (⟨#[]⟩));have ax:=((((ai.refl [w.heap.size] W5).setCell (p:=⟨w.heap.size,0,none⟩) (.inr s_) (.slice none 0 0)).setCell (p:=⟨w.heap.size,1,none⟩) (.inr s_) ()).setCell (p:=⟨w.heap.size,2,none⟩) (.inr s_) ()).setCell (p:=⟨w.heap.size,3,none⟩) (.inr s_) (.string (⟨#[]⟩));exact KO
 .simp only[oL] at HF;have co:=h_ HF;clear HF;rw[show (some (x,y):Option (Int×Int)).isSome=true from rfl];go_enter func68,ntmps68;go_upto_region 2 with fail
  generalize (w.alloc _).alloc _=W at *;generalize aa:w.heap.size+1=rB at *;have V:w.heap.size<rB:=o_;clear aa;go_upto_region 5 with fail
  go_loopw [22] (λiv wr=>(iv=.int .i64 0/\wr=W)\/(iv=.int .i64 1/\af w w wr/\ah rB #[.slice none 0 0,x,y,.string ⟨#[]⟩] 98 wr/\ah w.heap.size #[.slice none 0 0,(),(),.string ⟨#[]⟩] 98 wr)) (λiv _=>1 - (intOf iv).toNat)
  case atStart=>exact .inl ⟨rfl,rfl⟩
  case round=>
   rcases hrel with ⟨rfl,rfl⟩|⟨rfl,aL,H,G⟩
   .rename World=>W
    go_upto_region 15 with fail
    go_wp2_with fail
    refine aj (co.out W) λw1 I=>?_;obtain⟨kX,ab⟩:=ay w1 #[x,y] 96;have F:=ag ab I.size I;go_upto_region 16 with fail
    replace k4:=k4.next F
    replace U:=U.next F
    have aL:=ag F J.size J;clear ab F I aG;generalize w1.alloc _=W5 at *;generalize w1.heap.size=rX at *;have⟨b1,bz,a2⟩:=kX.p2;have k9:=(U.set 1 x).set 2 y;have G:=(k4.far (p:=⟨rB,1,none⟩) vh x).far (p:=⟨rB,2,none⟩) vh y;have ad:=(aL.setCell (p:=⟨rB,1,none⟩) vL x).setCell (p:=⟨rB,2,none⟩) vL y;have f1:=U.frozen 1;have f2:=U.frozen 2;have c1:W5.cell? ⟨rB,1,none⟩=some (.int .i64 0):=U.cell 1;have c2:W5.cell? ⟨rB,2,none⟩=some (.int .i64 0):=U.cell 2;exact IE
   .rename World=>W
    clear k4 U;have k4:=G;have U:=H;have⟨c0,c1,c2,c3⟩:=U.q4;have⟨d0,d1,d2,d3⟩:=k4.q4;have⟨f0,f1,f2,f3⟩:=k4.f4;have fl:=k4.lt;have k9:=(((k4.set 0 (.slice none 0 0)).set 1 x).set 2 y).set 3 (.string (⟨#[]⟩));have ad:=(((aL.setCell (p:=⟨w.heap.size,0,none⟩) (Vj _) (.slice none 0 0)).setCell (p:=⟨w.heap.size,1,none⟩) (Vj _) x).setCell (p:=⟨w.heap.size,2,none⟩) (Vj _) y).setCell (p:=⟨w.heap.size,3,none⟩) (Vj _) (.string (⟨#[]⟩));have ax:=((((ai.refl [w.heap.size] W).setCell (p:=⟨w.heap.size,0,none⟩) (.inr s_) (.slice none 0 0)).setCell (p:=⟨w.heap.size,1,none⟩) (.inr s_) x).setCell (p:=⟨w.heap.size,2,none⟩) (.inr s_) y).setCell (p:=⟨w.heap.size,3,none⟩) (.inr s_) (.string (⟨#[]⟩));go_wp2;clear c0 c1 c2 c3 d0 d1 d2 d3 f0 f1 f2 f3;generalize setCell _ _ _=w9 at ad k9 ax ⊢;have⟨q0,q1,q2,q3⟩:=k9.q4;refine Vk (v:=.tuple #[.agg #[.slice none 0 0,x,y,.string (⟨#[]⟩)],true]) mE rfl ?_;exact⟨_,_,_,_,rfl,ad,(λ_=>rfl),(λk h=>by cases h),_,_,_,rfl⟩
def FE(h:P:=by
 exact⟨_,_,_,_,rfl,ad,(λh=>by cases h),(λk h=>⟨by have:=(Wb Z k h).1;omega,Vp (Wb Z k h).2 ax.size⟩),_,_,_,rfl⟩):=h
def KT(h:P:=by
 clear Z;go_enter func68,ntmps68;go_upto_region 2 with fail
 generalize (w.alloc _).alloc _=W at *;generalize aa:w.heap.size+1=rB at *;have V:w.heap.size<rB:=o_;clear aa;have aF:Hid (W.heap.size=W.heap.size):=h_ rfl;obtain⟨S,hS⟩:∃S,W.heap.size=S:=⟨_,rfl⟩
 have I:rB<S:=by have:=U.lt;omega
 have b6:g<S:=o_;have bo:w.heap.size<S:=by have:=k4.lt;omega
 have HS:=h_ hS;have h0:lh w W rB S (.slice none 0 0) [] W:=⟨ar.nil _ _,U,k4,J,.refl _ _⟩
 clear hS k4 U J aF ae;have F:=h0;go_upto_region 5 with fail
 go_loopw [22] (λiv wr=>(iv=.int .i64 0/\wr=W)) (λiv _=>1 - (intOf iv).toNat)
 case atStart=>exact⟨rfl,rfl⟩
 case round=>
  obtain⟨rfl,rfl⟩:=hrel
  rename World=>W
  obtain⟨Z,U,k4,aL,ab⟩:=F;go_upto_region 10 with fail
  go_wp2_with fail
  refine (aM.out _).mono ?_;rintro e w1 ⟨⟨x9,rfl⟩,rfl⟩;have⟨c0,c1,c2,c3⟩:=U.q4;have⟨d0,d1,d2,d3⟩:=k4.q4;have⟨f0,f1,f2,f3⟩:=k4.f4;have fl:=k4.lt;have k9:=(((k4.set 0 (.slice none 0 0)).set 1 ()).set 2 ()).set 3 (.string (⟨#[]⟩));have ad:=(((aL.setCell (p:=⟨w.heap.size,0,none⟩) (Vj _) (.slice none 0 0)).setCell (p:=⟨w.heap.size,1,none⟩) (Vj _) ()).setCell (p:=⟨w.heap.size,2,none⟩) (Vj _) ()).setCell (p:=⟨w.heap.size,3,none⟩) (Vj _) (.string (⟨#[]⟩));have ax:=((((ai.refl [w.heap.size] W).setCell (p:=⟨w.heap.size,0,none⟩) (.inr s_) (.slice none 0 0)).setCell (p:=⟨w.heap.size,1,none⟩) (.inr s_) ()).setCell (p:=⟨w.heap.size,2,none⟩) (.inr s_) ()).setCell (p:=⟨w.heap.size,3,none⟩) (.inr s_) (.string (⟨#[]⟩));go_wp2;clear c0 c1 c2 c3 d0 d1 d2 d3 f0 f1 f2 f3;generalize setCell _ _ _=w9 at ad k9 ax ⊢;have⟨q0,q1,q2,q3⟩:=k9.q4;refine Vk (v:=.tuple #[.agg #[.slice none 0 0,(),(),.string (⟨#[]⟩)],false]) mE rfl ?_;exact FE):=h
def I7(h:P:=by
 refine⟨.inr ⟨rfl,_,ac.step HS.out V I bb K⟩,?_⟩;simp [intOf]):=h
def ah.under{r B:Nat}{cs:Array Value}{T:TypeId}{w w':World}(h:ah r cs T w)(hb:af B w w')(hr:r<B):ah r cs T w':=(hb.block r hr).trans h
def yu(u:ak)(hu:u.size<=10000)(n:Int)(hn:cp u=some n)(w:World):Rw 101 #[u] w (.tuple #[n,true]):=by
 refine (Cj u o_ w).mono ?_;rintro e w1 ⟨v,rfl,⟨m,rfl,hm⟩,rfl⟩;have cy:jD u.data.toList=some n:=hn;rw[cy,hm n cy];exact⟨rfl,rfl⟩
def yR(u:ak)(hu:u.size<=10000)(hn:cp u=none)(w:World):Kp 101 #[u] w λe w'=>(∃x:Int,e=.returned (.tuple #[x,false]))/\w=w':=by
 refine (Cj u o_ w).mono ?_;rintro e w1 ⟨v,rfl,⟨m,rfl,hm⟩,rfl⟩;have cy:jD u.data.toList=none:=hn;rw[cy];exact⟨⟨m,rfl⟩,rfl⟩
def lh(w W:World)(rB S:Nat)(G:Value)(xs:List Int)(wr:World):Prop:=
 ar wr S G xs/\ah rB #[G,(),(),.string ⟨#[]⟩] 98 wr/\ah w.heap.size #[.slice none 0 0,(),(),.string ⟨#[]⟩] 98 wr/\af w w wr/\ai [rB] W wr
def lh.step{w W wr w4:World}{rB S:Nat}{G v':Value}{xs:List Int}{n:Int}(h:lh w W rB S G xs wr)(hS:W.heap.size=S)(aa:w.heap.size<rB)(I:rB<S)(bb:ar w4 S v' (xs++[n]))(K:af S wr w4):lh w W rB S v' (xs++[n]) (w4.setCell ⟨rB,0,none⟩ v'):=by
 obtain⟨_,U,k4,aL,hO⟩:=h;have bi:ai [rB] w4 (w4.setCell ⟨rB,0,none⟩ v'):=(ai.refl _ _).setCell (.inr s_) v';have g:ai [rB] W w4:=⟨K.os.trans hO.os,K.tape.trans hO.tape,K.output.trans hO.output,Vl hO.size K.size,λk hk hn=>(K.block k (hS▸hk)).trans (hO.block k hk hn)⟩
 refine⟨m_ bb bi (λk hk hm=>?_),(U.under K I).set 0 v',(k4.under K o_).far (p:=⟨rB,0,none⟩) vh v',?_,g.trans bi⟩
 .have:=(Wb bb k hk).1;rw[VE] at hm;omega
 .exact (aL.trans (K.mono o_)).setCell (p:=⟨rB,0,none⟩) vL v'
def Qs(g c:Nat)(u:ak)(hu:u.size<=10000)(w:World)(hg:g<w.heap.size)(q1:w.cell? ⟨g,1,none⟩=some (.string u)):
 Kp 68 #[.string ⟨#[110]⟩,.slice (some ⟨g,1,none⟩) 1 c] w (eo (cp u).isSome (λG _ _ _ w'=>∃n,cp u=some n/\ar w' w.heap.size G [n]) w):=by
 obtain⟨k4,U,J⟩:=cO w #[.slice none 0 0,(),(),.string ⟨#[]⟩] 98 #[.slice none 0 0,(),(),.string ⟨#[]⟩] 98;have ae:=Vp hg J.size;have aG:=(J.cell (p:=⟨g,1,none⟩) hg).trans q1;clear q1;cases Z:cp u with
 |none=>
  have aM:=h_ (yR u hu Z);rw[show (none:Option Int).isSome=false from rfl];exact KT
 |some n=>
  have az:=h_ (yu u hu n Z);rw[show (some n:Option Int).isSome=true from rfl];clear Z;go_enter func68,ntmps68;go_upto_region 2 with fail
  generalize (w.alloc _).alloc _=W at *;generalize aa:w.heap.size+1=rB at *;have V:w.heap.size<rB:=o_;clear aa;have aF:Hid (W.heap.size=W.heap.size):=h_ rfl;obtain⟨S,hS⟩:∃S,W.heap.size=S:=⟨_,rfl⟩
  have I:rB<S:=by have:=U.lt;omega
  have b6:g<S:=o_;have bo:w.heap.size<S:=by have:=k4.lt;omega
  have HS:=h_ hS;have h0:lh w W rB S (.slice none 0 0) [] W:=⟨ar.nil _ _,U,k4,J,.refl _ _⟩
  clear hS k4 U J aF ae;have F:=h0;go_upto_region 5 with fail
  go_loopw [22] (λiv wr=>(iv=.int .i64 0/\wr=W)\/(iv=.int .i64 1/\∃G,lh w W rB S G [n] wr)) (λiv _=>1 - (intOf iv).toNat)
  case atStart=>exact .inl ⟨rfl,rfl⟩
  case round=>
   rcases hrel with ⟨rfl,rfl⟩|⟨rfl,G,H⟩
   .rename World=>W
    have ac:=F;obtain⟨Z,U,k4,aL,ab⟩:=F;have a6:S<=W.heap.size:=HS.out▸(Vl (Y8 HS.out.symm.symm) (HS.out▸ab.size));go_upto_region 10 with fail
    go_wp2_with fail
    refine (az.out _).mono ?_;rintro e w1 ⟨rfl,rfl⟩;go_upto_region 13 with fail
    have f0:=U.frozen 0;have c0:W.cell? ⟨rB,0,none⟩=some (.slice none 0 0):=U.cell 0;have fl:=U.lt;go_wp2_with (at_builtin;refine fY (y:=n) rfl _ _ rfl S _ [] rfl Z rfl d_ a6 ?_;intro v' w4 bb K b0;obtain⟨aX,cX,rfl,_⟩:=id bb.form;have f9:=(U.under K I).frozen 0;have c9:w4.cell? ⟨rB,0,none⟩=some _:=(U.under K I).cell 0)
    exact I7
   .rename World=>W2
    obtain⟨Z,U,k4,aL,ab⟩:=H;obtain⟨aX,cX,rfl,_⟩:=Z.form;simp only[VA,Wf,V9] at Z U;have⟨c0,c1,c2,c3⟩:=U.q4;have⟨d0,d1,d2,d3⟩:=k4.q4;have⟨f0,f1,f2,f3⟩:=k4.f4;have fl:=k4.lt;have k9:=(((k4.set 0 (.slice aX 1 cX)).set 1 ()).set 2 ()).set 3 (.string (⟨#[]⟩));have ad:=(((aL.setCell (p:=⟨w.heap.size,0,none⟩) (Vj _) (.slice aX 1 cX)).setCell (p:=⟨w.heap.size,1,none⟩) (Vj _) ()).setCell (p:=⟨w.heap.size,2,none⟩) (Vj _) ()).setCell (p:=⟨w.heap.size,3,none⟩) (Vj _) (.string (⟨#[]⟩));have ax:=((((ai.refl [w.heap.size] W2).setCell (p:=⟨w.heap.size,0,none⟩) (.inr s_) (.slice aX 1 cX)).setCell (p:=⟨w.heap.size,1,none⟩) (.inr s_) ()).setCell (p:=⟨w.heap.size,2,none⟩) (.inr s_) ()).setCell (p:=⟨w.heap.size,3,none⟩) (.inr s_) (.string (⟨#[]⟩));go_wp2;clear c0 c1 c2 c3 d0 d1 d2 d3 f0 f1 f2 f3;generalize setCell _ _ _=w9 at ad k9 ax ⊢;have⟨q0,q1,q2,q3⟩:=k9.q4;refine Vk (v:=.tuple #[.agg #[.slice aX 1 cX,(),(),.string (⟨#[]⟩)],true]) mE rfl ?_;refine⟨_,_,_,_,rfl,ad,(λ_=>⟨n,rfl,?_⟩),(λk h=>⟨by have:=(Wb Z k h).1;omega,Vp (Wb Z k h).2 ax.size⟩),_,_,_,rfl⟩;have h1:ar w9 S (.slice aX 1 cX) [n]:=m_ Z ax (λk hk hm=>by have:=(Wb Z k hk).1;rw[VE] at hm;omega);exact h1.le o_
def Pz(g c:Nat)(u u2:ak)(hu:u.size<=10000)(bz:u2.size<=10000)(w:World)(hg:g<w.heap.size)(q1:w.cell? ⟨g,1,none⟩=some (.string u))(q2:w.cell? ⟨g,2,none⟩=some (.string u2)):
 Kp 68 #[.string ⟨#[110,110]⟩,.slice (some ⟨g,1,none⟩) 2 c] w (eo ((cp u).isSome&&(cp u2).isSome) (λG _ _ _ w'=>∃n m,cp u=some n/\cp u2=some m/\ar w' w.heap.size G [n,m]) w):=by
 obtain⟨k4,U,J⟩:=cO w #[.slice none 0 0,(),(),.string ⟨#[]⟩] 98 #[.slice none 0 0,(),(),.string ⟨#[]⟩] 98;have ae:=Vp hg J.size;have aG:=(J.cell (p:=⟨g,1,none⟩) hg).trans q1;clear q1;have a2:=(J.cell (p:=⟨g,2,none⟩) hg).trans q2;clear q2;cases Z:cp u with
 |none=>
  have aM:=h_ (yR u hu Z);rw[show ((none:Option Int).isSome&&(cp u2).isSome)=false from rfl];exact KT
 |some n=>
  have az:=h_ (yu u hu n Z);clear Z;cases bs:cp u2 with
  |none=>
   have aM:=h_ (yR u2 bz bs);rw[show ((some n:Option Int).isSome&&(none:Option Int).isSome)=false from rfl];clear bs;go_enter func68,ntmps68;go_upto_region 2 with fail
   generalize (w.alloc _).alloc _=W at *;generalize aa:w.heap.size+1=rB at *;have V:w.heap.size<rB:=o_;clear aa;have aF:Hid (W.heap.size=W.heap.size):=h_ rfl;obtain⟨S,hS⟩:∃S,W.heap.size=S:=⟨_,rfl⟩
   have I:rB<S:=by have:=U.lt;omega
   have b6:g<S:=o_;have bo:w.heap.size<S:=by have:=k4.lt;omega
   have HS:=h_ hS;have h0:lh w W rB S (.slice none 0 0) [] W:=⟨ar.nil _ _,U,k4,J,.refl _ _⟩
   clear hS k4 U J aF ae;have F:=h0;have a1:g≠rB:=o_;go_upto_region 5 with fail
   go_loopw [22] (λiv wr=>(iv=.int .i64 0/\wr=W)\/(iv=.int .i64 1/\∃G,lh w W rB S G [n] wr)) (λiv _=>1 - (intOf iv).toNat)
   case atStart=>exact .inl ⟨rfl,rfl⟩
   case round=>
    rcases hrel with ⟨rfl,rfl⟩|⟨rfl,G,H⟩
    .rename World=>W
     have ac:=F;obtain⟨Z,U,k4,aL,ab⟩:=F;have a6:S<=W.heap.size:=HS.out▸(Vl (Y8 HS.out.symm.symm) (HS.out▸ab.size));go_upto_region 10 with fail
     go_wp2_with fail
     refine (az.out _).mono ?_;rintro e w1 ⟨rfl,rfl⟩;go_upto_region 13 with fail
     have f0:=U.frozen 0;have c0:W.cell? ⟨rB,0,none⟩=some (.slice none 0 0):=U.cell 0;have fl:=U.lt;go_wp2_with (at_builtin;refine fY (y:=n) rfl _ _ rfl S _ [] rfl Z rfl s_ a6 ?_;intro v' w4 bb K b0;obtain⟨aX,cX,rfl,_⟩:=id bb.form;have f9:=(U.under K I).frozen 0;have c9:w4.cell? ⟨rB,0,none⟩=some _:=(U.under K I).cell 0)
     exact I7
    .rename World=>W2
     have a3:=(H.2.2.2.2.cell (p:=⟨g,2,none⟩) (by rw[HS.out];exact b6) (by simpa using a1)).trans a2;obtain⟨aX,cX,rfl,_⟩:=H.1.form;simp only[VA,Wf,V9] at H;replace F:=H;obtain⟨Z,U,k4,aL,ab⟩:=F;go_upto_region 10 with fail
     go_wp2_with fail
     refine (aM.out _).mono ?_;rintro e w1 ⟨⟨x9,rfl⟩,rfl⟩;have⟨c0,c1,c2,c3⟩:=U.q4;have⟨d0,d1,d2,d3⟩:=k4.q4;have⟨f0,f1,f2,f3⟩:=k4.f4;have fl:=k4.lt;have k9:=(((k4.set 0 (.slice aX 1 cX)).set 1 ()).set 2 ()).set 3 (.string (⟨#[]⟩));have ad:=(((aL.setCell (p:=⟨w.heap.size,0,none⟩) (Vj _) (.slice aX 1 cX)).setCell (p:=⟨w.heap.size,1,none⟩) (Vj _) ()).setCell (p:=⟨w.heap.size,2,none⟩) (Vj _) ()).setCell (p:=⟨w.heap.size,3,none⟩) (Vj _) (.string (⟨#[]⟩));have ax:=((((ai.refl [w.heap.size] W2).setCell (p:=⟨w.heap.size,0,none⟩) (.inr s_) (.slice aX 1 cX)).setCell (p:=⟨w.heap.size,1,none⟩) (.inr s_) ()).setCell (p:=⟨w.heap.size,2,none⟩) (.inr s_) ()).setCell (p:=⟨w.heap.size,3,none⟩) (.inr s_) (.string (⟨#[]⟩));go_wp2;clear c0 c1 c2 c3 d0 d1 d2 d3 f0 f1 f2 f3;generalize setCell _ _ _=w9 at ad k9 ax ⊢;have⟨q0,q1,q2,q3⟩:=k9.q4;refine Vk (v:=.tuple #[.agg #[.slice aX 1 cX,(),(),.string (⟨#[]⟩)],false]) mE rfl ?_;exact FE
  |some m=>
   have aZ:=h_ (yu u2 bz m bs);rw[show ((some n:Option Int).isSome&&(some m:Option Int).isSome)=true from rfl];clear bs;go_enter func68,ntmps68;go_upto_region 2 with fail
   generalize (w.alloc _).alloc _=W at *;generalize aa:w.heap.size+1=rB at *;have V:w.heap.size<rB:=o_;clear aa;have aF:Hid (W.heap.size=W.heap.size):=h_ rfl;obtain⟨S,hS⟩:∃S,W.heap.size=S:=⟨_,rfl⟩
   have I:rB<S:=by have:=U.lt;omega
   have b6:g<S:=o_;have bo:w.heap.size<S:=by have:=k4.lt;omega
   have HS:=h_ hS;have h0:lh w W rB S (.slice none 0 0) [] W:=⟨ar.nil _ _,U,k4,J,.refl _ _⟩
   clear hS k4 U J aF ae;have F:=h0;have a1:g≠rB:=o_;go_upto_region 5 with fail
   go_loopw [22] (λiv wr=>(iv=.int .i64 0/\wr=W)\/(iv=.int .i64 1/\∃G,lh w W rB S G [n] wr)\/(iv=.int .i64 2/\∃G,lh w W rB S G [n,m] wr)) (λiv _=>2 - (intOf iv).toNat)
   case atStart=>exact .inl ⟨rfl,rfl⟩
   case round=>
    rcases hrel with ⟨rfl,rfl⟩|⟨rfl,G,H⟩|⟨rfl,G,H⟩
    .rename World=>W
     have ac:=F;obtain⟨Z,U,k4,aL,ab⟩:=F;have a6:S<=W.heap.size:=HS.out▸(Vl (Y8 HS.out.symm.symm) (HS.out▸ab.size));go_upto_region 10 with fail
     go_wp2_with fail
     refine (az.out _).mono ?_;rintro e w1 ⟨rfl,rfl⟩;go_upto_region 13 with fail
     have f0:=U.frozen 0;have c0:W.cell? ⟨rB,0,none⟩=some (.slice none 0 0):=U.cell 0;have fl:=U.lt;go_wp2_with (at_builtin;refine fY (y:=n) rfl _ _ rfl S _ [] rfl Z rfl s_ a6 ?_;intro v' w4 bb K b0;obtain⟨aX,cX,rfl,_⟩:=id bb.form;have f9:=(U.under K I).frozen 0;have c9:w4.cell? ⟨rB,0,none⟩=some _:=(U.under K I).cell 0)
     refine⟨.inr (.inl ⟨rfl,_,ac.step HS.out V I bb K⟩),?_⟩;simp [intOf]
    .rename World=>W2
     have a3:=(H.2.2.2.2.cell (p:=⟨g,2,none⟩) (by rw[HS.out];exact b6) (by simpa using a1)).trans a2;obtain⟨aX,cX,rfl,_⟩:=H.1.form;simp only[VA,Wf,V9] at H;replace F:=H;replace az:=aZ;have ac:=F;obtain⟨Z,U,k4,aL,ab⟩:=F;have a6:S<=W2.heap.size:=HS.out▸(Vl (Y8 HS.out.symm.symm) (HS.out▸ab.size));go_upto_region 10 with fail
     go_wp2_with fail
     refine (az.out _).mono ?_;rintro e w1 ⟨rfl,rfl⟩;go_upto_region 13 with fail
     have f0:=U.frozen 0;have c0:W2.cell? ⟨rB,0,none⟩=some (.slice aX 1 cX):=U.cell 0;have fl:=U.lt;go_wp2_with (at_builtin;refine fY (y:=m) rfl _ _ rfl S _ [n] rfl Z rfl s_ a6 ?_;intro v' w4 bb K b0;obtain⟨aX,cX,rfl,_⟩:=id bb.form;have f9:=(U.under K I).frozen 0;have c9:w4.cell? ⟨rB,0,none⟩=some _:=(U.under K I).cell 0)
     refine⟨.inr (.inr ⟨rfl,_,ac.step HS.out V I bb K⟩),?_⟩;simp [intOf]
    .rename World=>W3
     obtain⟨Z,U,k4,aL,ab⟩:=H;obtain⟨aX,cX,rfl,_⟩:=Z.form;simp only[VA,Wf,V9] at Z U;have⟨c0,c1,c2,c3⟩:=U.q4;have⟨d0,d1,d2,d3⟩:=k4.q4;have⟨f0,f1,f2,f3⟩:=k4.f4;have fl:=k4.lt;have k9:=(((k4.set 0 (.slice aX 2 cX)).set 1 ()).set 2 ()).set 3 (.string (⟨#[]⟩));have ad:=(((aL.setCell (p:=⟨w.heap.size,0,none⟩) (Vj _) (.slice aX 2 cX)).setCell (p:=⟨w.heap.size,1,none⟩) (Vj _) ()).setCell (p:=⟨w.heap.size,2,none⟩) (Vj _) ()).setCell (p:=⟨w.heap.size,3,none⟩) (Vj _) (.string (⟨#[]⟩));have ax:=((((ai.refl [w.heap.size] W3).setCell (p:=⟨w.heap.size,0,none⟩) (.inr s_) (.slice aX 2 cX)).setCell (p:=⟨w.heap.size,1,none⟩) (.inr s_) ()).setCell (p:=⟨w.heap.size,2,none⟩) (.inr s_) ()).setCell (p:=⟨w.heap.size,3,none⟩) (.inr s_) (.string (⟨#[]⟩));go_wp2;clear c0 c1 c2 c3 d0 d1 d2 d3 f0 f1 f2 f3;generalize setCell _ _ _=w9 at ad k9 ax ⊢;have⟨q0,q1,q2,q3⟩:=k9.q4;refine Vk (v:=.tuple #[.agg #[.slice aX 2 cX,(),(),.string (⟨#[]⟩)],true]) mE rfl ?_;refine⟨_,_,_,_,rfl,ad,(λ_=>⟨n,m,rfl,rfl,?_⟩),(λk h=>⟨by have:=(Wb Z k h).1;omega,Vp (Wb Z k h).2 ax.size⟩),_,_,_,rfl⟩;have h1:ar w9 S (.slice aX 2 cX) [n,m]:=m_ Z ax (λk hk hm=>by have:=(Wb Z k hk).1;rw[VE] at hm;omega);exact h1.le o_
abbrev kp(b:Bool)(Q:eK)(u:ak)(tl:bW):Prop:=∀g F W,dZ g (u::tl) W->tl.length+1<=F->Kp 68 #[.string (cr u),.slice (if F=1 then some ⟨g,0,none⟩ else some ⟨g,1,none⟩) tl.length (F - 1)] W (eo b Q W)
def Io(h:P:=by injection e1 with e1;injection e1 with e1;injection e1 with e1;subst e1;exact h3.lt):=h
def J6(h:P:=by injection e1 with e1;injection e1 with e1;injection e1 with e1;subst e1;exact h3):=h
def H6(h:P:=by injection e with e;injection e with e;injection e with e;subst e;exact h5):=h
def AQ(h:P:=by
 refine aE hne (bk 12 1) 0 (aK.and (a5 _ _ _ _ _ _)) aB ?_;refine dn λWz a7 aX=>?_;exact bp r9 p n c a b T Wz ⟨bb,aX.1,aX.2⟩):=h
def Hu(h:P:=by
 intro E hE bs b8;(repeat (first|(refine gN ?_;go_big_quiet_step ((go_at_call 69;exact Calls.quiet_clsS _ (a4.out _)));refine wpQuiet_nil ?_)|refine gM ?_));exact gO rfl):=h
def Gr(h:P:=by
 exact AQ):=h
section
variable {P:Program}{id:Nat}{ops:Array Oper}{b:Bool}{Q:Exit->Act->av}{a:Act}{w:World}
def jn{A:Nat->ck->Nat->Nat->Int->Int->ak->Act}(F:Nat->ck->Nat->Nat->Int->Int->ak->av)(h1:(∀r p n c x y t W1,F r p n c x y t W1->Q .normal (A r p n c x y t) W1)->(Code.region id ops b).wp P Q a w)(h2:∀r p n c x y t W1,F r p n c x y t W1->Q .normal (A r p n c x y t) W1):(Code.region id ops b).wp P Q a w:=h1 h2
end
def cU.txw{w}{G}{v}{xs}(h:cU w G v xs)(hn:xs≠[]):∃g F,v=.slice (some ⟨g,0,none⟩) xs.length F/\xs.length<=F/\dZ g xs w/\G<=g:=by
 have h0:=Wm.2 hn;obtain⟨a,F,rfl,hc,hf⟩:=nQ h;obtain⟨g,rfl,hg,hb,_,_⟩:=hf 0 h0;refine⟨g,F,rfl,hc,⟨hg,λi hi=>?_⟩,hb⟩;have⟨g',e,_,_,_,H⟩:=hf i hi;injection e with e;injection e with e;subst e;have:=H 0 (.string xs[i]) o_ (by simp [hi]);simpa using this
def gm(Q:eK):Prop:=(∀v a b T,aQ (Q v a b T))/\∀r9 v a b T w w',Q v a b T w->ai [r9] w w'->v.ownBlock≠some r9->Q v a b T w'
def cS(W:World)(ok:Bool)(Q:eK)(p:ck)(n c:Nat)(a b:Int)(T:ak)(w':World):Prop:=af W W w'/\(ok=true->Q (.slice p n c) a b T w')/\∀k,(Value.slice p n c).ownBlock=some k->k<w'.heap.size
def fe(W:World)(ok:Bool)(Q:eK)(E:av)(r9:Nat)(v:Value)(w':World):Prop:=
 ∃p n c a b T,v=.tuple #[.agg #[.slice p n c,.int .i64 a,.int .i64 b,.string T],.bool ok]/\cS W ok Q p n c a b T w'/\E w'/\(Value.slice p n c).ownBlock≠some r9
def cS.closed{W}{ok}{Q:eK}(hQ:gm Q)(p)(n c)(a b)(T):aQ (cS W ok Q p n c a b T):=λ_ _ ⟨h2,h3,h4⟩ hb=>⟨ag hb h2.size h2,λh=>hQ.1 _ a b T _ _ (h3 h) hb,λk hk=>Vp (h4 k hk) hb.size⟩
def cS.over{W w w'}{ok}{Q:eK}(hQ:gm Q){p}{n c}{a b}{T}{r9}(h:cS W ok Q p n c a b T w)(Z:ai [r9] w w')(hr:W.heap.size<=r9)(hn:(Value.slice p n c).ownBlock≠some r9):cS W ok Q p n c a b T w':=
 ⟨Z.belowGe h.1 h.1.size iB,λh1=>hQ.2 r9 _ a b T _ _ (h.2.1 h1) Z hn,λk hk=>Vp (h.2.2 k hk) Z.size⟩
def fe.closed{W}{ok}{Q:eK}(hQ:gm Q){E:av}(hE:aQ E)(r9)(v):aQ (fe W ok Q E r9 v):=λ_ _ ⟨p,n,c,a,b,T,h1,h2,h3,h4⟩ hb=>⟨p,n,c,a,b,T,h1,cS.closed hQ _ _ _ _ _ _ _ _ h2 hb,hE _ _ h3 hb,h4⟩
def eo.ln{W w1 w2:World}{ok}{Q:eK}{e}{E:av}(hE:aQ E)(he:E w1){r9}(hr:r9<w1.heap.size)(hb:af W W w1)(h:eo ok Q w1 e w2):∃v,e=.returned v/\ai [] w1 w2/\fe W ok Q E r9 v w2:=by
 obtain⟨G,a,b,T,rfl,U,hq,Z,x,n,c,rfl⟩:=h;exact⟨_,rfl,.of_below U,x,n,c,a,b,T,rfl,⟨ag U hb.size hb,hq,λk hk=>(Z k hk).2⟩,hE _ _ he U,λh9=>by have:=(Z r9 h9).1;omega⟩
def fe.get{W}{ok}{Q:eK}{E:av}{r9}{w'}{p}{n c}{a b:Int}{T:ak}(h:fe W ok Q E r9 (.tuple #[.agg #[.slice p n c,a,b,T],ok]) w'):cS W ok Q p n c a b T w'/\E w'/\(Value.slice p n c).ownBlock≠some r9:=by
 have⟨p',H,c',a',b',g,h1,h2⟩:=h;have h3:((p=p'/\n=H/\c=c')/\a=a'/\b=b'/\T=g):=(by simpa[YQ] using h1)
 obtain⟨⟨rfl,rfl,rfl⟩,rfl,rfl,rfl⟩:=h3;exact h2
def Qd(r:Nat)(s:CS)(v0 v1 v2:Value)(t:ak)(hs:t.size<=3000)(G:bB t 32≠[])(u:ak)(tl:bW)(K:bB t 32=u::tl)(Q:eK)(hQ:gm Q)
 (a3:kp false Q u tl)
 (w:World)(hk:fE r s v0 v1 v2 w):
 Kp 52 #[.pointer (some ⟨r,0,none⟩),t] w (aI r v0 v1 v2 w (cL,s)):=by
 have U:=h_ (gL t 32 w o_);rw[K] at U;have a4:=h_ (jt u);generalize hm:tl.length=m at *;go_enter func52,ntmps52;go_wp2_with fail
 refine U.out.mono ?_;rintro e w1 ⟨v,rfl,ab,I⟩;obtain⟨g,F,rfl,bo,H,a6⟩:=ab.txw s_;have q0:w1.cell? ⟨g,0,none⟩=some (.string u):=H.2 0 s_;simp at bo ⊢;go_upto_region 2 with fail
 have bq:=H.1;have b3:0<w1.heap.size:=o_;have a5:=@cS.closed w1 false Q hQ;have bY:=λ(E:av) (hE:aQ E) r9=>@fe.closed w1 false Q hQ E hE r9;have aG:=h_ (λW (hb:af w1 w1 W)=>a3 g F W (H.below hb) o_);clear a3 H;apply jn (λr9 p n c a b T Wz=>w1.heap.size<=r9/\ah r9 #[.slice p n c,.int .i64 a,.int .i64 b,.string T] 98 Wz/\cS w1 false Q p n c a b T Wz)
 .intro bp;refine bw [] (λ_=>false) (λ_=>True) (λ_=>True) k_ trivial ?_;apply lw ⟨w1,ai.refl _ _,trivial⟩ (cj 6 0) 7 ao aB k_ k_ k_ k_ s_
  .exact Hu
  refine aR [6,10] (am.cons ?_ (am.cons ?_ am.nil))
  .refine bN (some 20) (λv=>fe w1 false Q (λ_=>True) 0 v) (λv=>bY _ ao 0 v) (λw' hO _=>(aG.out w' hO.below).mono λe w2 h=>eo.ln ao trivial (Vp b3 hO.size) hO.below h) (λv hne=>?_);obtain⟨w8,b1,p,n,c,a,b,T,rfl,_⟩:=id hne;refine ap ?_;refine aE hne (bk 7 3) 3 (bY _ ao 0 _) aB ?_;refine aD 10 ?_;refine bP (some 6) (λv w'=>∃r9,v=.pointer (some ⟨r9,0,none⟩)/\w1.heap.size<=r9/\ah r9 #[.slice none 0 0,(),(),.string ⟨#[]⟩] 98 w'/\cS w1 false Q p n c a b T w'/\(Value.slice p n c).ownBlock≠some r9) r_ r_ r_ (λ_ _ _ ⟨r9,h1,h2,h3,h4,h5⟩ hb=>⟨r9,h1,h2,h3.next hb,a5 _ _ _ _ _ _ _ _ h4 hb,h5⟩) (λw' hO hd=>⟨.pointer (some ⟨w'.heap.size,0,none⟩),w'.alloc (.cells #[.slice none 0 0,(),(),.string ⟨#[]⟩] 98),by go_simp,hO.alloc _,w'.heap.size,rfl,hO.size,ah.new w' _ _,a5 _ _ _ _ _ _ _ _ hd.get.1 ((Vn _ _).alloc (Vj _) _),λh=>by have:=hd.get.1.2.2 _ h;omega⟩) (λv hne=>?_);obtain⟨w9,ax,r9,rfl,bb,_⟩:=id hne;refine ap ?_;refine aD 11 ?_;refine fC (v:=.agg #[.slice p n c,a,b,T]) r9 #[.slice none 0 0,(),(),.string ⟨#[]⟩] (λw'=>ah r9 #[.slice p n c,a,b,T] 98 w'/\cS w1 false Q p n c a b T w') (.inl bb) (λw' ⟨r',e,_,h,_⟩=>by injection e with e;injection e with e;injection e with e;subst e;exact h) (aK.and (a5 _ _ _ _ _ _)) (λw' b9 ⟨r',e,h2,h3,h4,h5⟩ Z hk=>⟨hk,h4.over hQ Z bb H6⟩) (λhne=>?_);exact Gr
  .refine bP (some 6) (λv w'=>∃r9,v=.pointer (some ⟨r9,0,none⟩)/\w1.heap.size<=r9/\ah r9 #[.slice none 0 0,(),(),.string ⟨#[]⟩] 98 w') r_ r_ r_ (λ_ _ _ ⟨r9,h1,h2,h3⟩ hb=>⟨r9,h1,h2,h3.next hb⟩) (λw' hO hd=>⟨.pointer (some ⟨w'.heap.size,0,none⟩),w'.alloc (.cells #[.slice none 0 0,(),(),.string ⟨#[]⟩] 98),by go_simp,hO.alloc _,w'.heap.size,rfl,hO.size,ah.new w' _ _⟩) (λv hne=>?_);obtain⟨w9,ax,r9,rfl,bb,_⟩:=id hne;refine ap ?_;refine aD 6 ?_;refine bN (some 20) (λv=>fe w1 false Q (ah r9 #[.slice none 0 0,(),(),.string ⟨#[]⟩] 98) r9 v) (λv=>bY _ aK r9 v) (λw' hO ⟨r',e1,_,h3⟩=>(aG.out w' hO.below).mono λe w2 h=>eo.ln aK J6 Io hO.below h) (λv hne=>?_);obtain⟨w8,b1,p,n,c,a,b,T,rfl,_⟩:=id hne;refine ap ?_;refine aE hne (bk 7 3) 2 (bY _ aK r9 _) aB ?_;refine aD 11 ?_;refine fC (v:=.agg #[.slice p n c,a,b,T]) r9 #[.slice none 0 0,(),(),.string ⟨#[]⟩] (λw'=>ah r9 #[.slice p n c,a,b,T] 98 w'/\cS w1 false Q p n c a b T w') (.inl bb) (λw' h=>h.get.2.1) (aK.and (a5 _ _ _ _ _ _)) (λw' b9 h Z hk=>⟨hk,h.get.1.over hQ Z bb h.get.2.2⟩) (λhne=>?_);exact Gr
 .rintro r9 p n c a b T Wz ⟨bb,k9,aZ,ac,az⟩;have aM:=ag aZ I.size I;have HX:Hid (aI r v0 v1 v2 w (cL,s) (.returned cL) Wz):=h_ (by obtain⟨vl,h1,h2⟩:=hk;exact⟨rfl,.of_below aM,vl,h1.below aM,h2.below aM⟩);clear hk;generalize (if F=1 then (some ⟨g,0,none⟩:ck) else some ⟨g,1,none⟩)=ad at *;go_wp2;go_ret;exact HX.out
def GX(h:P:=by
 try simp only[Value.cells]
 refine aE hne (bk 14 1) 0 (KD.closed (bt W) _) aB ?_;refine jp k_ (λWz a7 aX=>?_) _;exact bp G Wz ⟨a7,aX.1,o_,aX.2.head⟩):=h
def LX(h:P:=by
 refine aR [13] ?_;refine am.cons ?_ ?_
 .refine fB (v:=.agg #[(),(),(),(),()]) [] [] (.inl H) (bt W) (λ_ _ h Z=>Z.belowGe h h.size iB) s_ (λhne=>?_);exact GX
 exact am.nil):=h
def KY(h:P:=by
 refine aR [13] ?_;refine am.cons ?_ ?_
 .refine fB (v:=.agg #[c1,c2,lo,hi,t]) [] [] (.inl H) (bt W) (λ_ _ h Z=>Z.belowGe h h.size iB) s_ (λhne=>?_);exact GX
 exact am.nil):=h
def pW(h:P:=by
 go_wp2;go_ret;exact HF.out w1 (ag I J.size J)):=h
def aI.same{r}{v0 v1 v2 vl}{s:CS}{T}{w w'}(hk:cJ r s.A s.B s.X s.Y s.E vl v0 v1 v2 w)(Z:an w (r+1) vl s.L)(hb:af w w w'):aI r v0 v1 v2 w (T,s) (.returned T) w':=
 ⟨rfl,.of_below hb,vl,hk.below hb,Z.below hb⟩
def aI.move{r}{A B X Y E}{L}{v0 v1 v2 vl}{w w1 w2}{e}{x y z}(Z:an w (r+1) vl L)(hb:af w w w1)(h:fQ r (cR eX true) (if true then cJ r A B x y z vl v0 v1 v2 else cJ r A B X Y E vl v0 v1 v2) w1 e w2):aI r v0 v1 v2 w (de ⟨A,B,X,Y,E,L⟩ (some (x,y,z))) e w2:=by
 exact vT
def aI.stay{r}{A B X Y E}{L}{v0 v1 v2 vl}{w w1 w2}{e}{x y z}(Z:an w (r+1) vl L)(hb:af w w w1)(h:fQ r (cR eX false) (if false then cJ r A B x y z vl v0 v1 v2 else cJ r A B X Y E vl v0 v1 v2) w1 e w2):aI r v0 v1 v2 w (de ⟨A,B,X,Y,E,L⟩ none) e w2:=by
 exact vT
def aI.told{r}{v0 v1 v2 vl}{s:CS}{t}{b}{w w'}(hk:cJ r s.A s.B s.X s.Y s.E vl v0 v1 v2 w)(Z:an w (r+1) vl s.L)(hb:af w w w'):aI r v0 v1 v2 w (ci s t b) (.returned (.string (cR t b))) w':=by
 cases b
 .exact aI.same hk Z hb
 .exact aI.same hk Z hb
def aI.keep{r}{A B X Y E}{L M}{v0 v1 v2 vl v}{w w1 w2:World}{e}(Z:an w1 w.heap.size v M)(hr:r<w.heap.size)(hb:af w w w1)(h:fQ r (cR eX true) (if true then cJ r A B X Y E v v0 v1 v2 else cJ r A B X Y E vl v0 v1 v2) w1 e w2):aI r v0 v1 v2 w (eR ⟨A,B,X,Y,E,L⟩ (some M)) e w2:=by
 obtain⟨rfl,h2,h3⟩:=h;exact⟨rfl,ku hb h2,v,h3,(Z.le hr).past h2⟩
def aI.turn{r}{A B X Y E}{L}{v0 v1 v2 vl}{w w1 w2}{e}{x y a b}{f}(hf:f=true->x=a/\y=b)(Z:an w (r+1) vl L)(hb:af w w w1)(h:fQ r (cR eX f) (if f then cJ r x y 0 0 0 vl v0 v1 v2 else cJ r A B X Y E vl v0 v1 v2) w1 e w2):aI r v0 v1 v2 w (gT ⟨A,B,X,Y,E,L⟩ f a b) e w2:=by
 exact Gt
def PK(r)(A B X Y E)(L)(vl v0 v1 v2:Value)(p:ck)(n c:Nat)(a b:Int)(T:ak)(aa:CS.ok ⟨A,B,X,Y,E,L⟩)(w:World)(hk:cJ r A B X Y E vl v0 v1 v2 w)(Z:an w (r+1) vl L):
 Kp 82 #[.pointer (some ⟨r,0,none⟩),iV,.agg #[.slice p n c,a,b,T]] w (aI r v0 v1 v2 w (im X Y E,⟨A,B,X,Y,E,L⟩)):=by
 have HT:=h_ (DP A B X Y E aa.2.1);have HF:=h_ (λw1 (hb:af w w w1)=>@aI.same r v0 v1 v2 vl ⟨A,B,X,Y,E,L⟩ (im X Y E) w w1 hk Z hb);generalize im X Y E=V at *;have⟨kW,J⟩:=ay w #[.slice p n c,a,b,T] 98;have ab:=hk.below J;simp only[iV];go_enter func82,ntmps82;go_upto_region 1 with fail
 generalize w.alloc _=W at *;have⟨_,_,s2,s3,s4,_⟩:=ab.q6;go_wp2_with fail
 exact aj (HT.out W) λw1 I=>pW
def OQ(r)(A B X Y E)(L)(vl v0 v1 v2)(p)(n c)(a b:Int)(T:ak)(aa:CS.ok ⟨A,B,X,Y,E,L⟩)(w:World)(hk:cJ r A B X Y E vl v0 v1 v2 w)(Z:an w (r+1) vl L):
 Kp 82 #[.pointer (some ⟨r,0,none⟩),iQ,.agg #[.slice p n c,a,b,T]] w (aI r v0 v1 v2 w (ci ⟨A,B,X,Y,E,L⟩ (aC ((cg A B (X,Y,E)).getD 0)) (cg A B (X,Y,E)).isSome)):=by
 have⟨hA,hB⟩:=fs aa.1;obtain⟨k,f,hq,ae,hR⟩:∃(k:Int) (f:Bool),iG (cg A B (X,Y,E))=.tuple #[.int .i64 k,.bool f]/\(0<=k/\k<=12)/\ci ⟨A,B,X,Y,E,L⟩ (aC ((cg A B (X,Y,E)).getD 0)) (cg A B (X,Y,E)).isSome=ci ⟨A,B,X,Y,E,L⟩ (aC k) f:=by
  exact F7
 have h1:=λW=>xU A B X Y E hA hB aa.2.1 W;rw[hq] at h1;rw[hR];have HT:=h_ (xM k f o_);have HF:=h_ (λw1 (hb:af w w w1)=>@aI.told r v0 v1 v2 vl ⟨A,B,X,Y,E,L⟩ (aC k) f w w1 hk Z hb);generalize ci _ _ _=R,cR (aC k) f=V at *;have⟨kW,J⟩:=ay w #[.slice p n c,a,b,T] 98;have ab:=hk.below J;simp only[iQ];go_enter func82,ntmps82;go_upto_region 1 with fail
 generalize w.alloc _=W at *;have⟨s0,s1,s2,s3,s4,_,sl⟩:=ab.p6;go_upto_region 5 with fail
 (refine bR k_ k_ ?_;(repeat (go_big_quiet_step ((first|(go_at_call 123;exact Calls.quiet_cls ao _ ((h_ h1).out _))|(go_at_call 122;exact Calls.quiet_cls ao _ (HT.out _))))));refine wpQuiet_nil ?_;intro w1 I)
 exact pW
def NC(r)(A B X Y E)(L)(vl v0 v1 v2)(p:ck)(n c:Nat)(a b:Int)(T:ak)(aa:CS.ok ⟨A,B,X,Y,E,L⟩)(w)(hk:cJ r A B X Y E vl v0 v1 v2 w)(Z:an w (r+1) vl L):
 Kp 82 #[.pointer r,iM,.agg #[.slice p n c,a,b,T]] w (aI r v0 v1 v2 w (mG A B,⟨A,B,X,Y,E,L⟩)):=by
 have hb:=zy A B;have H:=h_ (MN A B aa.1);rw[show qq A B=.tuple #[fD A B,fU A B,true] from rfl] at H;have H1:=h_ (ou (fD A B) o_);have H2:=h_ (ou (fU A B) o_);have HF:=h_ (λw1 (hb:af w w w1)=>@aI.same r v0 v1 v2 vl ⟨A,B,X,Y,E,L⟩ (mG A B) w w1 hk Z hb);unfold mG at HF ⊢;have z1:=dX (fD A B) o_;have z2:=dX (fU A B) o_;have e1:(⟨#[44]⟩:ak).size=1:=rfl;have g:=pe (aC (fD A B)) ⟨#[44]⟩ (aC (fU A B)) o_ o_ o_;have a5:=λw=>Vr (P:=prog) w (aC (fD A B)) ⟨#[44]⟩ o_;have a8:=λw=>Vr (P:=prog) w (aC (fD A B)++⟨#[44]⟩) (aC (fU A B)) o_;generalize aC (fD A B)=V,aC (fU A B)=SN,fD A B=G,fU A B=F at *;have⟨kW,J⟩:=ay w #[.slice p n c,a,b,T] 98;have ab:=hk.below J;simp only[iM];go_enter func82,ntmps82;go_upto_region 1 with fail
 generalize w.alloc _=W at *;have⟨s0,s1,_,_,_,_⟩:=ab.q6;go_upto_region 15 with fail
 go_wp2_with fail
 refine aj (H.out W) λw1 I=>?_;go_wp2_with fail
 refine aj (H1.out w1) λw2 U=>?_;have ax:=ag U I.size I;go_wp2_with fail
 refine aj (H2.out w2) λw3 aF=>?_;go_wp2;go_ret;exact HF.out w3 (ag (ag aF ax.size ax) J.size J)
def NQ(r)(A B X Y E)(L)(vl v0 v1 v2)(p)(n c:Nat)(a b:Int)(T:ak)(aa:CS.ok ⟨A,B,X,Y,E,L⟩)(w:World)(hk:cJ r A B X Y E vl v0 v1 v2 w)(Z:an w (r+1) vl L):
 Kp 82 #[.pointer r,iK,.agg #[.slice p n c,a,b,T]] w (aI r v0 v1 v2 w (aC L.length,⟨A,B,X,Y,E,L⟩)):=by
 have hl:=aa.2.2.2.2;simp only at hl;have H1:=h_ (ou (L.length:Int) o_);have HF:=h_ (λw1 (hb:af w w w1)=>@aI.same r v0 v1 v2 vl ⟨A,B,X,Y,E,L⟩ (aC L.length) w w1 hk Z hb);obtain⟨aL,F,rfl,_,_⟩:=Z.form;generalize aC L.length=V at *;have⟨kW,J⟩:=ay w #[.slice p n c,a,b,T] 98;have ab:=hk.below J;simp only[iK];go_enter func82,ntmps82;go_upto_region 1 with fail
 generalize w.alloc _=W at *;have⟨_,_,_,_,_,s5⟩:=ab.q6;go_upto_region 27 with fail
 go_wp2_with fail
 exact aj (H1.out W) λw1 I=>pW
def Qe(r:Nat)(A B X Y E:Int)(L:bM)(vl v0 v1 v2:Value)(p:ck)(n c:Nat)(a b:Int)(T:ak)(aa:CS.ok ⟨A,B,X,Y,E,L⟩)(w:World)(hk:cJ r A B X Y E vl v0 v1 v2 w)(Z:an w (r+1) vl L):
 Kp 82 #[.pointer (some ⟨r,0,none⟩),iU,.agg #[.slice p n c,a,b,T]] w (aI r v0 v1 v2 w (kL (fK L (A,B)),⟨A,B,X,Y,E,L⟩)):=by
 have HD:=λW (hb:af w w W)=>NL (r+1) vl L A B aa.1 aa.2.2 W (Z.below hb);have U:=λe=>@yg L (A,B) aa.2.2 e;have HF:=h_ (λw1 (hb:af w w w1)=>@aI.same r v0 v1 v2 vl ⟨A,B,X,Y,E,L⟩ (kL (fK L (A,B))) w w1 hk Z hb);generalize fK L (A,B)=o at *;obtain⟨aL,F,rfl,_,_⟩:=Z.form;obtain⟨kW,J⟩:=ay w #[.slice p n c,a,b,T] 98;have ab:=hk.below J;simp only[iU];clear Z;rcases o with _|⟨⟨c1,c2⟩,lo,hi,t⟩
 .simp only[kL] at HF ⊢;simp only[mb] at HD;have a1:=h_ HD;clear HD U;go_enter func82,ntmps82;go_upto_region 1 with fail
  generalize w.alloc _=W at *;have⟨s0,s1,s2,s3,s4,s5,sl⟩:=ab.p6;go_upto_region 23 with fail
  apply fZ (λG Wz=>ai [] W Wz/\(λw'=>af W W w') Wz/\W.heap.size<=G/\ah G #[(),(),(),(),()] 70 Wz)
  .intro bp;refine bw [] (λ_=>false) (λ_=>True) (KD (λw'=>af W W w') []) k_ ⟨(bt W) _ _ (Vn _ _) ((Vn _ _).drew),bU.nil _⟩ ?_;refine aE ⟨W,ai.refl _ _,Vn _ _,bU.nil _⟩ (cj 8 0) 7 (KD.closed (bt W) _) aB ?_;refine aR [8,12] ?_;refine am.cons ?_ ?_
   .refine ep (v:=.tuple #[.agg #[(),(),(),(),()],false]) (some 167) (λw'=>af W W w') (bt W) (λ_ _=>by simp) (λw' hC=>(a1.out w' (ag hC J.size J)).mono λ_ _ h=>⟨h.1,.of_below h.2,ag h.2 hC.size hC⟩) (λhne=>?_);refine ap ?_;refine aE hne (bk 9 3) 3 (KD.closed (bt W) _) aB ?_;refine aR [12] ?_;refine am.cons ?_ ?_
    .refine dB (zs:=#[(),(),(),(),()]) (T:=70) (bt W) (λG H I hne=>?_);refine ap ?_;exact LX
    exact am.nil
   refine am.cons ?_ ?_
   .refine dB (zs:=#[(),(),(),(),()]) (T:=70) (bt W) (λG H I hne=>?_);refine ap ?_;refine aR [8] ?_;refine am.cons ?_ ?_
    .refine ep (v:=.tuple #[.agg #[(),(),(),(),()],false]) (some 167) (λw'=>af W W w') (bt W) (λ_ _=>by simp) (λw' hC=>(a1.out w' (ag hC J.size J)).mono λ_ _ h=>⟨h.1,.of_below h.2,ag h.2 hC.size hC⟩) (λhne=>?_);refine ap ?_;refine aE hne (bk 9 3) 2 (KD.closed (bt W) _) aB ?_;exact LX
    exact am.nil
   exact am.nil
  rintro rM W3 ⟨bi,b0,b4,kM⟩;have aM:=ag b0 J.size J;clear s0 s1 s2 s3 s4 s5 bi kM;go_wp2;go_ret;exact HF.out W3 aM
 .have bb:=ni (U _ rfl);simp only at bb;simp only[mb,cI] at HD;simp only[kL] at HF ⊢;have H1:=h_ (ou lo o_);have H2:=h_ (ou hi o_);have z1:=dX lo o_;have z2:=dX hi o_;have e1:(⟨#[46,46]⟩:ak).size=2:=rfl;have g:=pe (aC lo) ⟨#[46,46]⟩ (aC hi) o_ o_ o_;have a5:=λw=>Vr (P:=prog) w (aC lo) ⟨#[46,46]⟩ o_;have a8:=λw=>Vr (P:=prog) w (aC lo++⟨#[46,46]⟩) (aC hi) o_;clear g e1 z1 z2;generalize aC lo=V at *;generalize aC hi=SN at *;have a1:=h_ HD;clear HD U bb;go_enter func82,ntmps82;go_upto_region 1 with fail
  generalize w.alloc _=W at *;have⟨s0,s1,s2,s3,s4,s5,sl⟩:=ab.p6;go_upto_region 23 with fail
  apply fZ (λG Wz=>ai [] W Wz/\(λw'=>af W W w') Wz/\W.heap.size<=G/\ah G #[c1,c2,lo,hi,t] 70 Wz)
  .intro bp;refine bw [] (λ_=>false) (λ_=>True) (KD (λw'=>af W W w') []) k_ ⟨(bt W) _ _ (Vn _ _) ((Vn _ _).drew),bU.nil _⟩ ?_;refine aE ⟨W,ai.refl _ _,Vn _ _,bU.nil _⟩ (cj 8 0) 7 (KD.closed (bt W) _) aB ?_;refine aR [8,12] ?_;refine am.cons ?_ ?_
   .refine ep (v:=.tuple #[.agg #[c1,c2,lo,hi,t],true]) (some 167) (λw'=>af W W w') (bt W) (λ_ _=>by simp) (λw' hC=>(a1.out w' (ag hC J.size J)).mono λ_ _ h=>⟨h.1,.of_below h.2,ag h.2 hC.size hC⟩) (λhne=>?_);refine ap ?_;refine aE hne (bk 9 3) 3 (KD.closed (bt W) _) aB ?_;refine aR [12] ?_;refine am.cons ?_ ?_
    .refine dB (zs:=#[(),(),(),(),()]) (T:=70) (bt W) (λG H I hne=>?_);refine ap ?_;exact KY
    exact am.nil
   refine am.cons ?_ ?_
   .refine dB (zs:=#[(),(),(),(),()]) (T:=70) (bt W) (λG H I hne=>?_);refine ap ?_;refine aR [8] ?_;refine am.cons ?_ ?_
    .refine ep (v:=.tuple #[.agg #[c1,c2,lo,hi,t],true]) (some 167) (λw'=>af W W w') (bt W) (λ_ _=>by simp) (λw' hC=>(a1.out w' (ag hC J.size J)).mono λ_ _ h=>⟨h.1,.of_below h.2,ag h.2 hC.size hC⟩) (λhne=>?_);refine ap ?_;refine aE hne (bk 9 3) 2 (KD.closed (bt W) _) aB ?_;exact KY
    exact am.nil
   exact am.nil
  try dsimp only
  rintro rM W3 ⟨bi,b0,b4,kM⟩;have aM:=ag b0 J.size J;clear s0 s1 s2 s3 s4 s5 bi;have⟨a9,ba,cz,cF,cX,bX⟩:=kM.p5;go_upto_region 26 with fail
  (refine bR k_ k_ ?_;(repeat (go_big_quiet_step ((go_at_call 93;first|with_reducible exact Calls.quiet_cls ao _ (H1.out _)|with_reducible exact Calls.quiet_cls ao _ (H2.out _)))));refine wpQuiet_nil ?_;intro w4 K)
  go_wp2;go_ret;exact HF.out w4 (ag K aM.size aM)
def GG(h:P:=by
 obtain⟨p,c,rfl,hf⟩:=hv.form;obtain⟨g5,rfl,h1,h2,_⟩:=hf 0 s_;exact⟨_,_,_,rfl,g5,rfl,s_,h2,by simpa using h1⟩):=h
def OM(r)(A B X Y E m)(L)(vl v0 v1 v2 G)(bs)(a b:Int)(T:ak)(aa:CS.ok ⟨A,B,X,Y,E,L⟩)(w)(hk:cJ r A B X Y E vl v0 v1 v2 w)(Z:an w (r+1) vl L)(hv:ar w bs G [m]):
 Kp 82 #[.pointer r,iu,.agg #[G,a,b,T]] w (aI r v0 v1 v2 w (ci ⟨A,B,X,Y,E,L⟩ (aC (gC A B m)) (fg A B m))):=by
 have⟨k,f,hq,ae,hR⟩:=yn (A:=A) (B:=B) (p:=m) ⟨A,B,X,Y,E,L⟩;have h1:=λW=>M4 A B m aa.1 W;rw[hq] at h1;rw[hR];have HO:=h_ h1;have HT:=h_ (xM k f o_);have HF:=h_ (λw1 (hb:af w w w1)=>@aI.told r v0 v1 v2 vl ⟨A,B,X,Y,E,L⟩ (aC k) f w w1 hk Z hb);generalize ci _ _ _=R,cR (aC k) f=V at *;obtain⟨p,n,c,rfl,g5,rfl,hn,bx,x0⟩:∃(p:ck) (n c:Nat),G=.slice p n c/\∃g5,p=some ⟨g5,0,none⟩/\0<n/\g5<w.heap.size/\w.cell? ⟨g5,0,none⟩=some (.int .i64 m):=by
  exact GG
 have⟨kW,J⟩:=ay w #[.slice g5 n c,a,b,T] 98;have ab:=hk.below J;have x1:=(J.cell (p:=g5) bx).trans x0;have F:=Vp bx J.size;simp only[iu];go_enter func82,ntmps82;go_upto_region 1 with fail
 generalize w.alloc _=W at *;have⟨s0,s1,_,_,_,_,sl⟩:=ab.p6;have y0:=kW.q1;have yl:=kW.lt;go_upto_region 7 with fail
 (refine bR k_ k_ ?_;(repeat (go_big_quiet_step ((first|(go_at_call 124;exact Calls.quiet_cls ao _ (HO.out _))|(go_at_call 122;exact Calls.quiet_cls ao _ (HT.out _))))));refine wpQuiet_nil ?_;intro w1 I;have⟨aZ,a6⟩:=bu I;(try simp at ac))
 exact pW
def Pb(r)(A B X Y E m)(L)(vl v0 v1 v2 G)(bs)(a b:Int)(T:ak)(aa:CS.ok ⟨A,B,X,Y,E,L⟩)(w)(hk:cJ r A B X Y E vl v0 v1 v2 w)(Z:an w (r+1) vl L)(hv:ar w bs G [m]):
 Kp 82 #[.pointer r,iw,.agg #[G,a,b,T]] w (aI r v0 v1 v2 w (ci ⟨A,B,X,Y,E,L⟩ (aC (jK A B m)) (fg A B m))):=by
 have⟨k,f,hq,ae,hR⟩:=yp (A:=A) (B:=B) (p:=m) ⟨A,B,X,Y,E,L⟩;have h1:=λW=>OG A B m aa.1 W;rw[hq] at h1;rw[hR];have HO:=h_ h1;have HT:=h_ (xM k f o_);have HF:=h_ (λw1 (hb:af w w w1)=>@aI.told r v0 v1 v2 vl ⟨A,B,X,Y,E,L⟩ (aC k) f w w1 hk Z hb);generalize ci _ _ _=R,cR (aC k) f=V at *;obtain⟨p,n,c,rfl,g5,rfl,hn,bx,x0⟩:∃(p:ck) (n c:Nat),G=.slice p n c/\∃g5,p=some ⟨g5,0,none⟩/\0<n/\g5<w.heap.size/\w.cell? ⟨g5,0,none⟩=some (.int .i64 m):=by
  exact GG
 have⟨kW,J⟩:=ay w #[.slice g5 n c,a,b,T] 98;have ab:=hk.below J;have x1:=(J.cell (p:=g5) bx).trans x0;have F:=Vp bx J.size;simp only[iw];go_enter func82,ntmps82;go_upto_region 1 with fail
 generalize w.alloc _=W at *;have⟨s0,s1,_,_,_,_,sl⟩:=ab.p6;have y0:=kW.q1;have yl:=kW.lt;go_upto_region 9 with fail
 (refine bR k_ k_ ?_;(repeat (go_big_quiet_step ((first|(go_at_call 125;exact Calls.quiet_cls ao _ (HO.out _))|(go_at_call 122;exact Calls.quiet_cls ao _ (HT.out _))))));refine wpQuiet_nil ?_;intro w1 I;have⟨aZ,a6⟩:=bu I;(try simp at ac))
 exact pW
def LD(h:P:=by
 refine aR [17] ?_;refine am.cons ?_ ?_
 .refine fB (v:=.agg #[na,da,nb,db]) [] [] (.inl H) ao (λ_ _ h _=>h) s_ (λhne=>?_)
  try simp only[Value.cells]
  refine aE hne (bk 18 1) 0 (KD.closed ao _) aB ?_;refine jp k_ (λWz a7 aX=>?_) _;exact bp dy Wz ⟨a7,aX.1,o_,aX.2.head⟩
 exact am.nil):=h
def PJ(r:Nat)(A B X Y E m m2:Int)(L:bM)(vl v0 v1 v2 G:Value)(bs:Nat)(a b:Int)(T:ak)(w)(ht:TabI w)(hk:cJ r A B X Y E vl v0 v1 v2 w)(Z:an w (r+1) vl L)(hv:ar w bs G [m,m2]):
 Kp 82 #[.pointer r,io,.agg #[G,a,b,T]] w (aI r v0 v1 v2 w (ci ⟨A,B,X,Y,E,L⟩ (kl m m2) (lj m m2))):=by
 have HO:=h_ (λW (hb:af w w W)=>(EL m m2).1 W (ht.below hb));have HT:=h_ (uf (kl m m2) (lj m m2));have HF:=h_ (λw1 (hb:af w w w1)=>@aI.told r v0 v1 v2 vl ⟨A,B,X,Y,E,L⟩ (kl m m2) (lj m m2) w w1 hk Z hb);generalize ci _ _ _=R,cR _ _=V,kl m m2=S,lj m m2=f at *;obtain⟨p,c,rfl,hf⟩:=hv.form;obtain⟨g5,rfl,x0,bx,_⟩:=hf 0 s_;have x0:=by simpa using x0
 simp;have⟨kW,J⟩:=ay w #[.slice g5 2 c,a,b,T] 98;have ab:=hk.below J;have x1:=(J.cell (p:=g5) bx).trans x0;have F:=Vp bx J.size;have⟨g6,e6,z0,_,_⟩:=hf 1 s_;injection e6 with e6;injection e6 with e6;subst e6;have z0:=by simpa using z0
 have z1:=(J.cell (p:=⟨g5,1,none⟩) bx).trans z0;simp only[io];go_enter func82,ntmps82;go_upto_region 1 with fail
 generalize w.alloc _=W at *;have⟨_,_,_,_,_,_⟩:=ab.q6;have y0:=kW.q1;have yl:=kW.lt;go_upto_region 21 with fail
 (refine bR k_ k_ ?_;(repeat (go_big_quiet_step ((first|(go_at_call 132;exact Calls.quiet_cls ao _ (HO.out _ (ag (aU.over _).below J.size J)))|(go_at_call 128;exact Calls.quiet_clsS _ (HT.out _))))));refine wpQuiet_nil ?_;intro w1 I)
 exact pW
def P7(r:Nat)(A B X Y E m:Int)(L:bM)(vl v0 v1 v2 G:Value)(bs:Nat)(a b:Int)(T:ak)(aa:CS.ok ⟨A,B,X,Y,E,L⟩)(w:World)(hk:cJ r A B X Y E vl v0 v1 v2 w)(Z:an w (r+1) vl L)(hv:ar w bs G [m]):
 Kp 82 #[.pointer (some ⟨r,0,none⟩),iA,.agg #[G,a,b,T]] w (aI r v0 v1 v2 w (ci ⟨A,B,X,Y,E,L⟩ (wh A B m) (fA m))):=by
 obtain⟨K,S2,f,hS,hT,bb,ad,hR⟩:=yr (p:=m) aa.1 ⟨A,B,X,Y,E,L⟩;have h1:=λW=>MA A B m aa.1 W;have h2:=λW=>MK A B m aa.1 W;rw[hS] at h1;rw[hT] at h2;rw[hR];have H1:=h_ h1;have H2:=h_ h2;have H3:=h_ (uf (K++⟨#[44]⟩++S2) f);have HF:=h_ (λw1 (hb:af w w w1)=>@aI.told r v0 v1 v2 vl ⟨A,B,X,Y,E,L⟩ (K++⟨#[44]⟩++S2) f w w1 hk Z hb);have e1:(⟨#[44]⟩:ak).size=1:=rfl;have g:=pe K ⟨#[44]⟩ S2 o_ o_ o_;have a5:=λw=>Vr (P:=prog) w K ⟨#[44]⟩ o_;have a8:=λw=>Vr (P:=prog) w (K++⟨#[44]⟩) S2 o_;clear g e1 hR hS hT bb ad h1 h2;generalize ci _ _ _=R at *;generalize cR (K++⟨#[44]⟩++S2) f=V at *;obtain⟨p,c,rfl,hf⟩:=hv.form;obtain⟨g5,rfl,x0,bx,_⟩:=hf 0 s_;have x0:=by simpa using x0
 simp;have⟨kW,J⟩:=ay w #[.slice g5 1 c,a,b,T] 98;have ab:=hk.below J;have x1:=(J.cell (p:=g5) bx).trans x0;have F:=Vp bx J.size;simp only[iA];cases f
 all_goals
  go_enter func82,ntmps82;go_upto_region 1 with fail
  generalize w.alloc _=W at *;have⟨s0,s1,s2,s3,s4,s5,sl⟩:=ab.p6;have y0:=kW.q1;have yl:=kW.lt;go_upto_region 11 with fail
  (refine bR k_ k_ ?_;(repeat (go_big_quiet_step ((go_at_call 126;exact Calls.quiet_cls ao _ (H1.out _)))));refine wpQuiet_nil ?_;intro w1 I;obtain⟨aZ,a6⟩:=bu I)
  have H:=ag I J.size J;replace kW:=kW.next I
  replace ab:=ab.below I;have ac:=Vp F I.size;have⟨s0,s1,_,_,_,_,sl⟩:=ab.p6;have y0:=kW.q1;have yl:=kW.lt;go_upto_region 12 with fail
  (refine bR k_ k_ ?_;(repeat (go_big_quiet_step ((go_at_call 127;exact Calls.quiet_cls ao _ (H2.out _)))));refine wpQuiet_nil ?_;intro w2 U)
  have ax:=ag U H.size H;exact Jf
def Oa(r:Nat)(A B X Y E m:Int)(L:bM)(vl v0 v1 v2 G:Value)(bs:Nat)(a b:Int)(T:ak)(aa:CS.ok ⟨A,B,X,Y,E,L⟩)(w:World)(hk:cJ r A B X Y E vl v0 v1 v2 w)(Z:an w (r+1) vl L)(hv:ar w bs G [m]):
 Kp 82 #[.pointer (some ⟨r,0,none⟩),ir,.agg #[G,a,b,T]] w (aI r v0 v1 v2 w (ci ⟨A,B,X,Y,E,L⟩ (wN (iI A B X E m)) (iI A B X E m).isSome)):=by
 obtain⟨na,da,nb,db,f,hV,b1,I,hR⟩:=x_ (n:=m) aa.1 aa.2.1 ⟨A,B,X,Y,E,L⟩;have h1:=λW=>Ou A B X Y E m aa.1 aa.2.1 W;rw[hV] at h1;rw[hR];have H1:=h_ h1;have H2:=h_ (RM na da nb db b1 I);have H3:=h_ (uf (ii na da nb db) f);have HF:=h_ (λw1 (hb:af w w w1)=>@aI.told r v0 v1 v2 vl ⟨A,B,X,Y,E,L⟩ (ii na da nb db) f w w1 hk Z hb);clear hR hV b1 I h1;generalize ci _ _ _=R at *;generalize cR (ii na da nb db) f=V at *;generalize ii na da nb db=TT at *;obtain⟨p,c,rfl,hf⟩:=hv.form;obtain⟨g5,rfl,x0,bx,_⟩:=hf 0 s_;have x0:w.cell? ⟨g5,0,none⟩=some (.int .i64 m):=by simpa using x0
 simp;obtain⟨kW,J⟩:=ay w #[.slice (some ⟨g5,0,none⟩) 1 c,a,b,T] 98;have ab:=hk.below J;have x1:=(J.cell (p:=⟨g5,0,none⟩) bx).trans x0;have F:=Vp bx J.size;clear x0 hf hv;simp only[ir];go_enter func82,ntmps82;go_upto_region 1 with fail
 generalize w.alloc _=W at *;have⟨s0,s1,s2,s3,s4,s5,sl⟩:=ab.p6;have y0:W.cell? ⟨w.heap.size,0,none⟩=some _:=kW.cell 0;have yl:=kW.lt;go_upto_region 18 with fail
 apply fZ (λdy Wz=>ai [] W Wz/\(λ_=>True) Wz/\W.heap.size<=dy/\ah dy #[na,da,nb,db] 145 Wz)
 .intro bp;refine bw [] (λ_=>false) (λ_=>True) (KD (λ_=>True) []) k_ ⟨trivial,bU.nil _⟩ ?_;refine aE ⟨W,ai.refl _ _,trivial,bU.nil _⟩ (cj 12 0) 7 (KD.closed ao _) aB ?_;refine aR [12,16] ?_;refine am.cons ?_ ?_
  .refine ep (v:=.tuple #[.agg #[na,da,nb,db],f]) (some 135) (λ_=>True) ao (λ_ _=>by simp) (λw' hC=>(H1.out w').mono λ_ _ h=>⟨h.1,.of_below h.2,trivial⟩) (λhne=>?_);refine ap ?_;refine aE hne (bk 13 3) 3 (KD.closed ao _) aB ?_;refine aR [16] ?_;refine am.cons ?_ ?_
   .refine dB (zs:=#[(),(),(),()]) (T:=145) ao (λdy H U hne=>?_);refine ap ?_;exact LD
   exact am.nil
  refine am.cons ?_ ?_
  .refine dB (zs:=#[(),(),(),()]) (T:=145) ao (λdy H U hne=>?_);refine ap ?_;refine aR [12] ?_;refine am.cons ?_ ?_
   .refine ep (v:=.tuple #[.agg #[na,da,nb,db],f]) (some 135) (λ_=>True) ao (λ_ _=>by simp) (λw' hC=>(H1.out w').mono λ_ _ h=>⟨h.1,.of_below h.2,trivial⟩) (λhne=>?_);refine ap ?_;refine aE hne (bk 13 3) 2 (KD.closed ao _) aB ?_;exact LD
   exact am.nil
  exact am.nil
 rintro rM W3 ⟨bi,_,b4,kM⟩;have aM:=ag bi.below J.size J;have⟨a9,ba,cz,cF,bX⟩:=kM.p4;clear s0 s1 s2 s3 s4 s5 bi;go_wp2_with fail
 refine aj (H2.out W3) λw4 K=>?_;exact Hf
def vw(h:P:=by
 intro bp;refine bw [] (λ_=>false) (λ_=>True) (λ_=>True) k_ trivial ?_;apply lw ⟨w1,ai.refl _ _,trivial⟩ (cj 6 0) 7 ao aB k_ k_ k_ k_ s_
 .exact Hu
 refine aR [6,10] (am.cons ?_ (am.cons ?_ am.nil))
 .refine bN (some 20) (λv=>fe w1 true Q (λ_=>True) 0 v) (λv=>bY _ ao 0 v) (λw' hO _=>(aG.out w' hO.below).mono λe w2 h=>eo.ln ao trivial (Vp b3 hO.size) hO.below h) (λv hne=>?_);obtain⟨w8,b1,p,n,c,a,b,T,rfl,_⟩:=id hne;refine ap ?_;refine aE hne (bk 7 3) 3 (bY _ ao 0 _) aB ?_;refine aD 10 ?_;refine bP (some 6) (λv w'=>∃r9,v=.pointer (some ⟨r9,0,none⟩)/\w1.heap.size<=r9/\ah r9 #[.slice none 0 0,(),(),.string ⟨#[]⟩] 98 w'/\cS w1 true Q p n c a b T w'/\(Value.slice p n c).ownBlock≠some r9) r_ r_ r_ (λ_ _ _ ⟨r9,h1,h2,h3,h4,h5⟩ hb=>⟨r9,h1,h2,h3.next hb,a5 _ _ _ _ _ _ _ _ h4 hb,h5⟩) (λw' hO hd=>⟨.pointer (some ⟨w'.heap.size,0,none⟩),w'.alloc (.cells #[.slice none 0 0,(),(),.string ⟨#[]⟩] 98),by go_simp,hO.alloc _,w'.heap.size,rfl,hO.size,ah.new w' _ _,a5 _ _ _ _ _ _ _ _ hd.get.1 ((Vn _ _).alloc (Vj _) _),λh=>by have:=hd.get.1.2.2 _ h;omega⟩) (λv hne=>?_);obtain⟨w9,ax,r9,rfl,bb,_⟩:=id hne;refine ap ?_;refine aD 11 ?_;refine fC (v:=.agg #[.slice p n c,a,b,T]) r9 #[.slice none 0 0,(),(),.string ⟨#[]⟩] (λw'=>ah r9 #[.slice p n c,a,b,T] 98 w'/\cS w1 true Q p n c a b T w') (.inl bb) (λw' ⟨r',e,_,h,_⟩=>by injection e with e;injection e with e;injection e with e;subst e;exact h) (aK.and (a5 _ _ _ _ _ _)) (λw' b9 ⟨r',e,h2,h3,h4,h5⟩ Z hk=>⟨hk,h4.over hQ Z bb H6⟩) (λhne=>?_);exact AQ
 .refine bP (some 6) (λv w'=>∃r9,v=.pointer (some ⟨r9,0,none⟩)/\w1.heap.size<=r9/\ah r9 #[.slice none 0 0,(),(),.string ⟨#[]⟩] 98 w') r_ r_ r_ (λ_ _ _ ⟨r9,h1,h2,h3⟩ hb=>⟨r9,h1,h2,h3.next hb⟩) (λw' hO hd=>⟨.pointer (some ⟨w'.heap.size,0,none⟩),w'.alloc (.cells #[.slice none 0 0,(),(),.string ⟨#[]⟩] 98),by go_simp,hO.alloc _,w'.heap.size,rfl,hO.size,ah.new w' _ _⟩) (λv hne=>?_);obtain⟨w9,ax,r9,rfl,bb,_⟩:=id hne;refine ap ?_;refine aD 6 ?_;refine bN (some 20) (λv=>fe w1 true Q (ah r9 #[.slice none 0 0,(),(),.string ⟨#[]⟩] 98) r9 v) (λv=>bY _ aK r9 v) (λw' hO ⟨r',e1,_,h3⟩=>(aG.out w' hO.below).mono λe w2 h=>eo.ln aK J6 Io hO.below h) (λv hne=>?_);obtain⟨w8,b1,p,n,c,a,b,T,rfl,_⟩:=id hne;refine ap ?_;refine aE hne (bk 7 3) 2 (bY _ aK r9 _) aB ?_;refine aD 11 ?_;refine fC (v:=.agg #[.slice p n c,a,b,T]) r9 #[.slice none 0 0,(),(),.string ⟨#[]⟩] (λw'=>ah r9 #[.slice p n c,a,b,T] 98 w'/\cS w1 true Q p n c a b T w') (.inl bb) (λw' h=>h.get.2.1) (aK.and (a5 _ _ _ _ _ _)) (λw' b9 h Z hk=>⟨hk,h.get.1.over hQ Z bb h.get.2.2⟩) (λhne=>?_);exact AQ):=h
def mL(h:P:=by
 exact vw):=h
def aI.closed(r)(v0 v1 v2)(w)(o:fo)(e):aQ (aI r v0 v1 v2 w o e):=λ_ _ ⟨h1,h2,vl,h3,h4⟩ hb=>⟨h1,h2.next hb,vl,h3.below hb,h4.below hb⟩
def aI.ahead{r}{v0 v1 v2}{w w1 w2}{o:fo}{e}(hb:af w.heap.size w w1)(h:aI r v0 v1 v2 w1 o e w2):∃v,e=.returned v/\ai [r] w1 w2/\aI r v0 v1 v2 w o (.returned v) w2:=
 ⟨_,h.1,h.2.1,rfl,ku hb h.2.1,h.2.2⟩
def ly(r)(s:CS)(v0 v1 v2)(t)(hs:t.size<=3000)(u)(tl)(K:bB t 32=u::tl)(Q:eK)(hQ:gm Q)
 (a3:kp true Q u tl)
 (n0:u≠iz)(n1:u≠it)(n2:u≠wPoint)(n3:u≠wAt)(n4:u≠iR)(n5:u≠iO)(n6:u≠iy)(n7:u≠iq)(n8:u≠iS)
 (w)(hk:fE r s v0 v1 v2 w)(R:fo)
 (G:∀p n c a b T W,af w w W->Q (.slice p n c) a b T W->Kp 82 #[.pointer r,.string u,.agg #[.slice p n c,.int .i64 a,.int .i64 b,.string T]] W (aI r v0 v1 v2 W R)):
 Kp 52 #[.pointer r,t] w (aI r v0 v1 v2 w R):=by
 have g0:=bg n0;have g1:=bg n1;have g2:=bg n2;have g3:=bg n3;have g4:=bg n4;have g5:=bg n5;have g6:=bg n6;have g7:=bg n7;have g8:=bg n8;have HK:=h_ G;have U:=h_ (gL t 32 w o_);rw[K] at U;have a4:=h_ (jt u);generalize hm:tl.length=m at *;go_enter func52,ntmps52;go_wp2_with fail
 refine U.out.mono ?_;rintro e w1 ⟨v,rfl,ab,I⟩;obtain⟨g,F,rfl,bo,H,a6⟩:=ab.txw s_;have q0:w1.cell? g=some (.string u):=H.2 0 s_;simp at bo ⊢;go_upto_region 2 with fail
 have bq:=H.1;have b3:0<w1.heap.size:=o_;have a5:=@cS.closed w1 true Q hQ;have bY:=λ(E:av) (hE:aQ E) r9=>@fe.closed w1 true Q hQ E hE r9;have aG:=h_ (λW (hb:af w1 w1 W)=>a3 g F W (H.below hb) o_);apply jn (λr9 p n c a b T Wz=>w1.heap.size<=r9/\ah r9 #[.slice p n c,.int .i64 a,.int .i64 b,.string T] 98 Wz/\cS w1 true Q p n c a b T Wz)
 .exact mL
 .rintro r9 p n c a b T Wz ⟨bb,k9,aZ,ac,az⟩;have aM:=ag aZ I.size I;have bz:r<w.heap.size:=by obtain⟨vl,h1,_⟩:=hk;exact h1.lt
  have HC:=h_ (λW (hb:af Wz Wz W)=>HK.out p n c a b T W (ag hb aM.size aM) (hQ.1 _ _ _ _ _ _ (ac rfl) hb));have HX:Hid (∀o e w2,aI r v0 v1 v2 Wz o e w2->aI r v0 v1 v2 w o e w2):=h_ (λo e w2 ⟨h1,h2,h3⟩=>⟨h1,ku aM h2,h3⟩);have cm:=Vp bq aZ.size;have b2:=(aZ.cell (p:=g) bq).trans q0;have cc:g≠r:=o_;have bZ:r9≠r:=by have:=I.size;omega
  have⟨c0,c1,c2,c3,b5⟩:=k9.p4;generalize (if F=1 then (some ⟨g,0,none⟩:ck) else some ⟨g,1,none⟩)=ad at *;go_upto_region 28 with fail
  refine bw [r] (λ_=>false) (λ_=>True) (λw'=>af Wz Wz w') k_ ((Vn _ _).drew) (aE ⟨Wz.drew,(ai.refl _ _).drew,(Vn _ _).drew⟩ (cj 5 0) 2 (bt Wz) aB ?_);refine aD 5 (bN (some 187) (λv=>λw'=>aI r v0 v1 v2 Wz R (.returned v) w') (λv=>aI.closed _ _ _ _ _ _ _) (λw' hO hD=>(HC.out w' hD).mono λe w2 h=>aI.ahead hD h) (λv hne=>?_));refine ap ?_;refine aE hne (bk 6 1) 0 (aI.closed _ _ _ _ _ _ _) aB ?_;refine dn λWz a7 aX=>?_;go_wp2;go_ret;exact (h_ (HX.out _ _ _ aX)).out
def dk(h:P:=by rw[hu];decide):=h
def Hp(h:P:=by
 refine dn λWq ca co=>?_;have HY:=h_ co;clear co hne ca;go_wp2;go_ret;exact HY.out):=h
def If(h:P:=by
 refine ap ?_;refine aE hne (bk 17 1) 0 (aI.closed _ _ _ _ _ _ _) aB ?_;exact Hp):=h
def vU(h:P:=by
 exact Hp):=h
def Mg(h:P:=by
 clear hc aa V;generalize de _ _=R at *;have U:=h_ (gL t 32 w o_);rw[K] at U;have a4:=h_ (jt u);generalize hm:tl.length=m at *;go_enter func52,ntmps52;go_wp2_with fail
 refine U.out.mono ?_;rintro e w1 ⟨v,rfl,ab,I⟩;obtain⟨g,F,rfl,bo,H,a6⟩:=ab.txw s_;have q0:w1.cell? ⟨g,0,none⟩=some (.string u):=H.2 0 s_;simp only[VA,hm] at bo ⊢;go_upto_region 2 with fail
 have bq:=H.1;have b3:0<w1.heap.size:=o_;have a5:=@cS.closed w1 true Q hQ;have bY:=λ(E:av) (hE:aQ E) r9=>@fe.closed w1 true Q hQ E hE r9;have aG:=h_ (λW (hb:af w1 w1 W)=>a3 g F W (H.below hb) o_);clear a3 H;apply jn (λr9 p n c a b T Wz=>w1.heap.size<=r9/\ah r9 #[.slice p n c,.int .i64 a,.int .i64 b,.string T] 98 Wz/\cS w1 true Q p n c a b T Wz)
 .exact vw
 .rintro r9 p n c a b T Wz ⟨bb,k9,aZ,ac,az⟩
  try dsimp only
  have aM:=ag aZ I.size I;have bz:=ae.lt;have J:=ae.below aM;have a8:=Vp bz aM.size;have cm:g<Wz.heap.size:=Vp bq aZ.size;have b2:=(aZ.cell (p:=⟨g,0,none⟩) bq).trans q0;have cc:g≠r:=o_;have bZ:r9≠r:=by have:=I.size;omega
  have⟨c0,c1,c2,c3,b5⟩:=k9.p4;generalize (if F=1 then (some ⟨g,0,none⟩:ck) else some ⟨g,1,none⟩)=ad at *;have hv:=aL _ _ _ _ _ (ac rfl);obtain⟨p',c',e5,hf⟩:=hv.form;injection e5 with e1 e2 e3;subst e1 e2 e3;obtain⟨gq,rfl,x0,bx,_⟩:=hf 0 s_;have bv:=hv.neS J;have x0:Wz.cell? ⟨gq,0,none⟩=some (.int .i64 num):=by simpa using x0
  simp only[VA,Wf,V9,Nat.reduceAdd] at c0;clear ac az q0 U a4 aG;go_upto_region 23 with fail
  refine bw [r] (λj=>j==16) (λw'=>af Wz Wz w') (λw'=>af Wz Wz w') k_ ((Vn _ _).drew) ?_;apply jT ⟨Wz,ai.refl _ _,Vn _ _⟩ (cj 16 0) 2 (bt Wz) (λ_ h=>h) k_ k_ k_ k_ s_
  .intro E hE bs b8;have s0:∀c:aU [r] Wz E,c.wd.cell? ⟨r,0,none⟩=some (.int .i64 A):=λc=>((bs _ c.more).cell (p:=⟨r,0,none⟩) a8).trans (J.cell 0);have s1:∀c:aU [r] Wz E,c.wd.cell? ⟨r,1,none⟩=some (.int .i64 B):=λc=>((bs _ c.more).cell (p:=⟨r,1,none⟩) a8).trans (J.cell 1);have s2:∀c:aU [r] Wz E,c.wd.cell? ⟨r,2,none⟩=some (.int .i64 X):=λc=>((bs _ c.more).cell (p:=⟨r,2,none⟩) a8).trans (J.cell 2);have s3:∀c:aU [r] Wz E,c.wd.cell? ⟨r,3,none⟩=some (.int .i64 Y):=λc=>((bs _ c.more).cell (p:=⟨r,3,none⟩) a8).trans (J.cell 3);have s4:∀c:aU [r] Wz E,c.wd.cell? ⟨r,4,none⟩=some (.int .i64 EE):=λc=>((bs _ c.more).cell (p:=⟨r,4,none⟩) a8).trans (J.cell 4);have s5:∀c:aU [r] Wz E,c.wd.cell? ⟨r,5,none⟩=some vl:=λc=>((bs _ c.more).cell (p:=⟨r,5,none⟩) a8).trans (J.cell 5)
   (repeat (first|(refine gN ?_;go_big_quiet_step ((go_at_call 78;exact Calls.quiet_cls hE _ (H1.out _)));refine wpQuiet_nil ?_)|refine gM ?_));exact gO rfl
  refine aD 16 ?_;refine jc (some 142) (λ_=>True) (λv w'=>aI r v0 v1 v2 w R (.returned v) w') (λv=>aI.closed _ _ _ _ _ _ _) (λ_ _ _=>trivial) (λh=>by simp at h) (λw' hO hd=>(HM.out w' (ag hd aM.size aM)).mono λe w2 h=>aI.fin h (HF.out w' e w2 (ag hd aM.size aM) h)) (λv hne=>?_);exact If):=h
def Ma(h:P:=by
 clear hc aa V;generalize de _ _=R at *;have U:=h_ (gL t 32 w o_);rw[K] at U;have a4:=h_ (jt u);generalize hm:tl.length=m at *;go_enter func52,ntmps52;go_wp2_with fail
 refine U.out.mono ?_;rintro e w1 ⟨v,rfl,ab,I⟩;obtain⟨g,F,rfl,bo,H,a6⟩:=ab.txw s_;have q0:w1.cell? ⟨g,0,none⟩=some (.string u):=H.2 0 s_;simp only[VA,hm] at bo ⊢;go_upto_region 2 with fail
 have bq:=H.1;have b3:0<w1.heap.size:=o_;have a5:=@cS.closed w1 true Q hQ;have bY:=λ(E:av) (hE:aQ E) r9=>@fe.closed w1 true Q hQ E hE r9;have aG:=h_ (λW (hb:af w1 w1 W)=>a3 g F W (H.below hb) o_);clear a3 H;apply jn (λr9 p n c a b T Wz=>w1.heap.size<=r9/\ah r9 #[.slice p n c,.int .i64 a,.int .i64 b,.string T] 98 Wz/\cS w1 true Q p n c a b T Wz)
 .exact vw
 .rintro r9 p n c a b T Wz ⟨bb,k9,aZ,ac,az⟩
  try dsimp only
  have aM:=ag aZ I.size I;have bz:=ae.lt;have J:=ae.below aM;have a8:=Vp bz aM.size;have cm:g<Wz.heap.size:=Vp bq aZ.size;have b2:=(aZ.cell (p:=⟨g,0,none⟩) bq).trans q0;have cc:g≠r:=o_;have bZ:r9≠r:=by have:=I.size;omega
  have⟨c0,c1,c2,c3,b5⟩:=k9.p4;generalize (if F=1 then (some ⟨g,0,none⟩:ck) else some ⟨g,1,none⟩)=ad at *
  skip
  clear ac az q0 U a4 aG;go_upto_region 21 with fail
  refine bw [r] (λj=>j==16) (λw'=>af Wz Wz w') (λw'=>af Wz Wz w') k_ ((Vn _ _).drew) ?_;apply jT ⟨Wz,ai.refl _ _,Vn _ _⟩ (cj 16 0) 2 (bt Wz) (λ_ h=>h) k_ k_ k_ k_ s_
  .intro E hE bs b8;have s0:∀c:aU [r] Wz E,c.wd.cell? ⟨r,0,none⟩=some (.int .i64 A):=λc=>((bs _ c.more).cell (p:=⟨r,0,none⟩) a8).trans (J.cell 0);have s1:∀c:aU [r] Wz E,c.wd.cell? ⟨r,1,none⟩=some (.int .i64 B):=λc=>((bs _ c.more).cell (p:=⟨r,1,none⟩) a8).trans (J.cell 1);have s2:∀c:aU [r] Wz E,c.wd.cell? ⟨r,2,none⟩=some (.int .i64 X):=λc=>((bs _ c.more).cell (p:=⟨r,2,none⟩) a8).trans (J.cell 2);have s3:∀c:aU [r] Wz E,c.wd.cell? ⟨r,3,none⟩=some (.int .i64 Y):=λc=>((bs _ c.more).cell (p:=⟨r,3,none⟩) a8).trans (J.cell 3);have s4:∀c:aU [r] Wz E,c.wd.cell? ⟨r,4,none⟩=some (.int .i64 EE):=λc=>((bs _ c.more).cell (p:=⟨r,4,none⟩) a8).trans (J.cell 4);have s5:∀c:aU [r] Wz E,c.wd.cell? ⟨r,5,none⟩=some vl:=λc=>((bs _ c.more).cell (p:=⟨r,5,none⟩) a8).trans (J.cell 5)
   (repeat (first|(refine gN ?_;go_big_quiet_step ((go_at_call 77;exact Calls.quiet_cls hE _ (H1.out _)));refine wpQuiet_nil ?_)|refine gM ?_));exact gO rfl
  refine aD 16 ?_;refine jc (some 123) (λ_=>True) (λv w'=>aI r v0 v1 v2 w R (.returned v) w') (λv=>aI.closed _ _ _ _ _ _ _) (λ_ _ _=>trivial) (λh=>by simp at h) (λw' hO hd=>(HM.out w' (ag hd aM.size aM)).mono λe w2 h=>aI.fin h (HF.out w' e w2 (ag hd aM.size aM) h)) (λv hne=>?_);exact If):=h
def Md(h:P:=by
 clear hc aa V;generalize de _ _=R at *;have U:=h_ (gL t 32 w o_);rw[K] at U;have a4:=h_ (jt u);generalize hm:tl.length=m at *;go_enter func52,ntmps52;go_wp2_with fail
 refine U.out.mono ?_;rintro e w1 ⟨v,rfl,ab,I⟩;obtain⟨g,F,rfl,bo,H,a6⟩:=ab.txw s_;have q0:w1.cell? ⟨g,0,none⟩=some (.string u):=H.2 0 s_;simp only[VA,hm] at bo ⊢;go_upto_region 2 with fail
 have bq:=H.1;have b3:0<w1.heap.size:=o_;have a5:=@cS.closed w1 true Q hQ;have bY:=λ(E:av) (hE:aQ E) r9=>@fe.closed w1 true Q hQ E hE r9;have aG:=h_ (λW (hb:af w1 w1 W)=>a3 g F W (H.below hb) o_);clear a3 H;apply jn (λr9 p n c a b T Wz=>w1.heap.size<=r9/\ah r9 #[.slice p n c,.int .i64 a,.int .i64 b,.string T] 98 Wz/\cS w1 true Q p n c a b T Wz)
 .exact vw
 .rintro r9 p n c a b T Wz ⟨bb,k9,aZ,ac,az⟩
  try dsimp only
  have aM:=ag aZ I.size I;have bz:=ae.lt;have J:=ae.below aM;have a8:=Vp bz aM.size;have cm:g<Wz.heap.size:=Vp bq aZ.size;have b2:=(aZ.cell (p:=⟨g,0,none⟩) bq).trans q0;have cc:g≠r:=o_;have bZ:r9≠r:=by have:=I.size;omega
  have⟨c0,c1,c2,c3,b5⟩:=k9.p4;generalize (if F=1 then (some ⟨g,0,none⟩:ck) else some ⟨g,1,none⟩)=ad at *;have hT:=aL _ _ _ _ _ (ac rfl);subst hT;clear ac az q0 U a4 aG;go_upto_region 12 with fail
  refine bw [r] (λj=>j==10) (λw'=>af Wz Wz w') (λw'=>af Wz Wz w') k_ ((Vn _ _).drew) ?_;apply jT ⟨Wz,ai.refl _ _,Vn _ _⟩ (cj 10 0) 2 (bt Wz) (λ_ h=>h) k_ k_ k_ k_ s_
  .intro E hE bs b8;have s0:∀c:aU [r] Wz E,c.wd.cell? ⟨r,0,none⟩=some (.int .i64 A):=λc=>((bs _ c.more).cell (p:=⟨r,0,none⟩) a8).trans (J.cell 0);have s1:∀c:aU [r] Wz E,c.wd.cell? ⟨r,1,none⟩=some (.int .i64 B):=λc=>((bs _ c.more).cell (p:=⟨r,1,none⟩) a8).trans (J.cell 1);have s2:∀c:aU [r] Wz E,c.wd.cell? ⟨r,2,none⟩=some (.int .i64 X):=λc=>((bs _ c.more).cell (p:=⟨r,2,none⟩) a8).trans (J.cell 2);have s3:∀c:aU [r] Wz E,c.wd.cell? ⟨r,3,none⟩=some (.int .i64 Y):=λc=>((bs _ c.more).cell (p:=⟨r,3,none⟩) a8).trans (J.cell 3);have s4:∀c:aU [r] Wz E,c.wd.cell? ⟨r,4,none⟩=some (.int .i64 EE):=λc=>((bs _ c.more).cell (p:=⟨r,4,none⟩) a8).trans (J.cell 4);have s5:∀c:aU [r] Wz E,c.wd.cell? ⟨r,5,none⟩=some vl:=λc=>((bs _ c.more).cell (p:=⟨r,5,none⟩) a8).trans (J.cell 5)
   (repeat (first|(refine gN ?_;go_big_quiet_step ((go_at_call 74;exact Calls.quiet_cls hE _ (H1.out _)));refine wpQuiet_nil ?_)|refine gM ?_));exact gO rfl
  refine aD 10 ?_;refine jc (some 71) (λ_=>True) (λv w'=>aI r v0 v1 v2 w R (.returned v) w') (λv=>aI.closed _ _ _ _ _ _ _) (λ_ _ _=>trivial) (λh=>by simp at h) (λw' hO hd=>(HM.out w' (ag hd aM.size aM)).mono λe w2 h=>aI.fin h (HF.out w' e w2 (ag hd aM.size aM) h)) (λv hne=>?_);refine ap ?_;refine aE hne (bk 11 1) 0 (aI.closed _ _ _ _ _ _ _) aB ?_;exact vU):=h
def AM(h:P:=by
 refine ap ?_;refine aE hne (bk 13 1) 0 (aI.closed _ _ _ _ _ _ _) aB ?_;exact vU):=h
def mx{t u:ak}{l:List UInt8}(h:t=u)(hu:u.data.toList=l):(t.toList==l)=true:=by
 rw[h,Vw,WO];exact hu
def aI.fin{r:Nat}{v0 v1 v2:Value}{w w1 w2:World}{R:fo}{e:Ending}{T:ak}{P:av}(h:fQ r T P w1 e w2)(hc:aI r v0 v1 v2 w R e w2):∃v,e=.returned v/\ai [r] w1 w2/\aI r v0 v1 v2 w R (.returned v) w2:=by
 obtain⟨rfl,h2,_⟩:=h;exact⟨_,rfl,h2,hc⟩
def ar.neS{w:World}{G g n F r:Nat}{xs:List Int}{cs:Array Value}(h:ar w G (.slice (some ⟨g,0,none⟩) n F) xs)(hb:ah r cs 61 w):g≠r:=by
 rintro rfl;rcases h.2 with ⟨h0,_⟩|⟨g',aX,cur,hv,hg,hh,_⟩
 .cases h0
 .injection hv with e1 _ _;injection e1 with e1;injection e1 with e1;subst e1;unfold ah at hb;rw[hb] at hh;simp at hh
def Oq(r:Nat)(A B X Y EE:Int)(L:bM)(v0 v1 v2:Value)(t:ak)(hs:t.size<=3000)(u:ak)(tl:bW)(K:bB t 32=u::tl)(Q:eK)(hQ:gm Q)
 (a3:kp true Q u tl)
 (hu:u=iy)(num:Int)(aL:∀v a b T W,Q v a b T W->ar W 0 v [num])(aa:CS.ok ⟨A,B,X,Y,EE,L⟩)(w:World)(hk:fE r ⟨A,B,X,Y,EE,L⟩ v0 v1 v2 w):
 Kp 52 #[.pointer (some ⟨r,0,none⟩),t] w (aI r v0 v1 v2 w (de ⟨A,B,X,Y,EE,L⟩ (if aw num (-12) 12 then gK A B (X,Y,EE) num else none))):=by
 obtain⟨vl,ae,V⟩:=hk;have g0:(u.toList==[99,117,114,118,101])=false:=bg dk;have g1:(u.toList==[115,99,97,108,101])=false:=bg dk;have g2:(u.toList==[112,111,105,110,116])=false:=bg dk;have g3:(u.toList==[97,116])=false:=bg dk;have g4:(u.toList==[109,105,110,117,115])=false:=bg dk;have g5:(u.toList==[100,111,117,98,108,101])=false:=bg dk;have gY:(u.toList==[116,105,109,101,115])=true:=mx hu rfl;clear hu;have hc:=λW=>OC A B X Y EE num aa.1 aa.2.1 W;generalize (if aw num (-12) 12 then gK A B (X,Y,EE) num else none)=o at *;rcases o with _|⟨x,y,z⟩
 .simp only[cw] at hc;have H1:=h_ hc;have HM:=h_ (λW (hb:af w w W)=>mZ r A B X Y EE 0 0 0 vl v0 v1 v2 false W (ae.below hb));have HF:=h_ (λw1 e w2 (hb:af w w w1) h=>@aI.stay r A B X Y EE L v0 v1 v2 vl w w1 w2 e 0 0 0 V hb h);exact Mg
 .simp only[cw] at hc;have H1:=h_ hc;have HM:=h_ (λW (hb:af w w W)=>mZ r A B X Y EE x y z vl v0 v1 v2 true W (ae.below hb));have HF:=h_ (λw1 e w2 (hb:af w w w1) h=>@aI.move r A B X Y EE L v0 v1 v2 vl w w1 w2 e x y z V hb h);exact Mg
def Np(r:Nat)(A B X Y EE:Int)(L:bM)(v0 v1 v2:Value)(t:ak)(hs:t.size<=3000)(u:ak)(tl:bW)(K:bB t 32=u::tl)(Q:eK)(hQ:gm Q)
 (a3:kp true Q u tl)
 (hu:u=iO)(aa:CS.ok ⟨A,B,X,Y,EE,L⟩)(w:World)(hk:fE r ⟨A,B,X,Y,EE,L⟩ v0 v1 v2 w):
 Kp 52 #[.pointer (some ⟨r,0,none⟩),t] w (aI r v0 v1 v2 w (de ⟨A,B,X,Y,EE,L⟩ (er A B (X,Y,EE) (X,Y,EE)))):=by
 obtain⟨vl,ae,V⟩:=hk;have g0:(u.toList==[99,117,114,118,101])=false:=bg dk;have g1:(u.toList==[115,99,97,108,101])=false:=bg dk;have g2:(u.toList==[112,111,105,110,116])=false:=bg dk;have g3:(u.toList==[97,116])=false:=bg dk;have g4:(u.toList==[109,105,110,117,115])=false:=bg dk;have gY:(u.toList==[100,111,117,98,108,101])=true:=mx hu rfl;clear hu;obtain⟨hA,hB⟩:=fs aa.1;have hc:=λW=>EU A B (X,Y,EE) (X,Y,EE) hA hB aa.2.1 aa.2.1 W;simp only at hc;clear hA hB;generalize er A B (X,Y,EE) (X,Y,EE)=o at *;rcases o with _|⟨x,y,z⟩
 .simp only[cw] at hc;have H1:=h_ hc;have HM:=h_ (λW (hb:af w w W)=>mZ r A B X Y EE 0 0 0 vl v0 v1 v2 false W (ae.below hb));have HF:=h_ (λw1 e w2 (hb:af w w w1) h=>@aI.stay r A B X Y EE L v0 v1 v2 vl w w1 w2 e 0 0 0 V hb h);exact Ma
 .simp only[cw] at hc;have H1:=h_ hc;have HM:=h_ (λW (hb:af w w W)=>mZ r A B X Y EE x y z vl v0 v1 v2 true W (ae.below hb));have HF:=h_ (λw1 e w2 (hb:af w w w1) h=>@aI.move r A B X Y EE L v0 v1 v2 vl w w1 w2 e x y z V hb h);exact Ma
def N7(r:Nat)(A B X Y EE:Int)(L:bM)(v0 v1 v2:Value)(t:ak)(hs:t.size<=3000)(u:ak)(tl:bW)(K:bB t 32=u::tl)(Q:eK)(hQ:gm Q)
 (a3:kp true Q u tl)
 (hu:u=wPoint)(x1:ak)(b7:x1.size<=10000)(aL:∀v a b T W,Q v a b T W->T=x1)(aa:CS.ok ⟨A,B,X,Y,EE,L⟩)(w:World)(hk:fE r ⟨A,B,X,Y,EE,L⟩ v0 v1 v2 w):
 Kp 52 #[.pointer (some ⟨r,0,none⟩),t] w (aI r v0 v1 v2 w (de ⟨A,B,X,Y,EE,L⟩ (dW A B x1.data.toList))):=by
 obtain⟨vl,ae,V⟩:=hk;have g0:(u.toList==[99,117,114,118,101])=false:=bg dk;have g1:(u.toList==[115,99,97,108,101])=false:=bg dk;have gY:(u.toList==[112,111,105,110,116])=true:=mx hu rfl;clear hu;obtain⟨hA,hB⟩:=fs aa.1;have hc:=λW=>Qu A B hA hB x1 o_ W;clear hA hB;generalize dW A B x1.data.toList=o at *;rcases o with _|⟨x,y,z⟩
 .simp only[cw] at hc;have H1:=h_ hc;have HM:=h_ (λW (hb:af w w W)=>mZ r A B X Y EE 0 0 0 vl v0 v1 v2 false W (ae.below hb));have HF:=h_ (λw1 e w2 (hb:af w w w1) h=>@aI.stay r A B X Y EE L v0 v1 v2 vl w w1 w2 e 0 0 0 V hb h);exact Md
 .simp only[cw] at hc;have H1:=h_ hc;have HM:=h_ (λW (hb:af w w W)=>mZ r A B X Y EE x y z vl v0 v1 v2 true W (ae.below hb));have HF:=h_ (λw1 e w2 (hb:af w w w1) h=>@aI.move r A B X Y EE L v0 v1 v2 vl w w1 w2 e x y z V hb h);exact Md
def On(r:Nat)(A B X Y EE:Int)(L:bM)(v0 v1 v2:Value)(t:ak)(hs:t.size<=3000)(u:ak)(tl:bW)(K:bB t 32=u::tl)(Q:eK)(hQ:gm Q)
 (a3:kp true Q u tl)
 (hu:u=it)(num:Int)(aL:∀v a b T W,Q v a b T W->ar W 0 v [num])(aa:CS.ok ⟨A,B,X,Y,EE,L⟩)(w:World)(hk:fE r ⟨A,B,X,Y,EE,L⟩ v0 v1 v2 w):
 Kp 52 #[.pointer (some ⟨r,0,none⟩),t] w (aI r v0 v1 v2 w (gT ⟨A,B,X,Y,EE,L⟩ (fW A B num) (A*num*num*num*num) (B*num*num*num*num*num*num))):=by
 obtain⟨vl,ae,V⟩:=hk;have g0:(u.toList==[99,117,114,118,101])=false:=bg dk;have gY:(u.toList==[115,99,97,108,101])=true:=mx hu rfl;clear hu;have hc:=λW=>NT A B num aa.1 W;unfold qu at hc;have HF:=h_ (λw1 e w2 (hb:af w w w1) h=>@aI.turn r A B X Y EE L v0 v1 v2 vl w w1 w2 e (rs (fW A B num) (A*num*num*num*num)) (rs (fW A B num) (B*num*num*num*num*num*num)) (A*num*num*num*num) (B*num*num*num*num*num*num) (fW A B num) (λh=>by rw[h];exact⟨rfl,rfl⟩) V hb h);generalize gT _ _ _ _=R at *;generalize rs (fW A B num) (A*num*num*num*num)=x at *;generalize rs (fW A B num) (B*num*num*num*num*num*num)=y at *;generalize fW A B num=f at *;have H1:=h_ hc;have HM:=h_ (λW (hb:af w w W)=>D4 r A B X Y EE x y vl v0 v1 v2 f W (ae.below hb));clear hc aa V;have U:=h_ (gL t 32 w o_);rw[K] at U;have a4:=h_ (jt u);generalize hm:tl.length=m at *;go_enter func52,ntmps52;go_wp2_with fail
 refine U.out.mono ?_;rintro e w1 ⟨v,rfl,ab,I⟩;obtain⟨g,F,rfl,bo,H,a6⟩:=ab.txw s_;have q0:w1.cell? ⟨g,0,none⟩=some (.string u):=H.2 0 s_;simp only[VA,hm] at bo ⊢;go_upto_region 2 with fail
 have bq:=H.1;have b3:0<w1.heap.size:=o_;have a5:=@cS.closed w1 true Q hQ;have bY:=λ(E:av) (hE:aQ E) r9=>@fe.closed w1 true Q hQ E hE r9;have aG:=h_ (λW (hb:af w1 w1 W)=>a3 g F W (H.below hb) o_);clear a3 H;apply jn (λr9 p n c a b T Wz=>w1.heap.size<=r9/\ah r9 #[.slice p n c,.int .i64 a,.int .i64 b,.string T] 98 Wz/\cS w1 true Q p n c a b T Wz)
 .exact mL
 .rintro r9 p n c a b T Wz ⟨bb,k9,aZ,ac,az⟩
  try dsimp only
  have aM:=ag aZ I.size I;have bz:=ae.lt;have J:=ae.below aM;have a8:=Vp bz aM.size;have cm:g<Wz.heap.size:=Vp bq aZ.size;have b2:=(aZ.cell (p:=⟨g,0,none⟩) bq).trans q0;have cc:g≠r:=o_;have bZ:r9≠r:=by have:=I.size;omega
  have⟨c0,c1,c2,c3,b5⟩:=k9.p4;generalize (if F=1 then (some ⟨g,0,none⟩:ck) else some ⟨g,1,none⟩)=ad at *;have hv:=aL _ _ _ _ _ (ac rfl);obtain⟨p',c',e5,hf⟩:=hv.form;injection e5 with e1 e2 e3;subst e1 e2 e3;obtain⟨gq,rfl,x0,bx,_⟩:=hf 0 s_;have bv:=hv.neS J;have x0:Wz.cell? ⟨gq,0,none⟩=some (.int .i64 num):=by simpa using x0
  simp only[VA,Wf,V9,Nat.reduceAdd] at c0;clear ac az q0 U a4 aG;go_upto_region 10 with fail
  refine bw [r] (λj=>j==12) (λw'=>af Wz Wz w') (λw'=>af Wz Wz w') k_ ((Vn _ _).drew) ?_;apply jT ⟨Wz,ai.refl _ _,Vn _ _⟩ (cj 12 0) 2 (bt Wz) (λ_ h=>h) k_ k_ k_ k_ s_
  .intro E hE bs b8;have s0:∀c:aU [r] Wz E,c.wd.cell? ⟨r,0,none⟩=some (.int .i64 A):=λc=>((bs _ c.more).cell (p:=⟨r,0,none⟩) a8).trans (J.cell 0);have s1:∀c:aU [r] Wz E,c.wd.cell? ⟨r,1,none⟩=some (.int .i64 B):=λc=>((bs _ c.more).cell (p:=⟨r,1,none⟩) a8).trans (J.cell 1);have s2:∀c:aU [r] Wz E,c.wd.cell? ⟨r,2,none⟩=some (.int .i64 X):=λc=>((bs _ c.more).cell (p:=⟨r,2,none⟩) a8).trans (J.cell 2);have s3:∀c:aU [r] Wz E,c.wd.cell? ⟨r,3,none⟩=some (.int .i64 Y):=λc=>((bs _ c.more).cell (p:=⟨r,3,none⟩) a8).trans (J.cell 3);have s4:∀c:aU [r] Wz E,c.wd.cell? ⟨r,4,none⟩=some (.int .i64 EE):=λc=>((bs _ c.more).cell (p:=⟨r,4,none⟩) a8).trans (J.cell 4);have s5:∀c:aU [r] Wz E,c.wd.cell? ⟨r,5,none⟩=some vl:=λc=>((bs _ c.more).cell (p:=⟨r,5,none⟩) a8).trans (J.cell 5)
   (repeat (first|(refine gN ?_;go_big_quiet_step ((go_at_call 72;exact Calls.quiet_cls hE _ (H1.out _)));refine wpQuiet_nil ?_)|refine gM ?_));exact gO rfl
  refine aD 12 ?_;refine jc (some 58) (λ_=>True) (λv w'=>aI r v0 v1 v2 w R (.returned v) w') (λv=>aI.closed _ _ _ _ _ _ _) (λ_ _ _=>trivial) (λh=>by simp at h) (λw' hO hd=>(HM.out w' (ag hd aM.size aM)).mono λe w2 h=>aI.fin h (HF.out w' e w2 (ag hd aM.size aM) h)) (λv hne=>?_);exact AM
def Oe(r:Nat)(A B X Y EE:Int)(L:bM)(v0 v1 v2:Value)(t:ak)(hs:t.size<=3000)(u:ak)(tl:bW)(K:bB t 32=u::tl)(Q:eK)(hQ:gm Q)
 (a3:kp true Q u tl)
 (hu:u=iR)(aa:CS.ok ⟨A,B,X,Y,EE,L⟩)(w:World)(hk:fE r ⟨A,B,X,Y,EE,L⟩ v0 v1 v2 w):
 Kp 52 #[.pointer (some ⟨r,0,none⟩),t] w (aI r v0 v1 v2 w (de ⟨A,B,X,Y,EE,L⟩ (some (X,-Y,EE)))):=by
 obtain⟨vl,ae,V⟩:=hk;have g0:(u.toList==[99,117,114,118,101])=false:=bg dk;have g1:(u.toList==[115,99,97,108,101])=false:=bg dk;have g2:(u.toList==[112,111,105,110,116])=false:=bg dk;have g3:(u.toList==[97,116])=false:=bg dk;have gY:(u.toList==[109,105,110,117,115])=true:=mx hu rfl;clear hu;have b6:=aa.2.1.bd;simp only at b6;have H1:=h_ (CV X Y EE o_);have HF:=h_ (λw1 e w2 (hb:af w w w1) h=>@aI.move r A B X Y EE L v0 v1 v2 vl w w1 w2 e X (-Y) EE V hb h);have HM:=h_ (λW (hb:af w w W)=>mZ r A B X Y EE X (-Y) EE vl v0 v1 v2 true W (ae.below hb));generalize de _ _=R at *;generalize a1:-Y=NY at *;clear a1 aa V b6;have U:=h_ (gL t 32 w o_);rw[K] at U;have a4:=h_ (jt u);generalize hm:tl.length=m at *;go_enter func52,ntmps52;go_wp2_with fail
 refine U.out.mono ?_;rintro e w1 ⟨v,rfl,ab,I⟩;obtain⟨g,F,rfl,bo,H,a6⟩:=ab.txw s_;have q0:w1.cell? ⟨g,0,none⟩=some (.string u):=H.2 0 s_;simp only[VA,hm] at bo ⊢;go_upto_region 2 with fail
 have bq:=H.1;have b3:0<w1.heap.size:=o_;have a5:=@cS.closed w1 true Q hQ;have bY:=λ(E:av) (hE:aQ E) r9=>@fe.closed w1 true Q hQ E hE r9;have aG:=h_ (λW (hb:af w1 w1 W)=>a3 g F W (H.below hb) o_);clear a3 H;apply jn (λr9 p n c a b T Wz=>w1.heap.size<=r9/\ah r9 #[.slice p n c,.int .i64 a,.int .i64 b,.string T] 98 Wz/\cS w1 true Q p n c a b T Wz)
 .exact mL
 .rintro r9 p n c a b T Wz ⟨bb,k9,aZ,ac,az⟩
  try dsimp only
  have aM:=ag aZ I.size I;have bz:=ae.lt;have J:=ae.below aM;have a8:=Vp bz aM.size;have cm:g<Wz.heap.size:=Vp bq aZ.size;have b2:=(aZ.cell (p:=⟨g,0,none⟩) bq).trans q0;have cc:g≠r:=o_;have bZ:r9≠r:=by have:=I.size;omega
  have⟨c0,c1,c2,c3,b5⟩:=k9.p4;generalize (if F=1 then (some ⟨g,0,none⟩:ck) else some ⟨g,1,none⟩)=ad at *;clear ac az q0 U a4 aG;have s2:Wz.cell? ⟨r,2,none⟩=some (.int .i64 X):=J.cell 2;have s3:Wz.cell? ⟨r,3,none⟩=some (.int .i64 Y):=J.cell 3;have s4:Wz.cell? ⟨r,4,none⟩=some (.int .i64 EE):=J.cell 4;go_upto_region 19 with fail
  go_wp2_with fail
  refine aj (H1.out _) λw3 aF=>?_;have aL:=ag aF aM.size aM;go_wp2_with fail
  refine (HM.out _ aL).mono ?_;intro e w9 G;have HP:=h_ (HF.out _ e w9 aL G);exact Ao
def wC(h:P:=by
 intro E hE bs b8;have s0:∀c:aU [r] Wz E,c.wd.cell? ⟨r,0,none⟩=some (.int .i64 A):=λc=>((bs _ c.more).cell (p:=⟨r,0,none⟩) a8).trans (J.cell 0);have s1:∀c:aU [r] Wz E,c.wd.cell? ⟨r,1,none⟩=some (.int .i64 B):=λc=>((bs _ c.more).cell (p:=⟨r,1,none⟩) a8).trans (J.cell 1);have s2:∀c:aU [r] Wz E,c.wd.cell? ⟨r,2,none⟩=some (.int .i64 X):=λc=>((bs _ c.more).cell (p:=⟨r,2,none⟩) a8).trans (J.cell 2);have s3:∀c:aU [r] Wz E,c.wd.cell? ⟨r,3,none⟩=some (.int .i64 Y):=λc=>((bs _ c.more).cell (p:=⟨r,3,none⟩) a8).trans (J.cell 3);have s4:∀c:aU [r] Wz E,c.wd.cell? ⟨r,4,none⟩=some (.int .i64 EE):=λc=>((bs _ c.more).cell (p:=⟨r,4,none⟩) a8).trans (J.cell 4);have s5:∀c:aU [r] Wz E,c.wd.cell? ⟨r,5,none⟩=some vl:=λc=>((bs _ c.more).cell (p:=⟨r,5,none⟩) a8).trans (J.cell 5)
 (repeat (first|(refine gN ?_;go_big_quiet_step (fail);refine wpQuiet_nil ?_)|refine gM ?_));exact gO rfl):=h
def Lf(h:P:=by
 refine ap ?_;refine aE hne (bk 22 1) 0 (aI.closed _ _ _ _ _ _ _) aB ?_;exact vU):=h
def mQ(Wz:World)(v:Value)(w':World):Prop:=af Wz Wz w'/\∃x,v=.tuple #[x,false]
def lg(Wz:World)(M:bM)(v:Value)(w':World):Prop:=af Wz Wz w'/\∃x c,v=.tuple #[.slice x M.length c,true]/\an w' Wz.heap.size (.slice x M.length c) M
def mQ.closed(Wz:World)(v:Value):aQ (mQ Wz v):=λ_ _ ⟨h1,h2⟩ hb=>⟨ag hb h1.size h1,h2⟩
def lg.closed(Wz:World)(M:bM)(v:Value):aQ (lg Wz M v):=λ_ _ ⟨h1,x,c,h2,h3⟩ hb=>⟨ag hb h1.size h1,x,c,h2,h3.below hb⟩
def fd.kpN{Wz w' w2:World}{e:Ending}(hb:af Wz Wz w')(h:fd Option.none w' e w2)(r:Nat):∃v,e=.returned v/\ai [r] w' w2/\mQ Wz v w2:=by
 obtain⟨x,h1,_,h3⟩:=h;exact⟨_,h1,.of_below h3,ag h3 hb.size hb,x,rfl⟩
def fd.kpY{Wz w' w2:World}{e:Ending}{M:bM}(hb:af Wz Wz w')(h:fd (Option.some M) w' e w2)(r:Nat):∃v,e=.returned v/\ai [r] w' w2/\lg Wz M v w2:=by
 obtain⟨x,h1,h2,h3⟩:=h;obtain⟨y,c,rfl,_,_⟩:=(h2 M rfl).form;exact⟨_,h1,.of_below h3,ag h3 hb.size hb,y,c,rfl,(h2 M rfl).le hb.size⟩
def lg.get{Wz w':World}{M:bM}{x:ck}{c:Nat}(h:lg Wz M (.tuple #[.slice x M.length c,true]) w'):af Wz Wz w'/\an w' Wz.heap.size (.slice x M.length c) M:=by
 obtain⟨h1,g,c',h2,h3⟩:=h;have h4:x=g/\c=c':=by simpa using h2
 rw[h4.1,h4.2];exact⟨h1,h3⟩
def Pd(r:Nat)(A B X Y EE:Int)(L:bM)(v0 v1 v2:Value)(t:ak)(hs:t.size<=3000)(u:ak)(tl:bW)(K:bB t 32=u::tl)(Q:eK)(hQ:gm Q)
 (a3:kp true Q u tl)
 (hu:u=iS)(aa:CS.ok ⟨A,B,X,Y,EE,L⟩)(w:World)(hk:fE r ⟨A,B,X,Y,EE,L⟩ v0 v1 v2 w):
 Kp 52 #[.pointer (some ⟨r,0,none⟩),t] w (aI r v0 v1 v2 w (eR ⟨A,B,X,Y,EE,L⟩ (iT L (A,B)))):=by
 obtain⟨vl,ae,V⟩:=hk;have g0:(u.toList==[99,117,114,118,101])=false:=bg dk;have g1:(u.toList==[115,99,97,108,101])=false:=bg dk;have g2:(u.toList==[112,111,105,110,116])=false:=bg dk;have g3:(u.toList==[97,116])=false:=bg dk;have g4:(u.toList==[109,105,110,117,115])=false:=bg dk;have g5:(u.toList==[100,111,117,98,108,101])=false:=bg dk;have g6:(u.toList==[116,105,109,101,115])=false:=bg dk;have g7:(u.toList==[114,101,99,111,114,100])=false:=bg dk;have gY:(u.toList==[100,114,111,112])=true:=mx hu rfl;clear hu;have HD:=λW (hb:af w w W)=>TA (r+1) vl L A B aa.1 aa.2.2 W (V.below hb);generalize iT L (A,B)=o at *;have aF:=ae.lt;rcases o with _|M
 .have HM:=h_ (λv W (hb:af w w W)=>Cc r A B X Y EE vl v0 v1 v2 v W (ae.below hb));have HF:=h_ (λw1 e w2 (hb:af w w w1) h=>@aI.stay r A B X Y EE L v0 v1 v2 vl w w1 w2 e 0 0 0 V hb h);rw[show de ⟨A,B,X,Y,EE,L⟩ none=eR ⟨A,B,X,Y,EE,L⟩ none from rfl] at HF;generalize eR ⟨A,B,X,Y,EE,L⟩ none=R at *;have a1:=h_ HD;clear HD aa V aF;have U:=h_ (gL t 32 w o_);rw[K] at U;have a4:=h_ (jt u);generalize hm:tl.length=m at *;go_enter func52,ntmps52;go_wp2_with fail
  refine U.out.mono ?_;rintro e w1 ⟨v,rfl,ab,I⟩;obtain⟨g,F,rfl,bo,H,a6⟩:=ab.txw s_;have q0:w1.cell? ⟨g,0,none⟩=some (.string u):=H.2 0 s_;simp only[VA,hm] at bo ⊢;go_upto_region 2 with fail
  have bq:=H.1;have b3:0<w1.heap.size:=o_;have a5:=@cS.closed w1 true Q hQ;have bY:=λ(E:av) (hE:aQ E) r9=>@fe.closed w1 true Q hQ E hE r9;have aG:=h_ (λW (hb:af w1 w1 W)=>a3 g F W (H.below hb) o_);clear a3 H;apply jn (λr9 p n c a b T Wz=>w1.heap.size<=r9/\ah r9 #[.slice p n c,.int .i64 a,.int .i64 b,.string T] 98 Wz/\cS w1 true Q p n c a b T Wz)
  .exact mL
  .rintro r9 p n c a b T Wz ⟨bb,k9,aZ,ac,az⟩
   try dsimp only
   have aM:=ag aZ I.size I;have bz:=ae.lt;have J:=ae.below aM;have a8:=Vp bz aM.size;have cm:g<Wz.heap.size:=Vp bq aZ.size;have b2:=(aZ.cell (p:=⟨g,0,none⟩) bq).trans q0;have cc:g≠r:=o_;have bZ:r9≠r:=by have:=I.size;omega
   have⟨c0,c1,c2,c3,b5⟩:=k9.p4;generalize (if F=1 then (some ⟨g,0,none⟩:ck) else some ⟨g,1,none⟩)=ad at *
   skip
   clear ac az q0 U a4 aG;go_upto_region 27 with fail
   refine bw [r] (λj=>j==12) (λw'=>af Wz Wz w') (λw'=>af Wz Wz w') k_ ((Vn _ _).drew) ?_;apply jT ⟨Wz,ai.refl _ _,Vn _ _⟩ (cj 9 0) 5 (bt Wz) (λ_ h=>h) k_ k_ k_ k_ s_
   .exact wC
   refine aD 9 ?_;refine jc (some 178) (λw'=>af Wz Wz w') (mQ Wz) (mQ.closed Wz) (λv u h=>h.1) (λ_=>rfl) (λw' hO hd=>(a1.out w' (ag hd aM.size aM)).mono λe w2 h=>h.kpN hd r) (λv hne=>?_);obtain⟨w8,b1,_,x,rfl⟩:=id hne;refine ap ?_;refine wP hne (bk 10 2) 2 (mQ.closed _ _) (λ_ h=>h.1) ?_;refine aD 12 ?_;refine jc (some 181) (λ_=>True) (λv w'=>aI r v0 v1 v2 w R (.returned v) w') (λv=>aI.closed _ _ _ _ _ _ _) (λ_ _ _=>trivial) (λh=>by simp at h) (λw' hO hd=>(HM.out x w' (ag hd.1 aM.size aM)).mono λe w2 h=>aI.fin h (HF.out w' e w2 (ag hd.1 aM.size aM) h)) (λv hne=>?_);exact AM
 .have HM:=h_ (λa2 n2 c2 W (hb:af w w W)=>DC r A B X Y EE vl v0 v1 v2 a2 n2 c2 true W (ae.below hb));have HF:=h_ (λv w1 e w2 (h0:an w1 w.heap.size v M) (hb:af w.heap.size w w1) h=>@aI.keep r A B X Y EE L M v0 v1 v2 vl v w w1 w2 e h0 aF hb h);generalize eR ⟨A,B,X,Y,EE,L⟩ (some M)=R at *;have a1:=h_ HD;clear HD aa V aF;have U:=h_ (gL t 32 w o_);rw[K] at U;have a4:=h_ (jt u);generalize hm:tl.length=m at *;go_enter func52,ntmps52;go_wp2_with fail
  refine U.out.mono ?_;rintro e w1 ⟨v,rfl,ab,I⟩;obtain⟨g,F,rfl,bo,H,a6⟩:=ab.txw s_;have q0:w1.cell? ⟨g,0,none⟩=some (.string u):=H.2 0 s_;simp only[VA,hm] at bo ⊢;go_upto_region 2 with fail
  have bq:=H.1;have b3:0<w1.heap.size:=o_;have a5:=@cS.closed w1 true Q hQ;have bY:=λ(E:av) (hE:aQ E) r9=>@fe.closed w1 true Q hQ E hE r9;have aG:=h_ (λW (hb:af w1 w1 W)=>a3 g F W (H.below hb) o_);clear a3 H;apply jn (λr9 p n c a b T Wz=>w1.heap.size<=r9/\ah r9 #[.slice p n c,.int .i64 a,.int .i64 b,.string T] 98 Wz/\cS w1 true Q p n c a b T Wz)
  .exact mL
  .rintro r9 p n c a b T Wz ⟨bb,k9,aZ,ac,az⟩
   try dsimp only
   have aM:=ag aZ I.size I;have bz:=ae.lt;have J:=ae.below aM;have a8:=Vp bz aM.size;have cm:g<Wz.heap.size:=Vp bq aZ.size;have b2:=(aZ.cell (p:=⟨g,0,none⟩) bq).trans q0;have cc:g≠r:=o_;have bZ:r9≠r:=by have:=I.size;omega
   have⟨c0,c1,c2,c3,b5⟩:=k9.p4;generalize (if F=1 then (some ⟨g,0,none⟩:ck) else some ⟨g,1,none⟩)=ad at *
   skip
   clear ac az q0 U a4 aG;go_upto_region 27 with fail
   refine bw [r] (λj=>j==12) (λw'=>af Wz Wz w') (λw'=>af Wz Wz w') k_ ((Vn _ _).drew) ?_;apply jT ⟨Wz,ai.refl _ _,Vn _ _⟩ (cj 9 0) 5 (bt Wz) (λ_ h=>h) k_ k_ k_ k_ s_
   .exact wC
   refine aD 9 ?_;refine jc (some 178) (λw'=>af Wz Wz w') (lg Wz M) (lg.closed Wz M) (λv u h=>h.1) (λ_=>rfl) (λw' hO hd=>(a1.out w' (ag hd aM.size aM)).mono λe w2 h=>h.kpY hd r) (λv hne=>?_);obtain⟨w8,b1,_,x,cx,rfl,_⟩:=id hne;refine ap ?_;refine wP hne (bk 10 2) 2 (lg.closed _ _ _) (λ_ h=>h.1) ?_;refine aD 12 ?_;refine jc (some 181) (λ_=>True) (λv w'=>aI r v0 v1 v2 w R (.returned v) w') (λv=>aI.closed _ _ _ _ _ _ _) (λ_ _ _=>trivial) (λh=>by simp at h) (λw' hO hd=>(HM.out x M.length cx w' (ag hd.get.1 aM.size aM)).mono λe w2 h=>aI.fin h (HF.out _ w' e w2 (hd.get.2.le aM.size) (ag hd.get.1 aM.size aM) h)) (λv hne=>?_);exact AM
def Nx(r:Nat)(A B X Y EE:Int)(L:bM)(v0 v1 v2:Value)(t:ak)(hs:t.size<=3000)(u:ak)(tl:bW)(K:bB t 32=u::tl)(Q:eK)(hQ:gm Q)
 (a3:kp true Q u tl)
 (hu:u=iq)(num G:Int)(aL:∀v a b T W,Q v a b T W->ar W 0 v [num,G])(aa:CS.ok ⟨A,B,X,Y,EE,L⟩)(w:World)(hk:fE r ⟨A,B,X,Y,EE,L⟩ v0 v1 v2 w):
 Kp 52 #[.pointer (some ⟨r,0,none⟩),t] w (aI r v0 v1 v2 w (eR ⟨A,B,X,Y,EE,L⟩ (jG L ((A,B),num,G,0)))):=by
 obtain⟨vl,ae,V⟩:=hk;have g0:(u.toList==[99,117,114,118,101])=false:=bg dk;have g1:(u.toList==[115,99,97,108,101])=false:=bg dk;have g2:(u.toList==[112,111,105,110,116])=false:=bg dk;have g3:(u.toList==[97,116])=false:=bg dk;have g4:(u.toList==[109,105,110,117,115])=false:=bg dk;have g5:(u.toList==[100,111,117,98,108,101])=false:=bg dk;have g6:(u.toList==[116,105,109,101,115])=false:=bg dk;have gY:(u.toList==[114,101,99,111,114,100])=true:=mx hu rfl;clear hu;have HD:=λW (hb:af w w W)=>Pn (r+1) vl L ((A,B),num,G,0) aa.2.2 W (V.below hb);simp only[cI] at HD;generalize jG L ((A,B),num,G,0)=o at *;have aF:=ae.lt;rcases o with _|M
 .have HM:=h_ (λv W (hb:af w w W)=>Cc r A B X Y EE vl v0 v1 v2 v W (ae.below hb));have HF:=h_ (λw1 e w2 (hb:af w w w1) h=>@aI.stay r A B X Y EE L v0 v1 v2 vl w w1 w2 e 0 0 0 V hb h);rw[show de ⟨A,B,X,Y,EE,L⟩ none=eR ⟨A,B,X,Y,EE,L⟩ none from rfl] at HF;generalize eR ⟨A,B,X,Y,EE,L⟩ none=R at *;have a1:=h_ HD;clear HD aa V aF;have U:=h_ (gL t 32 w o_);rw[K] at U;have a4:=h_ (jt u);generalize hm:tl.length=m at *;go_enter func52,ntmps52;go_wp2_with fail
  refine U.out.mono ?_;rintro e w1 ⟨v,rfl,ab,I⟩;obtain⟨g,F,rfl,bo,H,a6⟩:=ab.txw s_;have q0:w1.cell? ⟨g,0,none⟩=some (.string u):=H.2 0 s_;simp only[VA,hm] at bo ⊢;go_upto_region 2 with fail
  have bq:=H.1;have b3:0<w1.heap.size:=o_;have a5:=@cS.closed w1 true Q hQ;have bY:=λ(E:av) (hE:aQ E) r9=>@fe.closed w1 true Q hQ E hE r9;have aG:=h_ (λW (hb:af w1 w1 W)=>a3 g F W (H.below hb) o_);clear a3 H;apply jn (λr9 p n c a b T Wz=>w1.heap.size<=r9/\ah r9 #[.slice p n c,.int .i64 a,.int .i64 b,.string T] 98 Wz/\cS w1 true Q p n c a b T Wz)
  .exact mL
  .rintro r9 p n c a b T Wz ⟨bb,k9,aZ,ac,az⟩
   try dsimp only
   have aM:=ag aZ I.size I;have bz:=ae.lt;have J:=ae.below aM;have a8:=Vp bz aM.size;have cm:g<Wz.heap.size:=Vp bq aZ.size;have b2:=(aZ.cell (p:=⟨g,0,none⟩) bq).trans q0;have cc:g≠r:=o_;have bZ:r9≠r:=by have:=I.size;omega
   have⟨c0,c1,c2,c3,b5⟩:=k9.p4;generalize (if F=1 then (some ⟨g,0,none⟩:ck) else some ⟨g,1,none⟩)=ad at *;have hv:=aL _ _ _ _ _ (ac rfl);obtain⟨p',c',e5,hf⟩:=hv.form;injection e5 with e1 e2 e3;subst e1 e2 e3;obtain⟨gq,rfl,x0,bx,_⟩:=hf 0 s_;obtain⟨b7,e6,x1,_,_⟩:=hf 1 s_;injection e6 with e6;injection e6 with e6;subst e6;have bv:=hv.neS J;have x0:Wz.cell? ⟨gq,0,none⟩=some (.int .i64 num):=by simpa using x0
   have x1:Wz.cell? ⟨gq,1,none⟩=some (.int .i64 G):=by simpa using x1
   simp only[VA,Wf,V9,Nat.reduceAdd] at c0;clear ac az q0 U a4 aG;go_upto_region 25 with fail
   refine bw [r] (λj=>j==21) (λw'=>af Wz Wz w') (λw'=>af Wz Wz w') k_ ((Vn _ _).drew) ?_;apply jT ⟨Wz,ai.refl _ _,Vn _ _⟩ (cj 18 0) 5 (bt Wz) (λ_ h=>h) k_ k_ k_ k_ s_
   .exact wC
   refine aD 18 ?_;refine jc (some 163) (λw'=>af Wz Wz w') (mQ Wz) (mQ.closed Wz) (λv u h=>h.1) (λ_=>rfl) (λw' hO hd=>(a1.out w' (ag hd aM.size aM)).mono λe w2 h=>h.kpN hd r) (λv hne=>?_);obtain⟨w8,b1,_,x,rfl⟩:=id hne;refine ap ?_;refine wP hne (bk 19 2) 2 (mQ.closed _ _) (λ_ h=>h.1) ?_;refine aD 21 ?_;refine jc (some 166) (λ_=>True) (λv w'=>aI r v0 v1 v2 w R (.returned v) w') (λv=>aI.closed _ _ _ _ _ _ _) (λ_ _ _=>trivial) (λh=>by simp at h) (λw' hO hd=>(HM.out x w' (ag hd.1 aM.size aM)).mono λe w2 h=>aI.fin h (HF.out w' e w2 (ag hd.1 aM.size aM) h)) (λv hne=>?_);exact Lf
 .have HM:=h_ (λa2 n2 c2 W (hb:af w w W)=>DC r A B X Y EE vl v0 v1 v2 a2 n2 c2 true W (ae.below hb));have HF:=h_ (λv w1 e w2 (h0:an w1 w.heap.size v M) (hb:af w.heap.size w w1) h=>@aI.keep r A B X Y EE L M v0 v1 v2 vl v w w1 w2 e h0 aF hb h);generalize eR ⟨A,B,X,Y,EE,L⟩ (some M)=R at *;have a1:=h_ HD;clear HD aa V aF;have U:=h_ (gL t 32 w o_);rw[K] at U;have a4:=h_ (jt u);generalize hm:tl.length=m at *;go_enter func52,ntmps52;go_wp2_with fail
  refine U.out.mono ?_;rintro e w1 ⟨v,rfl,ab,I⟩;obtain⟨g,F,rfl,bo,H,a6⟩:=ab.txw s_;have q0:w1.cell? ⟨g,0,none⟩=some (.string u):=H.2 0 s_;simp only[VA,hm] at bo ⊢;go_upto_region 2 with fail
  have bq:=H.1;have b3:0<w1.heap.size:=o_;have a5:=@cS.closed w1 true Q hQ;have bY:=λ(E:av) (hE:aQ E) r9=>@fe.closed w1 true Q hQ E hE r9;have aG:=h_ (λW (hb:af w1 w1 W)=>a3 g F W (H.below hb) o_);clear a3 H;apply jn (λr9 p n c a b T Wz=>w1.heap.size<=r9/\ah r9 #[.slice p n c,.int .i64 a,.int .i64 b,.string T] 98 Wz/\cS w1 true Q p n c a b T Wz)
  .exact mL
  .rintro r9 p n c a b T Wz ⟨bb,k9,aZ,ac,az⟩
   try dsimp only
   have aM:=ag aZ I.size I;have bz:=ae.lt;have J:=ae.below aM;have a8:=Vp bz aM.size;have cm:g<Wz.heap.size:=Vp bq aZ.size;have b2:=(aZ.cell (p:=⟨g,0,none⟩) bq).trans q0;have cc:g≠r:=o_;have bZ:r9≠r:=by have:=I.size;omega
   have⟨c0,c1,c2,c3,b5⟩:=k9.p4;generalize (if F=1 then (some ⟨g,0,none⟩:ck) else some ⟨g,1,none⟩)=ad at *;have hv:=aL _ _ _ _ _ (ac rfl);obtain⟨p',c',e5,hf⟩:=hv.form;injection e5 with e1 e2 e3;subst e1 e2 e3;obtain⟨gq,rfl,x0,bx,_⟩:=hf 0 s_;obtain⟨b7,e6,x1,_,_⟩:=hf 1 s_;injection e6 with e6;injection e6 with e6;subst e6;have bv:=hv.neS J;have x0:Wz.cell? ⟨gq,0,none⟩=some (.int .i64 num):=by simpa using x0
   have x1:Wz.cell? ⟨gq,1,none⟩=some (.int .i64 G):=by simpa using x1
   simp only[VA,Wf,V9,Nat.reduceAdd] at c0;clear ac az q0 U a4 aG;go_upto_region 25 with fail
   refine bw [r] (λj=>j==21) (λw'=>af Wz Wz w') (λw'=>af Wz Wz w') k_ ((Vn _ _).drew) ?_;apply jT ⟨Wz,ai.refl _ _,Vn _ _⟩ (cj 18 0) 5 (bt Wz) (λ_ h=>h) k_ k_ k_ k_ s_
   .exact wC
   refine aD 18 ?_;refine jc (some 163) (λw'=>af Wz Wz w') (lg Wz M) (lg.closed Wz M) (λv u h=>h.1) (λ_=>rfl) (λw' hO hd=>(a1.out w' (ag hd aM.size aM)).mono λe w2 h=>h.kpY hd r) (λv hne=>?_);obtain⟨w8,b1,_,x,cx,rfl,_⟩:=id hne;refine ap ?_;refine wP hne (bk 19 2) 2 (lg.closed _ _ _) (λ_ h=>h.1) ?_;refine aD 21 ?_;refine jc (some 166) (λ_=>True) (λv w'=>aI r v0 v1 v2 w R (.returned v) w') (λv=>aI.closed _ _ _ _ _ _ _) (λ_ _ _=>trivial) (λh=>by simp at h) (λw' hO hd=>(HM.out x M.length cx w' (ag hd.get.1 aM.size aM)).mono λe w2 h=>aI.fin h (HF.out _ w' e w2 (hd.get.2.le aM.size) (ag hd.get.1 aM.size aM) h)) (λv hne=>?_);exact Lf
def OD(r:Nat)(A B X Y EE:Int)(L:bM)(v0 v1 v2:Value)(t:ak)(hs:t.size<=3000)(u:ak)(tl:bW)(K:bB t 32=u::tl)(Q:eK)(hQ:gm Q)
 (a3:kp true Q u tl)
 (hu:u=iz)(num G:Int)(aL:∀v a b T W,Q v a b T W->ar W 0 v [num,G])(aa:CS.ok ⟨A,B,X,Y,EE,L⟩)(w:World)(hk:fE r ⟨A,B,X,Y,EE,L⟩ v0 v1 v2 w):
 Kp 52 #[.pointer (some ⟨r,0,none⟩),t] w (aI r v0 v1 v2 w (gT ⟨A,B,X,Y,EE,L⟩ (be num G) num G)):=by
 obtain⟨vl,ae,V⟩:=hk;have gY:(u.toList==[99,117,114,118,101])=true:=mx hu rfl;clear hu;have HF:=h_ (λw1 e w2 (hb:af w w w1) h=>@aI.turn r A B X Y EE L v0 v1 v2 vl w w1 w2 e num G num G (be num G) (λ_=>⟨rfl,rfl⟩) V hb h);have H1:=h_ (f_ num G);generalize gT _ _ _ _=R at *;generalize be num G=f at *;have HM:=h_ (λW (hb:af w w W)=>D4 r A B X Y EE num G vl v0 v1 v2 f W (ae.below hb));clear aa V;have U:=h_ (gL t 32 w o_);rw[K] at U;have a4:=h_ (jt u);generalize hm:tl.length=m at *;go_enter func52,ntmps52;go_wp2_with fail
 refine U.out.mono ?_;rintro e w1 ⟨v,rfl,ab,I⟩;obtain⟨g,F,rfl,bo,H,a6⟩:=ab.txw s_;have q0:w1.cell? ⟨g,0,none⟩=some (.string u):=H.2 0 s_;simp only[VA,hm] at bo ⊢;go_upto_region 2 with fail
 have bq:=H.1;have b3:0<w1.heap.size:=o_;have a5:=@cS.closed w1 true Q hQ;have bY:=λ(E:av) (hE:aQ E) r9=>@fe.closed w1 true Q hQ E hE r9;have aG:=h_ (λW (hb:af w1 w1 W)=>a3 g F W (H.below hb) o_);clear a3 H;apply jn (λr9 p n c a b T Wz=>w1.heap.size<=r9/\ah r9 #[.slice p n c,.int .i64 a,.int .i64 b,.string T] 98 Wz/\cS w1 true Q p n c a b T Wz)
 .exact mL
 .rintro r9 p n c a b T Wz ⟨bb,k9,aZ,ac,az⟩
  try dsimp only
  have aM:=ag aZ I.size I;have bz:=ae.lt;have J:=ae.below aM;have a8:=Vp bz aM.size;have cm:g<Wz.heap.size:=Vp bq aZ.size;have b2:=(aZ.cell (p:=⟨g,0,none⟩) bq).trans q0;have cc:g≠r:=o_;have bZ:r9≠r:=by have:=I.size;omega
  have⟨c0,c1,c2,c3,b5⟩:=k9.p4;generalize (if F=1 then (some ⟨g,0,none⟩:ck) else some ⟨g,1,none⟩)=ad at *;have hv:=aL _ _ _ _ _ (ac rfl);obtain⟨p',c',e5,hf⟩:=hv.form;injection e5 with e1 e2 e3;subst e1 e2 e3;obtain⟨gq,rfl,x0,bx,_⟩:=hf 0 s_;obtain⟨b7,e6,x1,_,_⟩:=hf 1 s_;injection e6 with e6;injection e6 with e6;subst e6;have bv:=hv.neS J;have x0:Wz.cell? ⟨gq,0,none⟩=some (.int .i64 num):=by simpa using x0
  have x1:Wz.cell? ⟨gq,1,none⟩=some (.int .i64 G):=by simpa using x1
  simp only[VA,Wf,V9,Nat.reduceAdd] at c0;clear ac az q0 U a4 aG;go_upto_region 7 with fail
  obtain⟨W2,b6⟩:∃W2,W2=Wz:=⟨_,rfl⟩
  subst b6;apply fZ (λr8 Wz=>ai [] W2 Wz/\(λw'=>af W2 W2 w') Wz/\W2.heap.size<=r8/\ah r8 #[num,G] 42 Wz)
  .intro bp;refine bw [] (λ_=>false) (λ_=>True) (KD (λw'=>af W2 W2 w') []) k_ ⟨(bt W2) _ _ (Vn _ _) ((Vn _ _).drew),bU.nil _⟩ ?_;refine aE ⟨W2,ai.refl _ _,Vn _ _,bU.nil _⟩ (cj 9 0) 2 (KD.closed (bt W2) _) aB ?_;refine aR [9] ?_;refine am.cons ?_ ?_
   .refine dB (zs:=#[(),()]) (T:=42) (bt W2) (λr8 cb cN hne=>?_);refine ap ?_;refine aR [10] ?_;refine am.cons ?_ ?_
    .refine fB (v:=.agg #[num,G]) [] [] (.inl cb) (bt W2) (λ_ _ h Z=>Z.belowGe h h.size iB) s_ (λhne=>?_)
     try simp only[Value.cells]
     exact JT
    exact am.nil
   exact am.nil
  try dsimp only
  rintro rM W3 ⟨bi,b0,b4,kM⟩;replace aM:=ag b0 aM.size aM;replace J:=J.below b0;replace a8:=Vp a8 b0.size;have aF:rM≠r:=o_;have⟨a9,ba,bX⟩:=kM.p2;clear c0 c1 c2 c3 x0 x1 b2 bi;go_upto_region 8 with fail
  refine bw [r] (λj=>j==4) (λw'=>af W3 W3 w') (λw'=>af W3 W3 w') k_ ((Vn _ _).drew) ?_;apply jT ⟨W3,ai.refl _ _,Vn _ _⟩ (cj 4 0) 2 (bt W3) (λ_ h=>h) k_ k_ k_ k_ s_
  .intro E hE bs b8;have s0:∀c:aU [r] W3 E,c.wd.cell? ⟨r,0,none⟩=some (.int .i64 A):=λc=>((bs _ c.more).cell (p:=⟨r,0,none⟩) a8).trans (J.cell 0);have s1:∀c:aU [r] W3 E,c.wd.cell? ⟨r,1,none⟩=some (.int .i64 B):=λc=>((bs _ c.more).cell (p:=⟨r,1,none⟩) a8).trans (J.cell 1);have s2:∀c:aU [r] W3 E,c.wd.cell? ⟨r,2,none⟩=some (.int .i64 X):=λc=>((bs _ c.more).cell (p:=⟨r,2,none⟩) a8).trans (J.cell 2);have s3:∀c:aU [r] W3 E,c.wd.cell? ⟨r,3,none⟩=some (.int .i64 Y):=λc=>((bs _ c.more).cell (p:=⟨r,3,none⟩) a8).trans (J.cell 3);have s4:∀c:aU [r] W3 E,c.wd.cell? ⟨r,4,none⟩=some (.int .i64 EE):=λc=>((bs _ c.more).cell (p:=⟨r,4,none⟩) a8).trans (J.cell 4);have s5:∀c:aU [r] W3 E,c.wd.cell? ⟨r,5,none⟩=some vl:=λc=>((bs _ c.more).cell (p:=⟨r,5,none⟩) a8).trans (J.cell 5)
   (repeat (first|(refine gN ?_;go_big_quiet_step ((go_at_call 71;exact Calls.quiet_cls hE _ (H1.out _)));refine wpQuiet_nil ?_)|refine gM ?_));exact gO rfl
  refine aD 4 ?_;refine jc (some 43) (λ_=>True) (λv w'=>aI r v0 v1 v2 w R (.returned v) w') (λv=>aI.closed _ _ _ _ _ _ _) (λ_ _ _=>trivial) (λh=>by simp at h) (λw' hO hd=>(HM.out w' (ag hd aM.size aM)).mono λe w2 h=>aI.fin h (HF.out w' e w2 (ag hd aM.size aM) h)) (λv hne=>?_);refine ap ?_;refine aE hne (bk 5 1) 0 (aI.closed _ _ _ _ _ _ _) aB ?_;exact vU
def Tb{A B a b:Int}(h:jH A B a b≠[]):ks a b=true:=by
 unfold jH at h;cases G:ks a b
 .rw[G] at h;simp at h
 .rfl
def Rt(r:Nat)(A B X Y EE:Int)(L:bM)(v0 v1 v2:Value)(t:ak)(hs:t.size<=3000)(u:ak)(tl:bW)(K:bB t 32=u::tl)(Q:eK)(hQ:gm Q)
 (a3:kp true Q u tl)
 (hu:u=wAt)(x1:ak)(aL:∀v a b T W,Q v a b T W->bA x1.data.toList=some (a,b))(aa:CS.ok ⟨A,B,X,Y,EE,L⟩)(w:World)(hk:fE r ⟨A,B,X,Y,EE,L⟩ v0 v1 v2 w):
 Kp 52 #[.pointer (some ⟨r,0,none⟩),t] w (aI r v0 v1 v2 w (gp x1 ⟨A,B,X,Y,EE,L⟩)):=by
 obtain⟨vl,ae,V⟩:=hk;have g0:(u.toList==[99,117,114,118,101])=false:=bg dk;have g1:(u.toList==[115,99,97,108,101])=false:=bg dk;have g2:(u.toList==[112,111,105,110,116])=false:=bg dk;have gY:(u.toList==[97,116])=true:=mx hu rfl;clear hu;obtain⟨R,hR⟩:∃R,gp x1 ⟨A,B,X,Y,EE,L⟩=R:=⟨_,rfl⟩
 rw[hR];have HR:=h_ hR;have HS:=h_ (λw1 (hb:af w w w1)=>@aI.same r v0 v1 v2 vl ⟨A,B,X,Y,EE,L⟩ nD w w1 ae V hb);have HM:=h_ (λx y z W (hb:af w w W)=>mZ r A B X Y EE x y z vl v0 v1 v2 true W (ae.below hb));have HF:=h_ (λx y z w1 e w2 (hb:af w w w1) h=>@aI.move r A B X Y EE L v0 v1 v2 vl w w1 w2 e x y z V hb h);have hC:=aa.1;clear hR aa V;have U:=h_ (gL t 32 w o_);rw[K] at U;have a4:=h_ (jt u);generalize hm:tl.length=m at *;go_enter func52,ntmps52;go_wp2_with fail
 refine U.out.mono ?_;rintro e w1 ⟨v,rfl,ab,I⟩;obtain⟨g,F,rfl,bo,H,a6⟩:=ab.txw s_;have q0:w1.cell? ⟨g,0,none⟩=some (.string u):=H.2 0 s_;simp only[VA,hm] at bo ⊢;go_upto_region 2 with fail
 have bq:=H.1;have b3:0<w1.heap.size:=o_;have a5:=@cS.closed w1 true Q hQ;have bY:=λ(E:av) (hE:aQ E) r9=>@fe.closed w1 true Q hQ E hE r9;have aG:=h_ (λW (hb:af w1 w1 W)=>a3 g F W (H.below hb) o_);clear a3 H;apply jn (λr9 p n c a b T Wz=>w1.heap.size<=r9/\ah r9 #[.slice p n c,.int .i64 a,.int .i64 b,.string T] 98 Wz/\cS w1 true Q p n c a b T Wz)
 .exact mL
 .rintro r9 p n c a b T Wz ⟨bb,k9,aZ,ac,az⟩
  try dsimp only
  have aM:=ag aZ I.size I;have bz:=ae.lt;have J:=ae.below aM;have a8:=Vp bz aM.size;have cm:g<Wz.heap.size:=Vp bq aZ.size;have b2:=(aZ.cell (p:=⟨g,0,none⟩) bq).trans q0;have cc:g≠r:=o_;have bZ:r9≠r:=by have:=I.size;omega
  have⟨c0,c1,c2,c3,b5⟩:=k9.p4;generalize (if F=1 then (some ⟨g,0,none⟩:ck) else some ⟨g,1,none⟩)=ad at *;have bv:=aL _ _ _ _ _ (ac rfl);have bx:Hid (R=de ⟨A,B,X,Y,EE,L⟩ (jH A B a b).head?):=h_ (by rw[<-HR.out];unfold gp;rw[bv]);have H1:=h_ (NM A B a b hC (yU bv));have aF:=@Tb A B a b;have⟨s0,s1⟩:=J.q2;clear ac az q0 U a4 aG;clear hC bv aL hQ ae a5 bY k9 HR;obtain⟨W2,b6⟩:∃W2,W2=Wz:=⟨_,rfl⟩
  subst b6;generalize jH A B a b=PL at *;generalize ks a b=pb at *;rcases PL with _|⟨⟨x,y,z⟩,rest⟩
  .clear aF;go_upto_region 14 with fail
   refine bw [] (λ_=>false) (λ_=>True) (λ_=>True) k_ (trivial) ?_;refine aE ⟨W2,ai.refl _ _,trivial⟩ (cj 6 0) 6 ao aB ?_;refine aD 6 ?_;refine bN (some 81) (λv=>λw'=>∃c:ck×Nat,v=.tuple #[.slice c.1 0 c.2,pb]) (λv=>λ_ _ h _=>h) (λw' hO _=>(H1.out w').mono λe w2 ⟨v,h1,h2,h3⟩=>by obtain⟨x,c,rfl,_⟩:=h2.form;exact⟨_,h1,.of_below h3,(x,c),rfl⟩) (λv hne=>?_);refine ap ?_;obtain⟨w8,b1,⟨x8,c8⟩,rfl⟩:=id hne;refine aE hne (bk 7 5) 0 (λ_ _ h _=>h) aB ?_;refine dn λWz a7 aX=>?_
   try dsimp only
   have bi:=ag a7.below aM.size aM;clear aX hne b1 a7 s0 s1 c0 c1 c2 c3 b2;cases pb
   all_goals
    go_wp2;go_ret;rw[bx.out];exact HS.out _ bi
  .obtain rfl:=aF s_;clear aF;generalize b4:(x,y,z)::rest=PL at *;have ca:(0:Int)<(PL.length:Int):=by rw[<-b4];simp
   have c4:((PL.length:Int)==0)=false:=by rw[VD];omega
   go_upto_region 14 with fail
   refine bw [] (λ_=>false) (λ_=>True) (λ_=>True) k_ (trivial) ?_;refine aE ⟨W2,ai.refl _ _,trivial⟩ (cj 6 0) 6 ao aB ?_;refine aD 6 ?_;refine bN (some 81) (λv=>λw'=>∃c:ck×Nat,v=.tuple #[.slice c.1 PL.length c.2,true]/\bI w' W2.heap.size (.slice c.1 PL.length c.2) PL) (λv=>λ_ _ ⟨c,h1,h2⟩ hb=>⟨c,h1,h2.below hb⟩) (λw' hO _=>(H1.out w').mono λe w2 ⟨v,h1,h2,h3⟩=>by obtain⟨x,c,rfl,_⟩:=h2.form;exact⟨_,h1,.of_below h3,(x,c),rfl,h2.le hO.size⟩) (λv hne=>?_);refine ap ?_;obtain⟨w8,b1,⟨x8,c8⟩,rfl,_⟩:=id hne;refine aE hne (bk 7 5) 0 (λ_ _ ⟨c,h1,h2⟩ hb=>⟨c,h1,h2.below hb⟩) aB ?_;refine dn λWz a7 aX=>?_
   try dsimp only
   have bi:=ag a7.below aM.size aM;obtain⟨c',a2,bX⟩:=aX;have h3:x8=c'.1/\c8=c'.2:=by simpa using a2
   rw[<-h3.1,<-h3.2] at bX;obtain⟨a9,c9,e9,a1⟩:=bX.form;injection e9 with e9 _ ba;subst e9 ba;subst b4;obtain⟨g9,rfl,y0,y1,y2,cT,_⟩:=a1 0 s_;simp only[XI,Nat.zero_mul,V9] at y0 y1 y2;clear hne b1 a7 s0 s1 c0 c1 c2 c3 b2 a1 bX a2 h3;go_wp2_with fail
   refine (HM.out x y z _ bi).mono ?_;intro e w9 G;have HP:=h_ (HF.out x y z _ e w9 bi G);obtain⟨rfl,_,_⟩:=G;go_wp2;go_ret;rw[bx.out];exact HP.out
def pY(h:P:=by rintro rfl;exact h d_):=h
def rY(h:P:=by simp at hc;omega):=h
def G2(h:P:=by
 rw[Vm pY];rw[Vm pY];rw[Vm pY]):=h
def oX(u):(cr u=⟨#[]⟩/\(u=iR\/u=iO\/u=iV\/u=iQ\/u=iM\/u=iS\/u=iU\/u=iK))\/(cr u=⟨#[110]⟩/\(u=iy\/u=it\/u=iu\/u=iw\/u=iA\/u=ir))\/(cr u=⟨#[110,110]⟩/\(u=iz\/u=io\/u=iq))\/(cr u=⟨#[102]⟩/\u=wAt)\/(cr u=⟨#[119]⟩/\u=wPoint)\/cr u=⟨#[63]⟩:=by
 by_cases h0:u=iR
 .subst h0;exact .inl ⟨d_,s_⟩
 by_cases h1:u=iO
 .subst h1;exact .inl ⟨d_,s_⟩
 by_cases h2:u=iV
 .subst h2;exact .inl ⟨d_,s_⟩
 by_cases h3:u=iQ
 .subst h3;exact .inl ⟨d_,s_⟩
 by_cases h4:u=iM
 .subst h4;exact .inl ⟨d_,s_⟩
 by_cases h5:u=iS
 .subst h5;exact .inl ⟨d_,s_⟩
 by_cases h6:u=iU
 .subst h6;exact .inl ⟨d_,s_⟩
 by_cases h7:u=iK
 .subst h7;exact .inl ⟨d_,s_⟩
 by_cases h8:u=iy
 .subst h8;exact .inr (.inl ⟨d_,s_⟩)
 by_cases h9:u=it
 .subst h9;exact .inr (.inl ⟨d_,s_⟩)
 by_cases F:u=iu
 .subst F;exact .inr (.inl ⟨d_,s_⟩)
 by_cases U:u=iw
 .subst U;exact .inr (.inl ⟨d_,s_⟩)
 by_cases H:u=iA
 .subst H;exact .inr (.inl ⟨d_,s_⟩)
 by_cases K:u=ir
 .subst K;exact .inr (.inl ⟨d_,s_⟩)
 by_cases J:u=iz
 .subst J;exact .inr (.inr (.inl ⟨d_,s_⟩))
 by_cases I:u=io
 .subst I;exact .inr (.inr (.inl ⟨d_,s_⟩))
 by_cases V:u=iq
 .subst V;exact .inr (.inr (.inl ⟨d_,s_⟩))
 by_cases g:u=wAt
 .subst g;exact .inr (.inr (.inr (.inl ⟨d_,rfl⟩)))
 by_cases G:u=wPoint
 .subst G;exact .inr (.inr (.inr (.inr (.inl ⟨d_,rfl⟩))))
 refine .inr (.inr (.inr (.inr (.inr ?_))));unfold cr;rw[Vm h0,Vm h1,Vm h2,Vm h3,Vm h4,Vm h5,Vm h6,Vm h7,Vm h8,Vm h9,Vm F,Vm U,Vm H,Vm K,Vm J,Vm I,Vm V,Vm g,Vm G]
def DN(u):(cr u).size<=2:=by
 rcases oX u with ⟨h,_⟩|⟨h,_⟩|⟨h,_⟩|⟨h,_⟩|⟨h,_⟩|h<;>rw[h]<;>decide
def fi(xs:List Int):eK:=λv _ _ _ w=>ar w 0 v xs
def fi.ok(xs):gm (fi xs):=⟨λ_ _ _ _ _ _ h hb=>ar.below h hb,λ_ _ _ _ _ _ _ h Z hn=>ar.over h Z (λg hg hm=>by rw[VE] at hm;subst hm;exact hn hg)⟩
def eL:eK:=λ_ _ _ _ _=>True
def eL.ok:gm eL:=⟨λ_ _ _ _ _ _ _ _=>trivial,λ_ _ _ _ _ _ _ _ _ _=>trivial⟩
def sN(x:ak):eK:=λ_ _ _ T _=>T=x
def sN.ok(x):gm (sN x):=⟨λ_ _ _ _ _ _ h _=>h,λ_ _ _ _ _ _ _ h _ _=>h⟩
def sW(l:List UInt8):eK:=λ_ a b _ _=>bA l=some (a,b)
def sW.ok(l):gm (sW l):=⟨λ_ _ _ _ _ _ h _=>h,λ_ _ _ _ _ _ _ h _ _=>h⟩
def eo.weak{ok}{Q g:eK}{w}{e}{w'}(h:eo ok Q w e w')(hq:∀v a b T,Q v a b T w'->g v a b T w'):eo ok g w e w':=by
 have⟨G,a,b,T,h1,h2,h3,h4⟩:=h;exact⟨G,a,b,T,h1,h2,λhk=>hq _ _ _ _ (h3 hk),h4⟩
def uC{u}{tl}(h:(cr u).size≠tl.length)(hn:tl.length<=3000)(g F)(W)(_:dZ g (u::tl) W)(_:tl.length+1<=F):
 Kp 68 #[.string (cr u),.slice (if F=1 then some ⟨g,0,none⟩ else some ⟨g,1,none⟩) tl.length (F - 1)] W (eo false eL W):=
 N9 (cr u) _ _ _ h (DN u) hn W
def ny{u}(h:cr u=⟨#[]⟩)(g F)(W)(_:dZ g [u] W)(_:([]:bW).length+1<=F):
 Kp 68 #[.string (cr u),.slice (if F=1 then some ⟨g,0,none⟩ else some ⟨g,1,none⟩) ([]:bW).length (F - 1)] W (eo true eL W):=by
 rw[h];exact QL _ _ W
def U9{u x}(h:cr u=⟨#[63]⟩)(g F)(W)(ht:dZ g [u,x] W)(hc:[x].length+1<=F):
 Kp 68 #[.string (cr u),.slice (if F=1 then some ⟨g,0,none⟩ else some ⟨g,1,none⟩) [x].length (F - 1)] W (eo false eL W):=by
 rw[h,Vm rY];exact Qf g _ x W ht.1 (ht.2 1 s_)
def Vb{u x}(h:cr u=⟨#[119]⟩)(g F)(W)(ht:dZ g [u,x] W)(hc:[x].length+1<=F):
 Kp 68 #[.string (cr u),.slice (if F=1 then some ⟨g,0,none⟩ else some ⟨g,1,none⟩) [x].length (F - 1)] W (eo true (sN x) W):=by
 rw[h,Vm rY];exact PH g _ x W ht.1 (ht.2 1 s_)
def Vd{u x}(h:cr u=⟨#[102]⟩)(hx:x.size<=10000)(g F)(W)(ht:dZ g [u,x] W)(hc:[x].length+1<=F):
 Kp 68 #[.string (cr u),.slice (if F=1 then some ⟨g,0,none⟩ else some ⟨g,1,none⟩) [x].length (F - 1)] W (eo (bA x.data.toList).isSome (sW x.data.toList) W):=by
 rw[h,Vm rY];exact PW g _ x hx W ht.1 (ht.2 1 s_)
def L5{u x}(h:cr u=⟨#[110]⟩)(hx:x.size<=10000)(g F)(W)(ht:dZ g [u,x] W)(hc:[x].length+1<=F):
 Kp 68 #[.string (cr u),.slice (if F=1 then some ⟨g,0,none⟩ else some ⟨g,1,none⟩) [x].length (F - 1)] W (eo (cp x).isSome (λv _ _ _ w=>∃n,cp x=some n/\ar w 0 v [n]) W):=by
 rw[h,Vm rY];exact (Qs g _ x hx W ht.1 (ht.2 1 s_)).mono λe w' G=>G.weak λv a b T ⟨n,h1,h2⟩=>⟨n,h1,h2.le (VH _)⟩
def Hi{u x y}(h:cr u=⟨#[110,110]⟩)(hx:x.size<=10000)(hy:y.size<=10000)(g F)(W)(ht:dZ g [u,x,y] W)(hc:[x,y].length+1<=F):
 Kp 68 #[.string (cr u),.slice (if F=1 then some ⟨g,0,none⟩ else some ⟨g,1,none⟩) [x,y].length (F - 1)] W (eo ((cp x).isSome&&(cp y).isSome) (λv _ _ _ w=>∃n m,cp x=some n/\cp y=some m/\ar w 0 v [n,m]) W):=by
 rw[h,Vm rY];exact (Pz g _ x y hx hy W ht.1 (ht.2 1 s_) (ht.2 2 s_)).mono λe w' G=>G.weak λv a b T ⟨n,m,h1,h2,h3⟩=>⟨n,m,h1,h2,h3.le (VH _)⟩
def Uq{u x}{n}(hn:cp x=some n)(h:cr u=⟨#[110]⟩)(hx:x.size<=10000)(g F)(W)(ht:dZ g [u,x] W)(hc:[x].length+1<=F):
 Kp 68 #[.string (cr u),.slice (if F=1 then some ⟨g,0,none⟩ else some ⟨g,1,none⟩) [x].length (F - 1)] W (eo true (fi [n]) W):=by
 have:=L5 h hx g F W ht hc;rw[hn] at this;exact this.mono λe w' G=>G.weak λv a b T ⟨m,h1,h2⟩=>by injection h1 with h1;subst h1;exact h2
def Sx{u x y}{n m}(hn:cp x=some n)(hm:cp y=some m)(h:cr u=⟨#[110,110]⟩)(hx:x.size<=10000)(hy:y.size<=10000)(g F)(W)(ht:dZ g [u,x,y] W)(hc:[x,y].length+1<=F):
 Kp 68 #[.string (cr u),.slice (if F=1 then some ⟨g,0,none⟩ else some ⟨g,1,none⟩) [x,y].length (F - 1)] W (eo true (fi [n,m]) W):=by
 have:=Hi h hx hy g F W ht hc;rw[hn,hm] at this;exact this.mono λe w' G=>G.weak λv a b T ⟨k,l,h1,h2,h3⟩=>by injection h1 with h1;injection h2 with h2;subst h1 h2;exact h3
def Sj{u x}(hn:cp x=none)(h:cr u=⟨#[110]⟩)(hx:x.size<=10000)(g F)(W)(ht:dZ g [u,x] W)(hc:[x].length+1<=F):
 Kp 68 #[.string (cr u),.slice (if F=1 then some ⟨g,0,none⟩ else some ⟨g,1,none⟩) [x].length (F - 1)] W (eo false eL W):=by
 have:=L5 h hx g F W ht hc;rw[hn] at this;exact this.mono λe w' G=>G.weak λ_ _ _ _ _=>trivial
def P5{u x y}(hn:((cp x).isSome&&(cp y).isSome)=false)(h:cr u=⟨#[110,110]⟩)(hx:x.size<=10000)(hy:y.size<=10000)(g F)(W)(ht:dZ g [u,x,y] W)(hc:[x,y].length+1<=F):
 Kp 68 #[.string (cr u),.slice (if F=1 then some ⟨g,0,none⟩ else some ⟨g,1,none⟩) [x,y].length (F - 1)] W (eo false eL W):=by
 have:=Hi h hx hy g F W ht hc;rw[hn] at this;exact this.mono λe w' G=>G.weak λ_ _ _ _ _=>trivial
def mT(r)(s:CS)(v0 v1 v2)(t)(hs:t.size<=3000)(u)(tl)(K:bB t 32=u::tl)(hl:dt (u::tl) s=(cL,s))
 (a3:kp false eL u tl)
 (w)(hk:fE r s v0 v1 v2 w):Kp 52 #[.pointer r,t] w (aI r v0 v1 v2 w (dt (u::tl) s)):=by
 rw[hl];exact Qd r s v0 v1 v2 t hs (by rw[K];simp) u tl K eL eL.ok a3 w hk
def SD(r)(A B X Y E)(L)(v0 v1 v2)(t)(hs:t.size<=3000)(aa:CS.ok ⟨A,B,X,Y,E,L⟩)(w)(ht:TabI w)(hk:fE r ⟨A,B,X,Y,E,L⟩ v0 v1 v2 w)(u)(K:bB t 32=[u]):Kp 52 #[.pointer r,t] w (aI r v0 v1 v2 w (dt [u] ⟨A,B,X,Y,E,L⟩)):=by
 show Kp 52 #[.pointer r,t] w (aI r v0 v1 v2 w (gQ u ⟨A,B,X,Y,E,L⟩));have bi:=K;unfold gQ;by_cases h0:u=iR
 .rw[Vo h0];subst h0;exact Oe r A B X Y E L v0 v1 v2 t hs iR [] K eL eL.ok (ny d_) rfl aa w hk
 rw[Vm h0];by_cases h1:u=iO
 .rw[Vo h1];subst h1;exact Np r A B X Y E L v0 v1 v2 t hs iO [] K eL eL.ok (ny d_) rfl aa w hk
 rw[Vm h1];by_cases h2:u=iV
 .rw[Vo h2];subst h2;exact ly r _ v0 v1 v2 t hs iV [] K eL eL.ok (ny d_) d_ d_ d_ d_ d_ d_ d_ d_ d_ w hk _ (λp n c a b T W hb _=>by obtain⟨vl,g1,g2⟩:=hk;exact PK r A B X Y E L vl v0 v1 v2 p n c a b T aa W (g1.below hb) (g2.below hb))
 rw[Vm h2];by_cases h3:u=iQ
 .rw[Vo h3];subst h3;exact ly r _ v0 v1 v2 t hs iQ [] K eL eL.ok (ny d_) d_ d_ d_ d_ d_ d_ d_ d_ d_ w hk _ (λp n c a b T W hb _=>by obtain⟨vl,g1,g2⟩:=hk;exact OQ r A B X Y E L vl v0 v1 v2 p n c a b T aa W (g1.below hb) (g2.below hb))
 rw[Vm h3];by_cases h4:u=iM
 .rw[Vo h4];subst h4;exact ly r _ v0 v1 v2 t hs iM [] K eL eL.ok (ny d_) d_ d_ d_ d_ d_ d_ d_ d_ d_ w hk _ (λp n c a b T W hb _=>by obtain⟨vl,g1,g2⟩:=hk;exact NC r A B X Y E L vl v0 v1 v2 p n c a b T aa W (g1.below hb) (g2.below hb))
 rw[Vm h4];by_cases h5:u=iS
 .rw[Vo h5];subst h5;exact Pd r A B X Y E L v0 v1 v2 t hs iS [] K eL eL.ok (ny d_) rfl aa w hk
 rw[Vm h5];by_cases h6:u=iU
 .rw[Vo h6];subst h6;exact ly r _ v0 v1 v2 t hs iU [] K eL eL.ok (ny d_) d_ d_ d_ d_ d_ d_ d_ d_ d_ w hk _ (λp n c a b T W hb _=>by obtain⟨vl,g1,g2⟩:=hk;exact Qe r A B X Y E L vl v0 v1 v2 p n c a b T aa W (g1.below hb) (g2.below hb))
 rw[Vm h6];by_cases h7:u=iK
 .rw[Vo h7];subst h7;exact ly r _ v0 v1 v2 t hs iK [] K eL eL.ok (ny d_) d_ d_ d_ d_ d_ d_ d_ d_ d_ w hk _ (λp n c a b T W hb _=>by obtain⟨vl,g1,g2⟩:=hk;exact NQ r A B X Y E L vl v0 v1 v2 p n c a b T aa W (g1.below hb) (g2.below hb))
 rw[Vm h7];have G:dt [u] (⟨A,B,X,Y,E,L⟩:CS)=(cL,⟨A,B,X,Y,E,L⟩):=by show gQ u _=_;unfold gQ;rw[Vm h0,Vm h1,Vm h2,Vm h3,Vm h4,Vm h5,Vm h6,Vm h7]
 have h9:=mT r _ v0 v1 v2 t hs u [] K G (uC (by
  rcases oX u with ⟨_,h⟩|⟨h,_⟩|⟨h,_⟩|⟨h,_⟩|⟨h,_⟩|h
  .exfalso;rcases h with h|h|h|h|h|h|h|h
   .exact h0 h
   .exact h1 h
   .exact h2 h
   .exact h3 h
   .exact h4 h
   .exact h5 h
   .exact h6 h
   .exact h7 h
  all_goals rw[h];decide) (VH _)) w hk
 rw[G] at h9;exact h9
def vp(u x)(s:CS)(h1:u≠wPoint)(h2:u≠wAt):dt [u,x] s=match cp x with|some n=>gs u n s|none=>(cL,s):=(Vm h1).trans (Vm h2)
def B4{u}(n)(s:CS)(h:cr u≠⟨#[110]⟩):gs u n s=(cL,s):=by
 unfold gs;rw[Vm pY,Vm pY,Vm pY];exact G2
def NW{u}(n m)(s:CS)(h:cr u≠⟨#[110,110]⟩):gu u n m s=(cL,s):=by
 unfold gu;exact G2
def UG{u}(h:cr u=⟨#[110]⟩):u=iy\/u=it\/u=iu\/u=iw\/u=iA\/u=ir:=by
 rcases oX u with ⟨h2,_⟩|⟨_,h2⟩|⟨h2,_⟩|⟨h2,_⟩|⟨h2,_⟩|h2
 rotate_left
 .exact h2
 all_goals exact absurd (h.symm.trans h2) d_
def TH{u}(h:cr u=⟨#[110,110]⟩):u=iz\/u=io\/u=iq:=by
 rcases oX u with ⟨h2,_⟩|⟨h2,_⟩|⟨_,h2⟩|⟨h2,_⟩|⟨h2,_⟩|h2
 rotate_left 2
 .exact h2
 all_goals exact absurd (h.symm.trans h2) d_
def Tu{u}(h:(cr u).size=1)(h1:u≠wPoint)(h2:u≠wAt):cr u=⟨#[110]⟩\/cr u=⟨#[63]⟩:=by
 rcases oX u with ⟨h3,_⟩|⟨h3,_⟩|⟨h3,_⟩|⟨_,h3⟩|⟨_,h3⟩|h3
 .rw[h3] at h;exact absurd h d_
 .exact .inl h3
 .rw[h3] at h;exact absurd h d_
 .exact absurd h3 h2
 .exact absurd h3 h1
 .exact .inr h3
def Te{u}(h:(cr u).size=2):cr u=⟨#[110,110]⟩:=by
 rcases oX u with ⟨h3,_⟩|⟨h3,_⟩|⟨h3,_⟩|⟨h3,_⟩|⟨h3,_⟩|h3
 rotate_left 2
 .exact h3
 all_goals (rw[h3] at h;exact absurd h d_)
def SW(r)(A B X Y E)(L)(v0 v1 v2)(t)(hs:t.size<=3000)(aa:CS.ok ⟨A,B,X,Y,E,L⟩)(w)(ht:TabI w)(hk:fE r ⟨A,B,X,Y,E,L⟩ v0 v1 v2 w)(u x)(K:bB t 32=[u,x])(hx:x.size<=10000):Kp 52 #[.pointer r,t] w (aI r v0 v1 v2 w (dt [u,x] ⟨A,B,X,Y,E,L⟩)):=by
 by_cases h1:u=wPoint
 .subst h1;exact N7 r A B X Y E L v0 v1 v2 t hs wPoint [x] K (sN x) (sN.ok x) (Vb d_) rfl x hx (λ_ _ _ _ _ h=>h) aa w hk
 by_cases h2:u=wAt
 .subst h2;have hr:=@Vd wAt x d_ hx;cases hf:bA x.data.toList with
  |none=>
   rw[hf] at hr;refine mT r _ v0 v1 v2 t hs wAt [x] K ?_ (λg F W q1 q2=>(hr g F W q1 q2).mono λe w' G=>G.weak λ_ _ _ _ _=>trivial) w hk;show gp x _=_;unfold gp;rw[hf]
  |some q=>
   rw[hf] at hr;exact Rt r A B X Y E L v0 v1 v2 t hs wAt [x] K (sW x.data.toList) (sW.ok _) hr rfl x (λ_ _ _ _ _ h=>h) aa w hk
 by_cases hz:(cr u).size=1
 .rcases Tu hz h1 h2 with ba|ba
  .cases hn:cp x with
   |none=>exact mT r _ v0 v1 v2 t hs u [x] K (by rw[vp u x _ h1 h2,hn]) (Sj hn ba hx) w hk
   |some n=>
    rw[vp u x _ h1 h2,hn];have hr:=Uq hn ba hx;show Kp 52 #[.pointer r,t] w (aI r v0 v1 v2 w (gs u n ⟨A,B,X,Y,E,L⟩));unfold gs;by_cases g0:u=iy
    .rw[Vo g0];subst g0;exact Oq r A B X Y E L v0 v1 v2 t hs iy [x] K (fi [n]) (fi.ok _) hr rfl n (λ_ _ _ _ _ h=>h) aa w hk
    rw[Vm g0];by_cases g1:u=it
    .rw[Vo g1];subst g1;exact On r A B X Y E L v0 v1 v2 t hs it [x] K (fi [n]) (fi.ok _) hr rfl n (λ_ _ _ _ _ h=>h) aa w hk
    rw[Vm g1];by_cases g2:u=iu
    .rw[Vo g2];subst g2;exact ly r _ v0 v1 v2 t hs iu [x] K (fi [n]) (fi.ok _) hr d_ d_ d_ d_ d_ d_ d_ d_ d_ w hk _ (λp n2 c a b T W hb hq=>by obtain⟨vl,g1,g2⟩:=hk;exact OM r A B X Y E n L vl v0 v1 v2 _ 0 a b T aa W (g1.below hb) (g2.below hb) hq)
    rw[Vm g2];by_cases g3:u=iw
    .rw[Vo g3];subst g3;exact ly r _ v0 v1 v2 t hs iw [x] K (fi [n]) (fi.ok _) hr d_ d_ d_ d_ d_ d_ d_ d_ d_ w hk _ (λp n2 c a b T W hb hq=>by obtain⟨vl,g1,g2⟩:=hk;exact Pb r A B X Y E n L vl v0 v1 v2 _ 0 a b T aa W (g1.below hb) (g2.below hb) hq)
    rw[Vm g3];by_cases g4:u=iA
    .rw[Vo g4];subst g4;exact ly r _ v0 v1 v2 t hs iA [x] K (fi [n]) (fi.ok _) hr d_ d_ d_ d_ d_ d_ d_ d_ d_ w hk _ (λp n2 c a b T W hb hq=>by obtain⟨vl,g1,g2⟩:=hk;exact P7 r A B X Y E n L vl v0 v1 v2 _ 0 a b T aa W (g1.below hb) (g2.below hb) hq)
    rw[Vm g4];by_cases g5:u=ir
    .rw[Vo g5];subst g5;exact ly r _ v0 v1 v2 t hs ir [x] K (fi [n]) (fi.ok _) hr d_ d_ d_ d_ d_ d_ d_ d_ d_ w hk _ (λp n2 c a b T W hb hq=>by obtain⟨vl,g1,g2⟩:=hk;exact Oa r A B X Y E n L vl v0 v1 v2 _ 0 a b T aa W (g1.below hb) (g2.below hb) hq)
    rw[Vm g5];exfalso;rcases UG ba with h|h|h|h|h|h
    .exact g0 h
    .exact g1 h
    .exact g2 h
    .exact g3 h
    .exact g4 h
    .exact g5 h
  .refine mT r _ v0 v1 v2 t hs u [x] K ?_ (U9 ba) w hk;rw[vp u x _ h1 h2];cases cp x with
   |none=>rfl
   |some n=>exact B4 n _ (by rw[ba];decide)
 .refine mT r _ v0 v1 v2 t hs u [x] K ?_ (uC hz s_) w hk;rw[vp u x _ h1 h2];cases cp x with
  |none=>rfl
  |some n=>exact B4 n _ (by intro h9;apply hz;rw[h9];rfl)
def Gw(u x y)(s:CS):dt [u,x,y] s=match cp x,cp y with|some a,some b=>gu u a b s|_,_=>(cL,s):=rfl
def SV(r)(A B X Y E)(L)(v0 v1 v2)(t)(hs:t.size<=3000)(aa:CS.ok ⟨A,B,X,Y,E,L⟩)(w)(ht:TabI w)(hk:fE r ⟨A,B,X,Y,E,L⟩ v0 v1 v2 w)(u x y)(K:bB t 32=[u,x,y])(hx:x.size<=10000)(hy:y.size<=10000):Kp 52 #[.pointer r,t] w (aI r v0 v1 v2 w (dt [u,x,y] ⟨A,B,X,Y,E,L⟩)):=by
 have g:cr u≠⟨#[110,110]⟩\/((cp x).isSome&&(cp y).isSome)=false->dt [u,x,y] (⟨A,B,X,Y,E,L⟩:CS)=(cL,⟨A,B,X,Y,E,L⟩):=by
  intro h;rw[Gw];cases hx:cp x with
  |none=>rfl
  |some a=>
   cases hy:cp y with
   |none=>rfl
   |some b=>
    rcases h with h|h
    .exact NW a b _ h
    .rw[hx,hy] at h;simp at h
 by_cases hz:(cr u).size=2
 .have ba:=Te hz;cases hb:((cp x).isSome&&(cp y).isSome)
  .exact mT r _ v0 v1 v2 t hs u [x,y] K (g (.inr hb)) (P5 hb ba hx hy) w hk
  .simp only[VB,Xe] at hb;have⟨⟨n,hn⟩,⟨m,hm⟩⟩:=hb;rw[Gw,hn,hm];have hr:=Sx hn hm ba hx hy;show Kp 52 #[.pointer r,t] w (aI r v0 v1 v2 w (gu u n m ⟨A,B,X,Y,E,L⟩));unfold gu;by_cases g0:u=iz
   .rw[Vo g0];subst g0;exact OD r A B X Y E L v0 v1 v2 t hs iz [x,y] K (fi [n,m]) (fi.ok _) hr rfl n m (λ_ _ _ _ _ h=>h) aa w hk
   rw[Vm g0];by_cases g1:u=io
   .rw[Vo g1];subst g1;exact ly r _ v0 v1 v2 t hs io [x,y] K (fi [n,m]) (fi.ok _) hr d_ d_ d_ d_ d_ d_ d_ d_ d_ w hk _ (λp n2 c a b T W hb hq=>by obtain⟨vl,g1,g2⟩:=hk;exact PJ r A B X Y E n m L vl v0 v1 v2 _ 0 a b T W (ht.below hb) (g1.below hb) (g2.below hb) hq)
   rw[Vm g1];by_cases g2:u=iq
   .rw[Vo g2];subst g2;exact Nx r A B X Y E L v0 v1 v2 t hs iq [x,y] K (fi [n,m]) (fi.ok _) hr rfl n m (λ_ _ _ _ _ h=>h) aa w hk
   rw[Vm g2];exfalso;rcases TH ba with h|h|h
   .exact g0 h
   .exact g1 h
   .exact g2 h
 .exact mT r _ v0 v1 v2 t hs u [x,y] K (g (.inl (by intro h9;apply hz;rw[h9];rfl))) (uC hz s_) w hk
def TW(r)(s:CS)(v0 v1 v2)(t:ak)(hs:t.size<=2900)(aa:s.ok)(w)(ht:TabI w)(hk:fE r s v0 v1 v2 w):
 Kp 52 #[.pointer r,t] w (aI r v0 v1 v2 w (dt (bB t 32) s)):=by
 have⟨A,B,X,Y,E,L⟩:=s;have hl:=yd t 32;have hz:=xP t 32;obtain⟨V,G⟩:∃V,bB t 32=V:=⟨_,rfl⟩
 rw[G] at hl hz ⊢
 match V,G,hl,hz with
 |[],_,hl,_=>simp at hl
 |[u],G,_,_=>exact SD r A B X Y E L v0 v1 v2 t o_ aa w ht hk u G
 |[u,x],G,_,hz=>exact SW r A B X Y E L v0 v1 v2 t o_ aa w ht hk u x G (by have:=hz x s_;omega)
 |[u,x,y],G,_,hz=>exact SV r A B X Y E L v0 v1 v2 t o_ aa w ht hk u x y G (by have:=hz x s_;omega) (by have:=hz y s_;omega)
 |u::x::y::z::tl,G,hl,_=>
  refine mT r _ v0 v1 v2 t o_ u (x::y::z::tl) G rfl (uC (by have:=DN u;simp;omega) (by simp at hl ⊢;omega)) w hk
def AO(h:P:=by intro k hk;rw[VE] at hk;exact .inl hk):=h
def Lv(h:P:=by
 rw[HB.out];by_cases g:cntN s<=40
 .rw[show decide ((cntN s:Int)<=40)=true from Xn o_];go_enter func48,ntmps48;go_wp2_with fail
  refine HC.out.mono ?_;rintro e w1 ⟨a,F,rfl,bo,I,V⟩;go_wp2;go_ret2;exact wD.mk V I
 .rw[show decide ((cntN s:Int)<=40)=false from We o_];go_enter func48,ntmps48;go_wp2_with fail
  refine HC.out.mono ?_;rintro e w1 ⟨a,F,rfl,bo,I,V⟩;go_wp2;go_ret2;exact⟨_,_,_,rfl,I,λh=>by cases h⟩):=h
def Jg(h:P:=by
 go_enter func48,ntmps48;go_wp2_with fail
 go_ret2;exact⟨none,0,0,rfl,Vn _ _,λh=>by cases h⟩):=h
def Iv(h:P:=by
 exact bb.over F (λg hg hm=>by have:=(fR bb g hg).1;rw[VE] at hm;omega)):=h
def wD(w:World)(b:Bool)(L:bW)(e:Ending)(w':World):Prop:=
 ∃a n F,e=.returned (.tuple #[.slice a n F,b])/\af w w w'/\(b=true->n=L.length/\∀i (_:i<L.length),∃g,a=some ⟨g,0,none⟩/\g<w'.heap.size/\w.heap.size<=g/\w'.cell? ⟨g,i,none⟩=some (.string L[i]))
def wD.mk{w w1}{s}{a}{F}(h:cU w1 w.heap.size (.slice a (cntN s+1) F) (bB s 10))(hb:af w.heap.size w w1):wD w true (cV s) (.returned (.tuple #[.slice a (cntN s) F,true])) w1:=by
 refine⟨a,_,F,rfl,hb,λ_=>⟨by rw[ur];rfl,λi hi=>?_⟩⟩;have bZ:i<(bB s 10).length:=by unfold cV at hi;rw[List.length_dropLast] at hi;omega
 have⟨a',c',e1,_,hf⟩:=h.form;injection e1 with e1;subst e1;obtain⟨g,rfl,h1,_,h3,h4⟩:=hf i bZ;refine⟨g,rfl,h3,h4,?_⟩;have e2:(cV s)[i]=(bB s 10)[i]:=by simp [cV]
 rw[h1,e2]
def QT(s:ak)(w)(hs:s.size<=2000):
 Kp 61 #[s,.int .u8 10] w λe w'=>∃a F,e=.returned (.slice a (cntN s+1) F)/\cntN s+1<=F/\af w w w'/\cU w' w (.slice a (cntN s+1) F) (bB s 10):=by
 refine (gL s 10 w o_).mono ?_;rintro e w' ⟨v,rfl,Z,hb⟩;obtain⟨a,F,rfl,hc,_⟩:=id Z.form;have hl:(bB s 10).length=cntN s+1:=xr s 10;rw[hl] at Z hc ⊢;exact⟨a,F,rfl,hc,hb,Z⟩
def qJ(s:ak)(w)(hs:s.size<=100000000):
 Kp 48 #[s] w (wD w (bf s) (cV s)):=by
 have hl:s.toList.length=s.size:=by rw[Vw];exact Vy
 by_cases h2:s.size<=2000
 rotate_left
 .have HB:Hid (bf s=false):=by show _=_;unfold bf;simp;intro h9;omega
  rw[HB.out];exact Jg
 have hc:=Ef s;have HC:=h_ (QT s w h2);have good:(s.toList.isEmpty||i_ s)=true->bf s=decide ((cntN s:Int)<=40):=by
  intro h9;unfold bf;rw[h9];have:(s.size:Int)<=2000:=o_
  simp [this]
 have HG:=h_ good;cases h0:s.toList.isEmpty
 .have G:0<s.size:=by
   rcases Nat.eq_zero_or_pos s.size with h|h
   .rw[h] at hl;have:=VY.1 hl;rw[this] at h0;simp at h0
   .exact h
  have aL:s.size - 1<s.size:=o_;have H:=P_ s aL;have K:¬s.toList=[]:=by intro h9;rw[h9] at h0;simp at h0
  cases h1:((s[s.size - 1].toNat:Int)==10)
  .have HB:Hid (bf s=false):=by
    show _=_;have:i_ s=false:=by
     rw[H,Bool.eq_false_iff];intro h9;have h8:=by simpa using h9
     rw[h8] at h1;simp at h1
    unfold bf;rw[this,h0];simp
   rw[HB.out];have ab:((s[s.size - 1].toNat:Int) != 10)=true:=by simp [bne,h1]
   exact Jg
  .have bb:i_ s=true:=by
    rw[H];have h9:=by simpa using h1
    have h8:s[s.size - 1].toNat=(10:UInt8).toNat:=by show s[s.size - 1].toNat=10;omega
    rw[(Xs.1 h8)];rfl
   have HB:Hid (bf s=decide ((cntN s:Int)<=40)):=HG.out (by rw[bb];simp);have ab:((s[s.size - 1].toNat:Int) != 10)=false:=by simp [bne,h1]
   exact Lv
 .have HB:Hid (bf s=decide ((cntN s:Int)<=40)):=HG.out (by rw[h0];rfl);have K:=by simpa using h0
  exact Lv
def CD(w):Kp 51 #[] w λe w'=>e=.returned (.pointer w)/\cJ w (-16) 16 0 4 1 (.slice none 0 0) (.slice none 0 0) (.slice none 0 0) () w'/\af w w w':=by
 go_enter func51,ntmps51;go_wp2;go_ret;exact⟨rfl,ah.new _ _ _,(Vn _ _).alloc (Vj _) _⟩
def BH{ops}{rest}{o}{a}{Q}{wr:World}{y:Int}(aa:o.guard=none)(s x)
 (Z:o.op=.call {callee:=.builtin .append,args:=#[s,x],argTypes:=#[22,22]})
 (G)(v)(xs)(hs:a.eval s=v)(V:ar wr G v xs)(hx:a.eval x=.slice wr 1 1)
 (ae:xs.length<1000000)(H:G<=wr.heap.size)
 (h:∀v' w1,ar w1 G v' (xs++[y])->ai v.ownBlock.toList wr w1->(v'.ownBlock=v.ownBlock\/∃k,v'.ownBlock=some k/\wr.heap.size<=k)->wpList prog ops Q rest (a.put o.dst v') w1):
 wpList prog ops Q (o::rest) a (wr.alloc (.cells #[y] 3)):=by
 refine B1 3 22 1 8 () aa s x Z Tryz.infoI underlying22 rfl d_ d_ G v xs.length (xs.map (Value.int .i64)) hs V [.int .i64 y] rfl (by intro u hu;simp at hu;subst hu;rfl) hx ae H ?_;intro v' w1 h1 h2 _ h4;refine h v' w1 ?_ h2 h4;unfold ar;rw[VI,Xi];exact h1
def cq(t:ak):Bool:=t.toList==[110,111]
def cE(t:ak):Bool:=t.toList==[119,104,97,116]
def ti(K:bW)(w:World)(e:Ending)(w':World):Prop:=
 ∃r A B X Y E L reps vl v0 v1,e=.returned (.tuple #[.pointer (some ⟨r,0,none⟩),.string (eu reps),true])/\b_ K dC=(reps,(⟨A,B,X,Y,E,L⟩:CS))/\cJ r A B X Y E vl v0 v1 (.int .i64 reps.length) w'/\an w' (r+1) vl L/\ar w' (r+1) v0 (bC cq reps)/\ar w' (r+1) v1 (bC cE reps)/\w.heap.size<=r/\af w w w'
structure fT (w:World)(S r:Nat)(s:CS)(reps:List ByteArray)(v0 v1:Value)(wr:World):Prop where
 below:af w w wr
 st:fE r s v0 v1 () wr
 no:ar wr S v0 (bC cq reps)
 what:ar wr S v1 (bC cE reps)
 size:S<=wr.heap.size
 apart:∀k,v0.ownBlock=some k->v1.ownBlock≠some k
def jr{v:Value}{k}(hm:k∈v.ownBlock.toList):v.ownBlock=some k:=by
 exact GT
def ar.neE{w}{b b' k}{v v'}{xs}{L}(h:ar w b v xs)(J:an w b' v' L)(hk:v'.ownBlock=some k):k∉v.ownBlock.toList:=by
 intro hm;have⟨c1,h1⟩:=rg h k (jr hm);have⟨c2,h2⟩:=rg J k hk;unfold ah at h1 h2;rw[h1] at h2;simp at h2
def DG{T}(h:cq T=true):cE T=false:=by
 unfold cq at h;unfold cE;have h2:=by simpa using h
 rw[h2];rfl
section
variable {w wr w3 w4:World}{S r:Nat}{sk s9:CS}{reps:bW}{T:ak}{v0 v1 v':Value}
def fT.next3(hI:fT w S r sk reps v0 v1 wr)(bZ:r<S)(aF:w.heap.size<=r)(ab:ai [r] wr w3):af w w w3/\ar w3 S v0 (bC cq reps)/\ar w3 S v1 (bC cE reps)/\S<=w3.heap.size:=
 ⟨ab.belowGe hI.below hI.below.size iB,
  hI.no.over ab (λg hg hm=>by have:=(fR hI.no g hg).1;rw[VE] at hm;omega),
  hI.what.over ab (λg hg hm=>by have:=(fR hI.what g hg).1;rw[VE] at hm;omega),
  Vl hI.size ab.size⟩
def fT.elseStep(hI:fT w S r sk reps v0 v1 wr)(bZ:r<S)(aF:w.heap.size<=r)(ab:ai [r] wr w3)(H:fE r s9 v0 v1 () w3)(hn:cq T=false)(G:cE T=false):fT w S r s9 (reps++[T]) v0 v1 w3:=by
 have⟨h1,h2,h3,h4⟩:=hI.next3 bZ aF ab;refine⟨h1,H,?_,?_,h4,hI.apart⟩
 .rw[jX,hn];exact h2
 .rw[jX,G];exact h3
def fT.blk4(h:ar w3 S v0 (bC cq reps))(bZ:r<S){A B X Y E}{vl g u1 u2}(bo:ai v0.ownBlock.toList w3 w4)(hk:cJ r A B X Y E vl g u1 u2 w3):cJ r A B X Y E vl g u1 u2 w4:=
 ah.over hk bo (λhm=>by have:=(fR h r (jr hm)).1;omega)
def fT.blk5(h:ar w3 S v0 (bC cE reps))(bZ:r<S){A B X Y E}{vl g u1 u2}(bo:ai v0.ownBlock.toList w3 w4)(hk:cJ r A B X Y E vl g u1 u2 w3):cJ r A B X Y E vl g u1 u2 w4:=
 ah.over hk bo (λhm=>by have:=(fR h r (jr hm)).1;omega)
def fT.noStep(hI:fT w S r sk reps v0 v1 wr)(bZ:r<S)(aF:w.heap.size<=r)(ab:ai [r] wr w3)(H:fE r s9 v0 v1 () w3)
 (bb:ar w4 S v' (bC cq reps++[(reps.length:Int)+1]))(bo:ai v0.ownBlock.toList w3 w4)(bY:v'.ownBlock=v0.ownBlock\/∃k,v'.ownBlock=some k/\w3.heap.size<=k)(hn:cq T=true):
 fT w S r s9 (reps++[T]) v' v1 (w4.setCell ⟨r,6,none⟩ v'):=by
 have⟨h1,h2,h3,h4⟩:=hI.next3 bZ aF ab;have F:ai [r] w4 (w4.setCell ⟨r,6,none⟩ v'):=(ai.refl [r] w4).setCell (.inr s_) v';have K:=bo.belowGe h1 h1.size (by intro k hk;have:=(fR h2 k (jr hk)).1;omega);have d0:=F.size;have⟨vl,hk,Z⟩:=H;refine⟨F.belowGe K K.size iB,⟨vl,(fT.blk4 h2 bZ bo hk).set 6 v',(Z.over bo (λk hk=>h2.neE Z hk)).past F⟩,?_,?_,by have:=bo.size;omega,?_⟩
 .rw[jX,hn];exact Iv
 .rw[jX,DG hn];exact (h3.over bo (λg hg hm=>hI.apart g (jr hm) hg)).over F (λg hg hm=>by have:=(fR h3 g hg).1;rw[VE] at hm;omega)
 .intro k hk h9;rcases bY with h|⟨k',h,J⟩
  .exact hI.apart k (h▸hk) h9
  .rw[h] at hk;injection hk with hk;have:=(fR h3 k h9).2;omega
def fT.whatStep(hI:fT w S r sk reps v0 v1 wr)(bZ:r<S)(aF:w.heap.size<=r)(ab:ai [r] wr w3)(H:fE r s9 v0 v1 () w3)
 (bb:ar w4 S v' (bC cE reps++[(reps.length:Int)+1]))(bo:ai v1.ownBlock.toList w3 w4)(bY:v'.ownBlock=v1.ownBlock\/∃k,v'.ownBlock=some k/\w3.heap.size<=k)(hn:cq T=false)(G:cE T=true):
 fT w S r s9 (reps++[T]) v0 v' (w4.setCell ⟨r,7,none⟩ v'):=by
 have⟨h1,h2,h3,h4⟩:=hI.next3 bZ aF ab;have F:ai [r] w4 (w4.setCell ⟨r,7,none⟩ v'):=(ai.refl [r] w4).setCell (.inr s_) v';have K:=bo.belowGe h1 h1.size (by intro k hk;have:=(fR h3 k (jr hk)).1;omega);have d0:=F.size;have⟨vl,hk,Z⟩:=H;refine⟨F.belowGe K K.size iB,⟨vl,(fT.blk5 h3 bZ bo hk).set 7 v',(Z.over bo (λk hk=>h3.neE Z hk)).past F⟩,?_,?_,by have:=bo.size;omega,?_⟩
 .rw[jX,hn];exact (h2.over bo (λg hg hm=>hI.apart g hg (jr hm))).over F (λg hg hm=>by have:=(fR h2 g hg).1;rw[VE] at hm;omega)
 .rw[jX,G];exact Iv
 .intro k hk h9;rcases bY with h|⟨k',h,J⟩
  .exact hI.apart k hk (h▸h9)
  .rw[h] at h9;injection h9 with h9;have:=(fR h2 k hk).2;omega
def tc(S r:Nat)(a:ck)(K:bW)(w:World):Prop:=∀i (_:i<K.length),∃g,a=some ⟨g,0,none⟩/\g<S/\r<g/\w.cell? ⟨g,i,none⟩=some (.string K[i])
def tc.over{a}{K}{ex:List Nat}(h:tc S r a K wr)(Z:ai ex wr w3)(hz:S<=wr.heap.size)(hx:∀k∈ex,k=r\/S<=k):tc S r a K w3:=λi hi=>by
 have⟨g,h1,h2,h3,h4⟩:=h i hi;exact⟨g,h1,h2,h3,(Z.cell (p:=⟨g,i,none⟩) (by show g<_;omega) (λhm=>by rcases hx g hm with h|h<;>omega)).trans h4⟩
end
def rq(s)(hs:s.size<=1048576)(aF:bf s=true)(w)(ht:TabI w):
 Kp 39 #[s] w (ti (cV s) w):=by
 have a6:s.size<=2000:=by
  exact Gn
 have b0:(cV s).length<=40:=by
  exact Jm
 have hH:=λW=>qJ s W o_;rw[aF] at hH;have bv:=Dx s;generalize cV s=K at *;go_enter func39,ntmps39;go_wp2_with fail
 refine (h_ (CD w)).out.mono ?_;rintro e w1 ⟨rfl,k1,I⟩;have b4:=k1.lt;go_wp2_with fail
 refine ((h_ hH).out w1).mono ?_;rintro e w2 ⟨a,n,F,rfl,U,b3⟩;obtain⟨rfl,a7⟩:=b3 rfl;replace k1:=k1.below U;have aL:=ag U I.size I;have bp:=Vp b4 U.size;have cG:∀i (_:i<K.length),∃g,a=some ⟨g,0,none⟩/\g<w2.heap.size/\w.heap.size<g/\w2.cell? ⟨g,i,none⟩=some (.string K[i]):=λi hi=>by
  have⟨g,h1,h2,h3,h4⟩:=a7 i hi;exact⟨g,h1,h2,o_,h4⟩
 have b5:fT w w2 w dC [] (.slice none 0 0) (.slice none 0 0) w2:=⟨aL,⟨.slice none 0 0,k1,an.nil _ _⟩,ar.nil _ _,ar.nil _ _,Vj _,λk hk=>by cases hk⟩
 have bZ:=bp;generalize bi:w2.heap.size=S at *;go_wp2_with fail
 have cG:tc S w a K w2:=cG;go_loopw [8,23] (λov iv wr=>∃(k:Nat) (v0 v1:Value),ov=.string (eu (b_ (K.take k) dC).1)/\iv=.int .i64 k/\k<=K.length/\fT w S w (b_ (K.take k) dC).2 (b_ (K.take k) dC).1 v0 v1 wr/\tc S w a K wr) (λ_ iv _=>K.length - (intOf iv).toNat)
 case atStart=>exact⟨0,.slice none 0 0,.slice none 0 0,rfl,rfl,VH _,b5,cG⟩
 case round=>
  obtain⟨k,v0,v1,rfl,rfl,b2,hI,hL⟩:=hrel;by_cases aG:k<K.length
  .obtain⟨g,rfl,b6,bq,q0⟩:=hL k aG;have a4:=h_ (CU K k aG dC);have aa:=ru pz (K.take k);have a3:=pk dC (K.take k);have bX:=Rb pz (K.take k) ot;have hT:=B8 aa (bB K[k] 32);have az:=bv K[k] (VC aG);generalize b_ (K.take k) dC=q at *;have⟨reps,sk⟩:=q;simp only at a4 aa a3 bX hI hT;have aM:reps.length=k:=by rw[a3,VM];omega
   have HC:=h_ (TW w sk v0 v1 () K[k] o_ aa wr (ht.below hI.below) hI.st);generalize K[k]=x at *;generalize dt (bB x 32) sk=R0 at *;have⟨T,s9⟩:=R0;simp only at a4 hT;have ba:(⟨#[10]⟩:ak).size=1:=rfl;have a5:=λw=>Vr (P:=prog) w T ⟨#[10]⟩ o_;have a8:=λw=>Vr (P:=prog) w (eu reps) (T++⟨#[10]⟩) (by rw[Vu];omega);have bs:=h_ (qO reps T);have cz:=lL cq reps;have cc:=lL cE reps;generalize eu reps=out at *;go_wp2_with fail
   refine HC.out.mono ?_;rintro e w3 ⟨rfl,ab,H⟩;have a2:=hI.next3 (Ye bq b6) (Vj _) ab;have bz:=hL.over ab hI.size AO;cases hn:cq T
   .cases G:cE T
    .unfold cq at hn;unfold cE at G;go_wp2;go_roundw
     case rel=>exact⟨k+1,v0,v1,by rw[a4.out,bs.out],by go_num,o_,by rw[a4.out];exact (h_ (hI.elseStep (Ye bq b6) (Vj _) ab H hn G)).out,bz⟩
     case measure=>exact aJ
    .obtain⟨a1,c1,rfl,_⟩:=id (ar.form a2.2.2.1);have⟨vl,b7,_⟩:=id H;have⟨_,_,_,_,_,_,_,co⟩:=b7.q8;have ac:=h_ (λv' w4 (bb:ar w4 S v' (bC cE reps++[(k:Int)+1])) bo bY=>hI.whatStep (Ye bq b6) (Vj _) ab H (by rw[aM];exact bb) bo bY hn G);unfold cq at hn;unfold cE at G;have aX:(bC cE reps).length<1000000:=o_;have b1:=Ye bq b6;have V:=a2.2.2.1;have Z:=a2.2.2.2;go_wp2_with (at_builtin;refine BH (y:=(k:Int)+1) rfl _ _ rfl S _ (bC cE reps) rfl V rfl aX Z ?_;intro v' w4 bb bo aZ;have J:=h_ (ac.out v' w4 bb bo aZ);have bx:=(bz.over bo Z (λk hk=>.inr (fR V k (jr hk)).1));have b9:=bo.size;obtain⟨a9,c9,rfl,_⟩:=id (ar.form bb);have k4:=fT.blk5 V b1 bo b7;have f4:=k4.frozen 7;have s4:w4.cell? ⟨w,7,none⟩=some _:=k4.cell 7;have cu:=k4.lt;clear bb bo aZ k4)
     go_roundw
     case rel=>exact⟨k+1,v0,.slice a9 ((bC cE reps).length+1) c9,by rw[a4.out,bs.out],by go_num,o_,by rw[a4.out];have h9:=J.out;simpa only[VI,VA,Wf,V9] using h9,bx.over ((ai.refl [w.heap.size] w4).setCell (.inr s_) _) (Vl Z b9) AO⟩
     case measure=>exact aJ
   .obtain⟨a1,c1,rfl,_⟩:=id (ar.form a2.2.1);have⟨vl,b7,_⟩:=id H;have⟨_,_,_,_,_,_,co⟩:=b7.q7;have ac:=h_ (λv' w4 (bb:ar w4 S v' (bC cq reps++[(k:Int)+1])) bo bY=>hI.noStep (Ye bq b6) (Vj _) ab H (by rw[aM];exact bb) bo bY hn);unfold cq at hn;have aX:(bC cq reps).length<1000000:=o_;have V:=a2.2.1;have Z:=a2.2.2.2;go_wp2_with (at_builtin;refine BH (y:=(k:Int)+1) rfl _ _ rfl S _ (bC cq reps) rfl V rfl aX Z ?_;intro v' w4 bb bo aZ;have J:=h_ (ac.out v' w4 bb bo aZ);have bx:=(bz.over bo Z (λk hk=>.inr (fR V k (jr hk)).1));have b9:=bo.size;obtain⟨a9,c9,rfl,_⟩:=id (ar.form bb);have k4:=fT.blk4 V (Ye bq b6) bo b7;have f4:=k4.frozen 6;have s4:w4.cell? ⟨w,6,none⟩=some _:=k4.cell 6;have cu:=k4.lt;clear bb bo aZ k4)
    go_roundw
    case rel=>exact⟨k+1,.slice a9 ((bC cq reps).length+1) c9,v1,by rw[a4.out,bs.out],by go_num,o_,by rw[a4.out];have h9:=J.out;simpa only[VI,VA,Wf,V9] using h9,bx.over ((ai.refl [w.heap.size] w4).setCell (.inr s_) _) (Vl Z b9) AO⟩
    case measure=>exact aJ
  .obtain rfl:k=K.length:=o_
   rw[Wa] at hI;obtain⟨reps,A,B,X,Y,E,L,hq⟩:∃reps A B X Y E L,b_ K dC=(reps,(⟨A,B,X,Y,E,L⟩:CS)):=⟨_,_,_,_,_,_,_,rfl⟩
   have a3:=pk dC K;rw[Wa];rw[hq] at hI a3 ⊢;have⟨vl,hk,ae⟩:=id hI.st;have z8:=hk.frozen 8;have⟨_,_,_,_,_,_,_,_,s8⟩:=hk.q9;have k9:=hk.set 8 K.length;have ax:ai [w.heap.size] wr (wr.setCell ⟨w,8,none⟩ K.length):=(ai.refl _ wr).setCell (.inr s_) _;have ad:=ax.belowGe hI.below hI.below.size iB;have cb:=ae.past ax;have cm:w.heap.size+1<=S:=bZ;have ca:=(hI.no.over ax (λg hg hm=>by have:=(fR hI.no g hg).1;rw[VE] at hm;omega)).le cm;have b8:=(hI.what.over ax (λg hg hm=>by have:=(fR hI.what g hg).1;rw[VE] at hm;omega)).le cm;go_wp2;go_ret3;have⟨h1,h2,h3,h4,h5⟩:=(h_ (And.intro k9 (And.intro cb (And.intro ca (And.intro b8 ad))))).out;refine⟨w,A,B,X,Y,E,L,reps,vl,v0,v1,rfl,(h_ hq).out,?_,h2,h3,h4,Vj _,h5⟩;have:=(h_ a3).out;rw[this];exact h1
def qM(s)(hs:s.size<=1048576)(aF:bf s=false)(w):
 Rv 39 #[s] w (.tuple #[.pointer w,.string ⟨#[]⟩,false]):=by
 have hH:=λW=>qJ s W o_;rw[aF] at hH;go_enter func39,ntmps39;go_wp2_with fail
 refine (h_ (CD w)).out.mono ?_;rintro e w1 ⟨rfl,k1,I⟩;go_wp2_with fail
 refine ((h_ hH).out w1).mono ?_;rintro e w2 ⟨a,n,F,rfl,U,b3⟩;go_wp2;go_ret3;exact⟨rfl,(ag U I.size I)⟩
noncomputable def bJ(s:ak):bW:=if bf s then (b_ (cV s) dC).1 else []
noncomputable def eA(s:ak):CS:=if bf s then (b_ (cV s) dC).2 else ⟨0,0,0,0,0,[]⟩
def mr(s):(bJ s).length<=40:=by
 unfold bJ;split
 .rename_i h;rw[pk,ur];unfold bf at h;simp at h;have:=h.2;unfold cntN Lib.countByte at this;omega
 .simp
def pd(s):∀r∈bJ s,r.size<=500:=by
 unfold bJ;split
 .exact CX pz _
 .intro r hr;simp at hr
def PI(L:bW)(k)(h:k<L.length):eu (L.take (k+1))=eu (L.take k)++(L[k]++⟨#[10]⟩):=by
 rw[VF h,qO]
def Tv{L:bW}(hl:L.length<=40)(hs:∀r∈L,r.size<=500)(k):(eu (L.take k)).size<=30000:=by
 have h1:=Dc 500 (L.take k) (λr hr=>hs r (Xc hr));have h2:(L.take k).length<=40:=by rw[VM];omega
 have:=WE 501 h2;omega
def oE(s:ak)(w:World)(e:Ending)(w':World):Prop:=
 ∃A B X Y E L vl vr,e=.returned (.tuple #[.agg #[.int .i64 A,.int .i64 B,.int .i64 X,.int .i64 Y,.int .i64 E,vl,vr],.bool (bf s)])/\eA s=⟨A,B,X,Y,E,L⟩/\an w' w vl L/\cU w' w vr (bJ s)/\af w w w'
def pc(s:ak)(hs:s.size<=1048576)(w)(hE:PEnv w):Kp 42 #[s] w (oE s w):=by
 cases h:bf s
 .refine aj (TC s hs h w) λw' hb=>?_;exact⟨0,0,0,0,0,[],_,_,by rw[h],by unfold eA;rw[h];rfl,an.nil _ _,by unfold bJ;rw[h];exact cU.nil _ _,hb⟩
 .have hr:Kp 42 #[s] w (sO w s):=by
   by_cases h0:s=⟨#[]⟩
   .subst h0;exact Pm w hE
   .exact NU s hs h h0 w hE
  refine hr.mono ?_;rintro e w' ⟨A,B,X,Y,E,L,vl,vr,rfl,h1,h2,h3,h4⟩;exact⟨A,B,X,Y,E,L,vl,vr,by rw[h],by unfold eA;rw[h];exact h1,h2,by unfold bJ;rw[h];exact h3,h4⟩
def xk(s:ak)(hs:s.size<=1048576)(w)(hE:PEnv w):
 Rv 21 #[s] w (.string (eu (bJ s))):=by
 have hq:=λW hW=>pc s hs W hW;unfold oE at hq;have HQ:=h_ hq;have aa:bf s=false->bJ s=[]:=λh=>by unfold bJ;rw[h];rfl
 have hl:=mr s;have hz:=pd s;generalize bJ s=V,bf s=ok at *;cases ok
 .have F:=h_ (aa rfl);clear aa;go_enter func21,ntmps21;go_wp2_with fail
  refine (HQ.out w hE).mono ?_;rintro e w1 ⟨A,B,X,Y,E,L,vl,vr,rfl,he,ae,H,I⟩;obtain⟨a1,c1,rfl,_,_⟩:=id ae.form;obtain⟨a2,c2,rfl,_,_⟩:=id H.form;have⟨k2,ab⟩:=ay w1 #[A,B,X,Y,E,.slice a1 L.length c1,.slice a2 V.length c2] 65;have U:=ag ab I.size I;replace ae:=ae.below ab;replace H:=H.below ab;go_upto_region 2 with fail
  generalize w1.alloc _=W2 at *;go_wp2;go_ret;exact⟨by rw[F.out];rfl,U⟩
 .go_enter func21,ntmps21;go_wp2_with fail
  refine (HQ.out w hE).mono ?_;rintro e w1 ⟨A,B,X,Y,E,L,vl,vr,rfl,he,ae,H,I⟩;obtain⟨a1,c1,rfl,_,_⟩:=id ae.form;obtain⟨a2,c2,rfl,_,_⟩:=id H.form;have⟨k2,ab⟩:=ay w1 #[A,B,X,Y,E,.slice a1 L.length c1,.slice a2 V.length c2] 65;have U:=ag ab I.size I;replace ae:=ae.below ab;replace H:=H.below ab;have HE:=h_ he;go_upto_region 2 with fail
  generalize w1.alloc _=W2 at *;have⟨s0,s1,s2,s3,s4,s5,s6,sl⟩:=k2.p7;have⟨a',c',e',_,hf⟩:=H.form;injection e' with e';subst e';have HF:=h_ hf;have ba:(⟨#[10]⟩:ak).size=1:=rfl;go_wp2;go_loopw [5,18] (λov iv wr=>∃k:Nat,ov=.string (eu (V.take k))/\iv=.int .i64 k/\k<=V.length/\wr=W2) (λ_ iv _=>V.length - (intOf iv).toNat)
  case atStart=>exact⟨0,rfl,rfl,VH _,rfl⟩
  case round=>
   obtain⟨k,rfl,rfl,b2,rfl⟩:=hrel;by_cases aG:k<V.length
   .obtain⟨g,rfl,q0,_,_,_⟩:=HF.out k aG;have hx:=hz V[k] (VC aG);have G:=Tv hl hz k;have HO:=h_ (PI V k aG);generalize V[k]=x,eu (V.take k)=out at *;have a5:=λw=>Vr (P:=prog) w x ⟨#[10]⟩ o_;have a8:=λw=>Vr (P:=prog) w out (x++⟨#[10]⟩) (by rw[Vu];omega);go_wp2;go_roundw
    case rel=>exact⟨k+1,by rw[HO.out],by go_num,o_,trivial⟩
    case measure=>exact aJ
   .obtain rfl:k=V.length:=o_
    have HT:Hid (V.take V.length=V):=h_ (Wa);go_wp2;go_ret;exact⟨by rw[HT.out];rfl,U⟩
def Ol(s:ak)(hs:s.size<=1048576)(w)(ht:TabI w):
 Rv 22 #[s] w (.string (eu (bJ s))):=by
 unfold bJ;cases h:bf s
 .have H:=h_ (qM s hs h w);go_enter func22,ntmps22;go_wp2_with fail
  refine H.out.mono ?_;rintro e w1 ⟨rfl,I⟩;exact vW
 .have H:=h_ (rq s hs h w ht);rw[Vo rfl];generalize cV s=K at *;go_enter func22,ntmps22;go_wp2_with fail
  refine H.out.mono ?_;rintro e w1 ⟨r,A,B,X,Y,E,L,reps,vl,v0,v1,rfl,h1,h2,h3,h4,h5,_,I⟩;have HR:=h_ h1;go_wp2;go_ret;exact⟨by rw[HR.out];rfl,I⟩
end Go.Proofs.YtaamhakdhaolmaaGreatDoor
