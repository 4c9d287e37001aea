/- Part 20. -/
import Derived.Lib.AppendZeros
import Derived.Test.YtaamhakdhaolmaaGreatDoorAat
namespace Go.Proofs.YtaamhakdhaolmaaGreatDoor
open Go.RowKit
set_option maxHeartbeats 8000000
set_option maxRecDepth 100000
variable {P:Prop}
set_option linter.all false
def Ua(L:aK)(w:World)(e:Ending)(w':World):Prop:=∃v,e=.returned v/\am w' w.heap.size v L/\Below w.heap.size w w'
def Dt(b0:Nat)(v:Value)(L:aK)(hL:L.length<=100)(w:World)(Z:am w b0 v L):
 Kp 204 #[v] w (Ua L w):=by
 have a3:=Z.rd;have J:∀(w:World) (a:bT) (n c H c':Nat),(binOp .eql 28 (.slice a n c) (.slice none H c')).run Tryz.prog w=.ok (.bool a.isNone) w:=λw a n c H c'=>Lib.run_eql_slice_nil w _ _ a n c H c' Tryz.underlying28;obtain⟨a,F,rfl,bo,_⟩:=Z.form;cases a with
 |none=>
  have h0:L=[]/\F=0:=by
   rcases a3 with ⟨h1,h2⟩|⟨g,off,c,h1,_⟩
   .injection h2 with _ _ h3;exact⟨h1,h3⟩
   .injection h1 with h4;cases h4
  obtain⟨rfl,rfl⟩:=h0;go_enter Tryz.func204,Tryz.ntmps204;go_wp2;go_ret;exact⟨_,rfl,am.nil _ _,Uk _ _⟩
 |some ad=>
  have ab:Below w.heap.size w (w.alloc (.cells #[] 70)):=(Uk _ _).alloc (Ug _) _;obtain⟨v',w',hr,h1,h2,_⟩:=tJ (w.alloc (.cells #[] 70)) w.heap.size 28 _ _ [] L (am.empty w) (a3.below ab) u_ s_;have ax:Below w.heap.size w w':=ab.grown h2 s_ (λk hk=>by simp [Value.ownBlock] at hk;omega);simp only[VA] at h1;obtain⟨a',c',rfl,_⟩:=h1.form;clear Z a3 h2 ab;go_enter Tryz.func204,Tryz.ntmps204;go_wp2_with (at_builtin;refine Lib.wpList_append_run _ rfl _ _ _ _ rfl _ _ rfl rfl _ _ hr ?_)
  go_ret;exact⟨_,rfl,h1,ax⟩
def RI(x y:E5)(w:World):Rv 275 #[cq x,cq y] w (fX x.1 y.1):=by
 have HC:=h_ (By x.1 y.1);generalize fX x.1 y.1=r at *;obtain⟨⟨a,b⟩,lo,hi,t⟩:=x;obtain⟨⟨c,d⟩,b6,b8,t2⟩:=y;simp only[cq] at HC ⊢;obtain⟨kA,kB,J⟩:=cr w #[a,b,lo,hi,t] 70 #[c,d,b6,b8,t2] 70;go_enter Tryz.func275,Tryz.ntmps275;go_upto_region 1 with fail
 generalize (w.alloc _).alloc _=W at *;obtain⟨bs,ba,aG,a2,K⟩:=kA.q5;have bq:=kA.lt;obtain⟨bb,bo,g,U,aZ⟩:=kB.q5;have bZ:=kB.lt;go_wp2_with fail
 refine ai (HC.out _) λw1 I=>?_;exact nY
def Tm{c:Int×Int}{L:aK}(hs:ck L){m:Nat}(hm:m<L.length)(h:dF L[m].1 c=true):m<plc c L:=by
 rcases Vn m (plc c L) with h1|h1
 .exact h1
 .have h2:=yK c L o_;rcases XN h1 with h3|h3
  .simp only[h3] at h2;rw[h] at h2;cases h2
  .have:=wW (hs.at h3 hm) h;rw[this] at h2;cases h2
def Tz{c:Int×Int}{L:aK}{m:Nat}(hm:m<L.length)(h:dF L[m].1 c=false):plc c L<=m:=by
 rcases Vn m (plc c L) with h1|h1
 .have:=wU c L m hm h1;rw[h] at this;cases this
 .exact h1
def To(b0:Nat)(v:Value)(L:aK)(e:E5)(hL:eA L)(w:World)(Z:am w b0 v L):
 Kp 274 #[v,cq e,.func (.func 275) #[] #[]] w λr w'=>r=.returned (.tuple #[plc e.1 L,.bool (cO e.1 L)])/\Below w.heap.size w w':=by
 obtain⟨a,F,rfl,_,hf⟩:=Z.form;have HF:=h_ hf;have HS:=h_ hL.2.1;have b7:=hL.2.2;have V:=mg e.1 L;have HC:=h_ (λx W=>RI x e W);have eg:∀args w,(callFunc 275 args).run Tryz.prog w=.ok (.enter 275 args) w:=enters_of Tryz.func275 k_ rfl;clear hf hL Z;obtain⟨cv,a9⟩:∃cv,e.1=cv:=⟨_,rfl⟩
 rw[a9] at V HC ⊢;obtain⟨⟨A,B⟩,lo,hi,t⟩:=e;simp only at a9;simp only[cq] at HC ⊢;have K:=h_ a9;clear a9;obtain⟨kE,J⟩:=aw w #[A,B,lo,hi,t] 70;obtain⟨p,G⟩:∃p,plc cv L=p:=⟨_,rfl⟩
 rw[G] at V ⊢;have HP:=h_ G;clear G;go_enter Tryz.func274,Tryz.ntmps274;go_upto_region 3 with fail
 generalize w.alloc _=W at *;go_loopw [9,10] (λiv jv wr=>∃i j:Nat,i<=p/\p<=j/\j<=L.length/\iv=.int .i64 i/\jv=.int .i64 j/\ag w.heap.size #[A,B,lo,hi,t] 70 wr/\Below w.heap.size w wr) (λiv jv _=>(intOf jv).toNat - (intOf iv).toNat)
 case atStart=>exact⟨0,L.length,UB _,V,Ug _,rfl,rfl,kE,J⟩
 case round=>
  clear kE J;obtain⟨i,j,a6,a1,aX,rfl,rfl,kE,aL⟩:=hrel
  rename World=>wr
  by_cases aG:i<j
  .have bp:(i:Int)<(j:Int):=o_;obtain⟨m,hm⟩:∃m:Nat,((i:Int)+(j:Int)) / 2=(m:Int):=⟨(i+j) / 2,by omega⟩
   have ac:m<L.length:=o_;have a8:(m:Int)<(L.length:Int):=o_;have a7:i<=m/\m<j:=o_;obtain⟨g,rfl,hg,q0,q1,q2,q3,q4⟩:=HidF.at aL ac HF.out;have ab:=HC.out L[m];have H:=xf (x:=L[m].1) (y:=cv);have I:=Tm HS.out ac (c:=cv);have U:=Tz ac (c:=cv);rw[HP.out] at I U;generalize L[m]=x at *;obtain⟨⟨a2,b2⟩,b6,b8,t2⟩:=x;simp only at q0 q1 q2 q3 q4 ab H I U;generalize fX (a2,b2) cv=cm at *;have H1:=h_ ab;clear ab;obtain⟨a4,aZ,ba,a5,ad⟩:=kE.q5;have bY:=kE.lt;cases hc:dF (a2,b2) cv
   .rw[hc] at H;have aF:¬cm<0:=of_decide_eq_false H;have az:=U hc;clear I U hc H;go_upto_region 5 with fail
    clear hm
    (refine bP k_ k_ ?_;(repeat (go_big_quiet_step ((go_at_fn 275;with_reducible exact Calls.quiet_cls an _ (H1.out _)))));refine wpQuiet_nil ?_;intro w6 ax;obtain⟨aM,ae⟩:=bf ax;have c9:=ax.size;(try simp only[Uq] at c9))
    have aa:=af ax aL.size aL;replace kE:=kE.next ax
    go_wp2;go_roundw
    case rel=>exact⟨i,m,a6,az,by omega,rfl,rfl,kE,aa⟩
    case measure=>exact aO
   .rw[hc] at H;have aF:cm<0:=Xo H;have az:=I hc;clear I U hc H;go_upto_region 5 with fail
    clear hm
    (refine bP k_ k_ ?_;(repeat (go_big_quiet_step ((go_at_fn 275;with_reducible exact Calls.quiet_cls an _ (H1.out _)))));refine wpQuiet_nil ?_;intro w6 ax;obtain⟨aM,ae⟩:=bf ax;have c9:=ax.size;(try simp only[Uq] at c9))
    have aa:=af ax aL.size aL;replace kE:=kE.next ax
    go_wp2;go_roundw
    case rel=>exact⟨m+1,j,by omega,a1,aX,by go_num,rfl,kE,aa⟩
    case measure=>exact aO
  .have bp:¬(i:Int)<(j:Int):=o_;obtain rfl:i=p:=by omega
   obtain⟨a4,aZ,ba,a5,ad⟩:=kE.q5;have bY:=kE.lt;by_cases a3:i<L.length
   .have cA:(i:Int)<(L.length:Int):=o_;obtain⟨g,rfl,hg,q0,q1,q2,q3,q4⟩:=HidF.at aL a3 HF.out;have ab:=HC.out L[i];have H:=QJ (x:=L[i].1) (y:=cv);have hV:cO cv L=decide (fX L[i].1 cv=0):=by unfold cO;rw[HP.out,Us a3];exact decide_eq_decide.2 H.symm
    have HV:=h_ hV;clear hV H;generalize L[i]=x at *;obtain⟨⟨a2,b2⟩,b6,b8,t2⟩:=x;simp only at q0 q1 q2 q3 q4 ab HV;generalize fX (a2,b2) cv=cm at *;have H1:=h_ ab;clear ab;go_upto_region 8 with fail
    (refine bP k_ k_ ?_;(repeat (go_big_quiet_step ((go_at_fn 275;with_reducible exact Calls.quiet_cls an _ (H1.out _)))));refine wpQuiet_nil ?_;intro w6 ax;obtain⟨aM,ae⟩:=bf ax;have c9:=ax.size;(try simp only[Uq] at c9))
    go_wp2;go_ret2;refine⟨?_,af ax aL.size aL⟩;rw[HV.out];by_cases h0:cm=0<;>simp [h0]
   .have cA:¬(i:Int)<(L.length:Int):=o_;have HV:Hid (cO cv L=false):=h_ (by unfold cO;rw[HP.out,VS o_]);go_upto_region 8 with fail
    (refine bP k_ k_ ?_;(repeat (go_big_quiet_step (fail)));refine wpQuiet_nil ?_;intro w6 ax;obtain⟨aM,ae⟩:=bf ax;have c9:=ax.size;(try simp only[Uq] at c9))
    go_wp2;go_ret2;exact⟨by rw[HV.out];rfl,af ax aL.size aL⟩
def zJ(h:P:=by
 rw[ht,hj] at h4;exact Aw):=h
def Bt(w)(g)(I):ah [g] w (w.setRow g I):=
 ⟨rfl,rfl,rfl,by simp [World.setRow],λk _ hn=>Yt w g k I (by simpa using hn)⟩
def OG(w)(g o c k)(aM)(hg:w.heap[g]?=some (.cells aM 70 (0,0)))(hk:0<k)(J:o+k*5<=aM.size):
 ∃zs:List Value,zs.length=k*5/\∀ty,(Builtin.clear_ #[28] ty #[.slice (some ⟨g,o,none⟩) k c]).run Tryz.prog w=.ok (.tuple #[]) (w.setRow g (aM.toList.take o++zs++aM.toList.drop (o+zs.length)).toArray):=by
 refine⟨(Builtin.zeroCells (Value.agg #[(),(),(),(),()]).cells k).toList,by simp [Builtin.zeroCells,Value.cells],λty=>?_⟩;have hz:(Builtin.zeroCells (Value.agg #[(),(),(),(),()]).cells k).toList.length=k*5:=by simp [Builtin.zeroCells,Value.cells]
 have h1:∀v∈(Builtin.zeroCells (Value.agg #[(),(),(),(),()]).cells k).toList,v.oneCell'=true:=by
  intro v hv;simp [Builtin.zeroCells,Value.cells] at hv;obtain⟨x,_,rfl⟩:=hv;have hx:x % 5=0\/x % 5=1\/x % 5=2\/x % 5=3\/x % 5=4:=o_;rcases hx with h|h|h|h|h<;>rw[h]<;>rfl
 have ht:Tryz.prog.underlying 28=some (.slice 70):=Tryz.underlying28;generalize I:(Builtin.zeroCells (Value.agg #[(),(),(),(),()]).cells k).toList=zs at *;have F:=run_storeCells_at Tryz.prog g o 70 zs 0 aM w hg o_ h1;simp at F;obtain⟨m,rfl⟩:∃m,k=m+1:=⟨k - 1,by omega⟩
 simp [Builtin.clear_,Xg ht,Tryz.zeroValue70,I,F]
def Qd(L:aK)(i):L.eraseIdx i=L.take i++L.drop (i+1):=List.eraseIdx_eq_take_drop_succ L i
def PC(b0)(v)(L)(i k:Nat)(hk:k=i+1)(hi:i<L.length)(hL:L.length<=100)(w)(Z:am w b0 v L):
 Kp 203 #[v,i,k] w λe w'=>∃v',e=.returned v'/\am w' b0 v' (L.eraseIdx i)/\ah v.ownBlock.toList w w':=by
 rcases Z.2 with ⟨_,hn⟩|⟨g,F,aM,hv,hg,hh,aL,az,aF,ht⟩
 .omega
 .subst hv;obtain⟨n,hn⟩:∃n,L.length=n:=⟨_,rfl⟩
  have ab:=kc L;rw[hn] at ht aL ab hi hL ⊢;have bo:F<=9223372036854775807:=by unfold maxLen at az;omega
  have b1:i<=F:=o_;have a2:k<=n:=o_;have cu:i<=k:=o_;have ba:k<=F:=o_;have a3:∀j u,((bw L).drop (k*5))[j]?=some u->w.drew.cell? ⟨g,k*5+j,none⟩=some u:=λj u hj=>by
   rw[VR] at hj;have aG:k*5+j<n*5:=by rw[<-ab];exact (U2.1 hj).1
   have h4:(aM.toList.take (n*5))[k*5+j]?=aM.toList[k*5+j]?:=UR aG;exact zJ
  have a4:((bw L).drop (k*5)).length=(n - k)*5:=by rw[Vs,ab];omega
  have⟨i0,a9,bi,ax,a8⟩:=VE Tryz.infoE;have aa:i*5+((bw L).drop (k*5)).length<=aM.size:=by rw[a4,aF];omega
  obtain⟨ad,a6⟩:∃ad:Addr,ad=if F=k then ⟨g,0,none⟩ else ⟨g,k*5,none⟩:=⟨_,rfl⟩
  have H:=λty c=>run_append_room (P:=Tryz.prog) w.drew 28 ty 70 i0 Tryz.underlying28 a9 g i F aM hh ad (n - k) c ((bw L).drop (k*5)) (by rw[ax];exact a4) (λj u hj=>by
   rw[a6];split
   .rename_i bz;have:(bw L).drop (k*5)=[]:=Wr (by rw[ab];omega);rw[this] at hj;cases hj
   .rw[show (⟨g,k*5,none⟩:Addr).add j=⟨g,k*5+j,none⟩ by cases j<;>simp [Addr.add]];exact a3 j u hj) (λu hu=>sW L u (VW hu)) o_ (by rw[ax];exact aa)
  rw[ax] at H;obtain⟨J,K⟩:∃J,(aM.toList.take (i*5)++(bw L).drop (k*5)++aM.toList.drop (i*5+((bw L).drop (k*5)).length)).toArray=J:=⟨_,rfl⟩
  rw[K] at H;have ae:J.size=aM.size:=by rw[<-K];simp;omega
  have ac:=Xq w.drew g aM J _ _ hh;have aX:J.toList.take ((n - 1)*5)=bw (L.eraseIdx i):=by
   rw[<-K,Qd,qk,wC,wN,<-hk];simp only[WO];have e1:(aM.toList.take (i*5)++(bw L).drop (k*5)).length=(n - 1)*5:=by
    rw[UE,a4,UH,UC,aF];omega
   rw[Vp o_,UP o_];congr 1;rw[<-ht,XE];congr 1;omega
  have⟨zs,bx,aZ⟩:=OG (w.drew.setRow g J) g ((n - 1)*5) (F - (n - 1)) 1 J ac o_ (by rw[ae,aF];omega);obtain⟨G,U⟩:∃G,(J.toList.take ((n - 1)*5)++zs++J.toList.drop ((n - 1)*5+zs.length)).toArray=G:=⟨_,rfl⟩
  rw[U,setRow_setRow] at aZ;have V:am (w.drew.setRow g G) b0 (.slice g (n - 1) F) (L.eraseIdx i):=by
   have bb:(L.eraseIdx i).length=n - 1:=by rw[List.length_eraseIdx,hn,Um hi]
   refine⟨by rw[kc],.inr ⟨g,F,G,by rw[bb],hg,Xq w.drew g aM G _ _ hh,by omega,az,?_,?_⟩⟩
   .rw[<-U];simp only[Xk,UE,UH,Vs,UC];omega
   .rw[bb,<-U];simp only[WO];rw[U5,Vp (by rw[UH,UC];omega),XE,Nat.min_self];exact aX
  have a1:=((ah.refl [g] w).drew).trans (Bt w.drew g G);have a5:=h_ V;have bp:=h_ a1;have bZ:(if F=k then some (⟨g,0,none⟩:Addr) else some ⟨g,k*5,none⟩)=some ad:=by rw[a6];split<;>rfl
  have a7:=h_ H;have bY:i+(n - k)=n - 1:=o_;have bv:n - 1<=n:=o_;have bs:¬F=n - 1:=o_;have bX:n - (n - 1)=1:=o_;have bq:¬k<=i:=o_;clear hk a6 hn H aX a3 K U aa a4 V a1 bx ae ac a9 bi ax a8 ht ab;go_enter Tryz.func203,Tryz.ntmps203;go_upto_region 5 with fail
  refine wp_region_still_tail 6 k_ k_ ?_;simp only[WN,XF,UI,U0];change wpStill _ _ w.drew (λa'=>wpList _ _ _ _ a' w.drew) _ _
  repeat still_step
  refine XH ?_;go_wp2_with (at_builtin;refine Lib.wpList_append_run _ rfl _ _ _ _ rfl _ _ rfl rfl _ _ (a7.out _ _) ?_)
  exact Uh (v:=.slice (some ⟨g,0,none⟩) (n - 1) F) (by simp [results,Tryz.results203,go_sem]) rfl ⟨_,rfl,a5.out,bp.out⟩
end Go.Proofs.YtaamhakdhaolmaaGreatDoor
