/- Part 16. -/
import Derived.Lib.AppendZeros
import Derived.Test.YtaamhakdhaolmaaGreatDoorSap
namespace Go.Proofs.YtaamhakdhaolmaaGreatDoor
open Go.RowKit Go.Proofs.Tryz
set_option maxHeartbeats 8000000
set_option maxRecDepth 100000
variable {P:Prop}
set_option linter.all false
def Vc(L:bM)(w:World)(e:Ending)(w':World):Prop:=∃v,e=.returned v/\an w' w v L/\af w w w'
def D8(b0)(v)(L)(hL:L.length<=100)(w)(Z:an w b0 v L):
 Kp 204 #[v] w (Vc L w):=by
 have a3:=Z.rd;have J:∀(w:World) (a:ck) (n c H c':Nat),(binOp .eql 28 (.slice a n c) (.slice none H c')).run prog w=.ok (.bool a.isNone) w:=λw a n c H c'=>Lib.run_eql_slice_nil w _ _ a n c H c' underlying28;obtain⟨a,F,rfl,bo,_⟩:=Z.form;cases a with
 |none=>
  have h0:L=[]/\F=0:=by
   rcases a3 with ⟨h1,h2⟩|⟨g,off,c,h1,_⟩
   .injection h2 with _ _ h3;exact⟨h1,h3⟩
   .injection h1 with h4;cases h4
  obtain⟨rfl,rfl⟩:=h0;go_enter func204,ntmps204;go_wp2;go_ret;exact⟨_,rfl,an.nil _ _,Vn _ _⟩
 |some ad=>
  have ab:af w w (w.alloc (.cells #[] 70)):=(Vn _ _).alloc (Vj _) _;have⟨v',w',hr,h1,h2,_⟩:=uh (w.alloc (.cells #[] 70)) w 28 _ _ [] L (an.empty w) (a3.below ab) u_ s_;have I:=ab.grown h2 s_ (λk hk=>by simp [Value.ownBlock] at hk;omega);simp at h1;obtain⟨a',c',rfl,_⟩:=h1.form;go_enter func204,ntmps204;go_wp2_with (at_builtin;refine Lib.wpList_append_run _ rfl _ _ _ _ rfl _ _ rfl rfl _ _ hr ?_)
  go_ret;exact⟨_,rfl,h1,I⟩
def SO(x y:E5)(w:World):Rv 275 #[cI x,cI y] w (gk x.1 y.1):=by
 have HC:=h_ (B2 x.1 y.1);generalize gk x.1 y.1=r at *;obtain⟨⟨a,b⟩,lo,hi,t⟩:=x;obtain⟨⟨c,d⟩,bY,bZ,t2⟩:=y;simp only[cI] at HC ⊢;have⟨kA,kB,J⟩:=cO w #[a,b,lo,hi,t] 70 #[c,d,bY,bZ,t2] 70;go_enter func275,ntmps275;go_upto_region 1 with fail
 generalize (w.alloc _).alloc _=W at *;have⟨aG,F,_,_,_⟩:=kA.q5;have⟨G,ac,_,K,U,b5⟩:=kB.p5;go_wp2_with fail
 refine aj (HC.out _) λw1 I=>?_;exact oA
def Un{c:Int×Int}{L}(hs:cC L){m}(hm:m<L.length)(h:dO L[m].1 c=true):m<plc c L:=by
 rcases Wv m (plc c L) with h1|h1
 .exact h1
 .have h2:=zn c L o_;rcases YP h1 with h3|h3
  .simp only[h3] at h2;rw[h] at h2;cases h2
  .have:=xz (hs.at h3 hm) h;rw[this] at h2;cases h2
def UD{c:Int×Int}{L}{m}(hm:m<L.length)(h:dO L[m].1 c=false):plc c L<=m:=by
 rcases Wv m (plc c L) with h1|h1
 .have:=xw c L m hm h1;rw[h] at this;cases this
 .exact h1
def Up(b0)(v)(L:bM)(e:E5)(hL:eJ L)(w:World)(Z:an w b0 v L):
 Kp 274 #[v,cI e,.func (.func 275) #[] #[]] w λr w'=>r=.returned (.tuple #[plc e.1 L,.bool (df e.1 L)])/\af w.heap.size w w':=by
 obtain⟨a,F,rfl,_,hf⟩:=Z.form;have HF:=h_ hf;have HS:=h_ hL.2.1;have b5:=hL.2.2;have ac:=mv e.1 L;have HC:=h_ (λx W=>SO x e W);have eg:∀args w,(callFunc 275 args).run prog w=.ok (.enter 275 args) w:=enters_of func275 k_ rfl;clear hf hL Z;obtain⟨cv,a9⟩:∃cv,e.1=cv:=⟨_,rfl⟩
 rw[a9] at ac HC ⊢;obtain⟨⟨A,B⟩,lo,hi,t⟩:=e;simp only at a9;simp only[cI] at HC ⊢;have K:=h_ a9;clear a9;obtain⟨kE,J⟩:=ay w #[A,B,lo,hi,t] 70;obtain⟨p,G⟩:∃p,plc cv L=p:=⟨_,rfl⟩
 rw[G] at ac ⊢;have HP:=h_ G;clear G;go_enter func274,ntmps274;go_upto_region 3 with fail
 generalize w.alloc _=W at *;go_loopw [9,10] (λiv jv wr=>∃i j:Nat,i<=p/\p<=j/\j<=L.length/\iv=.int .i64 i/\jv=.int .i64 j/\ah w.heap.size #[A,B,lo,hi,t] 70 wr/\af w w wr) (λiv jv _=>(intOf jv).toNat - (intOf iv).toNat)
 case atStart=>exact⟨0,L.length,VH _,ac,Vj _,rfl,rfl,kE,J⟩
 case round=>
  obtain⟨i,j,a1,aX,aF,rfl,rfl,kE,aL⟩:=hrel
  rename World=>wr
  by_cases aG:i<j
  .have b3:(i:Int)<(j:Int):=o_;obtain⟨m,hm⟩:∃m:Nat,((i:Int)+(j:Int)) / 2=(m:Int):=⟨(i+j) / 2,o_⟩
   have V:m<L.length:=o_;have aa:(m:Int)<(L.length:Int):=o_;have a6:i<=m/\m<j:=o_;obtain⟨g,rfl,hg,q0,q1,q2,q3,q4⟩:=HidF.at aL V HF.out;have aM:=HC.out L[m];have H:=xL (x:=L[m].1) (y:=cv);have ae:=Un HS.out V (c:=cv);have U:=UD V (c:=cv);rw[HP.out] at ae U;generalize L[m]=x at *;have⟨⟨a2,b2⟩,bY,bZ,t2⟩:=x;simp only at q0 q1 q2 q3 q4 aM H ae U;generalize gk (a2,b2) cv=cm at *;have H1:=h_ aM;have⟨a4,aZ,a8,a5,ad,bv⟩:=kE.p5;cases hc:dO (a2,b2) cv
   .rw[hc] at H;have I:=of_decide_eq_false H;have ax:=U hc;go_upto_region 5 with fail
    clear hm
    (refine bR k_ k_ ?_;(repeat (go_big_quiet_step ((go_at_fn 275;with_reducible exact Calls.quiet_cls ao _ (H1.out _)))));refine wpQuiet_nil ?_;intro w6 ab)
    have az:=ag ab aL.size aL;replace kE:=kE.next ab
    go_wp2;go_roundw
    case rel=>exact⟨i,m,a1,ax,o_,rfl,rfl,kE,az⟩
    case measure=>exact aJ
   .rw[hc] at H;have I:cm<0:=Yp H;have ax:=ae hc;clear ae U hc H;go_upto_region 5 with fail
    clear hm
    (refine bR k_ k_ ?_;(repeat (go_big_quiet_step ((go_at_fn 275;with_reducible exact Calls.quiet_cls ao _ (H1.out _)))));refine wpQuiet_nil ?_;intro w6 ab)
    replace kE:=kE.next ab
    go_wp2;go_roundw
    case rel=>exact⟨m+1,j,o_,aX,aF,by go_num,rfl,kE,(ag ab aL.size aL)⟩
    case measure=>exact aJ
  .have b3:¬(i:Int)<(j:Int):=o_;obtain rfl:i=p:=o_
   have⟨a4,aZ,a8,a5,ad,bv⟩:=kE.p5;by_cases a3:i<L.length
   .have b9:(i:Int)<(L.length:Int):=o_;obtain⟨g,rfl,hg,q0,q1,q2,q3,q4⟩:=HidF.at aL a3 HF.out;have aM:=HC.out L[i];have H:=Rz (x:=L[i].1) (y:=cv);have hV:df cv L=decide (gk L[i].1 cv=0):=by unfold df;rw[HP.out,Vv a3];exact decide_eq_decide.2 H.symm
    have HV:=h_ hV;clear hV H;generalize L[i]=x at *;obtain⟨⟨a2,b2⟩,bY,bZ,t2⟩:=x;simp only at q0 q1 q2 q3 q4 aM HV;generalize gk (a2,b2) cv=cm at *;have H1:=h_ aM;clear aM;go_upto_region 8 with fail
    (refine bR k_ k_ ?_;(repeat (go_big_quiet_step ((go_at_fn 275;with_reducible exact Calls.quiet_cls ao _ (H1.out _)))));refine wpQuiet_nil ?_;intro w6 ab)
    go_wp2;go_ret2;refine⟨?_,ag ab aL.size aL⟩;rw[HV.out];by_cases h0:cm=0<;>simp [h0]
   .have b9:¬(i:Int)<(L.length:Int):=o_;have HV:Hid (df cv L=false):=h_ (by unfold df;rw[HP.out,Xa o_]);go_upto_region 8 with fail
    (refine bR k_ k_ ?_;(repeat (go_big_quiet_step (fail)));refine wpQuiet_nil ?_;intro w6 ab)
    go_wp2;go_ret2;exact⟨by rw[HV.out];rfl,ag ab aL.size aL⟩
def Aq(h:P:=by
 rw[ht,hj] at h4;exact AZ):=h
def BY(w)(g)(cs):ai [g] w (w.setRow g cs):=
 ⟨rfl,rfl,rfl,by simp [World.setRow],λk _ hn=>Zz w g k cs (by simpa using hn)⟩
def Pu(w)(g o c k)(cur)(hg:w.heap[g]?=some (.cells cur 70 (0,0)))(hk:0<k)(H:o+k*5<=cur.size):
 ∃zs:List Value,zs.length=k*5/\∀ty,(Builtin.clear_ #[28] ty #[.slice (some ⟨g,o,none⟩) k c]).run prog w=.ok (.tuple #[]) (w.setRow g (cur.toList.take o++zs++cur.toList.drop (o+zs.length)).toArray):=by
 refine⟨(Builtin.zeroCells (Value.agg #[(),(),(),(),()]).cells k).toList,by simp [Builtin.zeroCells,Value.cells],λty=>?_⟩;have hz:(Builtin.zeroCells (Value.agg #[(),(),(),(),()]).cells k).toList.length=k*5:=by simp [Builtin.zeroCells,Value.cells]
 have h1:∀v∈(Builtin.zeroCells (Value.agg #[(),(),(),(),()]).cells k).toList,v.oneCell'=true:=by
  intro v hv;simp [Builtin.zeroCells,Value.cells] at hv;obtain⟨x,_,rfl⟩:=hv;have hx:x % 5=0\/x % 5=1\/x % 5=2\/x % 5=3\/x % 5=4:=o_;rcases hx with h|h|h|h|h<;>rw[h]<;>rfl
 have ht:prog.underlying 28=some (.slice 70):=underlying28;generalize K:(Builtin.zeroCells (Value.agg #[(),(),(),(),()]).cells k).toList=zs at *;have F:=run_storeCells_at prog g o 70 zs 0 cur w hg o_ h1;simp at F;obtain⟨m,rfl⟩:∃m,k=m+1:=⟨k - 1,o_⟩
 simp [Builtin.clear_,Yg ht,Tryz.zeroValue70,K,F]
def QY(L:bM)(i):L.eraseIdx i=L.take i++L.drop (i+1):=List.eraseIdx_eq_take_drop_succ L i
def Qr(b0)(v)(L)(i k:Nat)(hk:k=i+1)(hi:i<L.length)(hL:L.length<=100)(w)(Z:an w b0 v L):
 Kp 203 #[v,i,k] w λe w'=>∃v',e=.returned v'/\an w' b0 v' (L.eraseIdx i)/\ai v.ownBlock.toList w w':=by
 rcases Z.2 with ⟨_,hn⟩|⟨g,F,cur,hv,hg,hh,aL,ae,a4,ht⟩
 .omega
 .subst hv;obtain⟨n,hn⟩:∃n,L.length=n:=⟨_,rfl⟩
  have aM:=lq L;rw[hn] at ht aL aM hi hL ⊢;have bo:F<=9223372036854775807:=by unfold maxLen at ae;omega
  have bY:i<=F:=o_;have aX:k<=n:=o_;have cm:i<=k:=o_;have a8:k<=F:=o_;have a3:∀j u,((bH L).drop (k*5))[j]?=some u->w.drew.cell? ⟨g,k*5+j,none⟩=some u:=λj u hj=>by
   rw[W_] at hj;have aG:k*5+j<n*5:=by rw[<-aM];exact (V3.1 hj).1
   have h4:(cur.toList.take (n*5))[k*5+j]?=cur.toList[k*5+j]?:=VU aG;exact Aq
  have a9:((bH L).drop (k*5)).length=(n - k)*5:=by rw[WF,aM];omega
  have⟨U,a2,bi,ac,ba⟩:=WL Tryz.infoE;have aa:i*5+((bH L).drop (k*5)).length<=cur.size:=by rw[a9,a4];omega
  obtain⟨ad,a6⟩:∃ad:Addr,ad=if F=k then ⟨g,0,none⟩ else ⟨g,k*5,none⟩:=⟨_,rfl⟩
  have H:=λty c=>run_append_room (P:=prog) w.drew 28 ty 70 U underlying28 a2 g i F cur hh ad (n - k) c ((bH L).drop (k*5)) (by rw[ac];exact a9) (λj u hj=>by
   rw[a6];split
   .rename_i bs;have:(bH L).drop (k*5)=[]:=XH (by rw[aM];omega);rw[this] at hj;cases hj
   .rw[show (⟨g,k*5,none⟩:Addr).add j=⟨g,k*5+j,none⟩ by cases j<;>simp [Addr.add]];exact a3 j u hj) (λu hu=>tC L u (Xf hu)) o_ (by rw[ac];exact aa)
  rw[ac] at H;obtain⟨I,J⟩:∃I,(cur.toList.take (i*5)++(bH L).drop (k*5)++cur.toList.drop (i*5+((bH L).drop (k*5)).length)).toArray=I:=⟨_,rfl⟩
  rw[J] at H;have az:I.size=cur.size:=by rw[<-J];simp;omega
  have ax:=Yq w.drew g cur I _ _ hh;have aF:I.toList.take ((n - 1)*5)=bH (L.eraseIdx i):=by
   rw[<-J,QY,wZ,xf,xo,<-hk];simp only[Xm];have e1:(cur.toList.take (i*5)++(bH L).drop (k*5)).length=(n - 1)*5:=by
    rw[VI,a9,VM,Vy,a4];omega
   rw[Ww o_,VO o_];congr 1;rw[<-ht,YH];congr 1;omega
  have⟨zs,bx,a1⟩:=Pu (w.drew.setRow g I) g ((n - 1)*5) (F - (n - 1)) 1 I ax o_ (by rw[az,a4];omega);obtain⟨G,K⟩:∃G,(I.toList.take ((n - 1)*5)++zs++I.toList.drop ((n - 1)*5+zs.length)).toArray=G:=⟨_,rfl⟩
  rw[K,setRow_setRow] at a1;have V:an (w.drew.setRow g G) b0 (.slice g (n - 1) F) (L.eraseIdx i):=by
   have a5:(L.eraseIdx i).length=n - 1:=by rw[List.length_eraseIdx,hn,Vo hi]
   refine⟨by rw[lq],.inr ⟨g,F,G,by rw[a5],hg,Yq w.drew g cur G _ _ hh,o_,ae,?_,?_⟩⟩
   .rw[<-K];simp only[Yl,VI,VM,WF,Vy];omega
   .rw[a5,<-K];simp only[Xm];rw[VX,Ww (by rw[VM,Vy];omega),YH,Nat.min_self];exact aF
  have ab:=((ai.refl [g] w).drew).trans (BY w.drew g G);have aZ:=h_ V;have bp:=h_ ab;have bX:(if F=k then some (⟨g,0,none⟩:Addr) else some ⟨g,k*5,none⟩)=some ad:=by rw[a6];split<;>rfl
  have a7:=h_ H;have cc:i+(n - k)=n - 1:=o_;have bv:n - 1<=n:=o_;have bq:¬F=n - 1:=o_;have bz:n - (n - 1)=1:=o_;have bb:¬k<=i:=o_;clear hk a6 hn H aF a3 J K aa a9 V ab bx az ax a2 bi ac ba ht aM;go_enter func203,ntmps203;go_upto_region 5 with fail
  refine wp_region_still_tail 6 k_ k_ ?_;simp only[YF,Zr,VQ,V1];change wpStill _ _ w.drew (λa'=>wpList _ _ _ _ a' w.drew) _ _
  repeat still_step
  refine YK ?_;go_wp2_with (at_builtin;refine Lib.wpList_append_run _ rfl _ _ _ _ rfl _ _ rfl rfl _ _ (a7.out _ _) ?_)
  exact Vk (v:=.slice (some ⟨g,0,none⟩) (n - 1) F) (by simp [results,results203,go_sem]) rfl ⟨_,rfl,aZ.out,bp.out⟩
end Go.Proofs.YtaamhakdhaolmaaGreatDoor
