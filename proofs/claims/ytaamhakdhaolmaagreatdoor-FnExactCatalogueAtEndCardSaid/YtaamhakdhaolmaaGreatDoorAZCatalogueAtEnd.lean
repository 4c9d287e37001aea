/- Part 34. -/
import Derived.Test.YtaamhakdhaolmaaGreatDoorAbh
namespace Go.Proofs.YtaamhakdhaolmaaGreatDoor
open Go.RowKit
set_option maxHeartbeats 8000000
set_option maxRecDepth 100000
variable {P:Prop}
set_option linter.all false
def Be(A B:Int)(w):Rv 37 #[.agg #[A,B],.agg #[A,B]] w true:=by
 go_enter Tryz.func37,Tryz.ntmps37;go_wp2;go_ret;refine⟨rfl,?_⟩
 go_grown
def Il(h:P:=by
 unfold execOp;simp only[Z,resolve,invoke,builtin,X3,X4,Xj,Xt,VF,WW,hs,hx,h1]):=h
def My{ops}{rest}{o}{a}{Q}{w}(aa:o.guard=none)(s x)
 (Z:o.op=.call {callee:=.builtin .append,args:=#[s,x],argTypes:=#[28,28]})
 (G)(v y)(L M)(hs:a.eval s=v)(hx:a.eval x=y)(V:am w G v L)(hr:df w y M)(hn:L.length+M.length<=1000)(U:G<=w.heap.size)
 (h:∀v' w',am w' G v' (L++M)->ah v.ownBlock.toList w w'->wpList Tryz.prog ops Q rest (a.put o.dst v') w'):wpList Tryz.prog ops Q (o::rest) a w:=by
 have⟨v',w',h1,h2,h3,_⟩:=tJ w G o.type v y L M V hr hn U;refine X0 aa λK hK=>?_;have he:(execOp a.eval o).run Tryz.prog w=.ok (.value v') w':=by
  exact Il
 unfold Oper.wp;rw[he];simp only[Oper.upon];exact hK _ _ (h v' w' h2 ⟨h3.os,h3.tape,h3.output,h3.size,λk hk hm=>h3.block k hk (λh=>hm vE)⟩)
def KT(w:World)(L:aK)(b:Bool)(e:Ending)(w':World):Prop:=∃v,e=.returned (.tuple #[v,b])/\am w' w v L/\Below w w w'
def LN(s:aj)(hs:s.size<=1048576)(w)(hE:PEnv w):
 Kp 16 #[s] w (KT w (eu s).L (bO s)):=by
 have hq:=λW hW=>oP s hs W hW;unfold og at hq;have HQ:=h_ hq;have aa:bO s=false->cI s=[]:=λh=>by unfold cI;rw[h];rfl
 have hl:=md s;have hz:=oQ s;generalize cI s=V,bO s=ok at *;obtain⟨F,hF⟩:∃F,eu s=F:=⟨_,rfl⟩
 rw[hF] at HQ ⊢;go_enter Tryz.func16,Tryz.ntmps16;go_upto_region 1 with fail
 go_wp2_with fail
 refine (HQ.out w hE).mono ?_;rintro e w1 ⟨A,B,X,Y,E,L,vl,vr,rfl,he,ac,H,I⟩;obtain⟨a1,c1,rfl,_,_⟩:=id ac.form;obtain⟨a2,c2,rfl,_,_⟩:=id H.form;have⟨k2,ab⟩:=aw w1 #[A,B,X,Y,E,.slice a1 L.length c1,.slice a2 V.length c2] 65;have U:=af ab I.size I;replace ac:=ac.below ab;replace H:=H.below ab;have HE:=h_ he;have he:=HE.out;subst he;go_upto_region 2 with fail
 generalize w1.alloc _=W2 at *;have⟨_,_,_,_,_,s5,_⟩:=k2.q7;go_wp2;go_ret2;exact⟨_,rfl,ac,U⟩
def LM(s:aj)(hs:s.size<=1048576)(w)(ht:TabI w):
 Kp 15 #[s] w (KT w (eu s).L (bO s)):=by
 unfold eu;cases h:bO s
 .have H:=h_ (oI s hs h);go_enter Tryz.func15,Tryz.ntmps15;go_wp2_with fail
  refine ai (H.out _) λw1 I=>?_;go_wp2;go_ret2;exact⟨_,rfl,am.nil _ _,I⟩
 .have H:=h_ (λW (hW:TabI W)=>pg s hs h W hW);rw[Um rfl];have aa:=(qV pk (dW s)).2.2.2.2;obtain⟨q,hq⟩:∃q,cJ (dW s) dA=q:=⟨_,rfl⟩
  rw[hq] at aa ⊢;unfold qe at H;rw[hq] at H;go_enter Tryz.func15,Tryz.ntmps15;go_wp2_with fail
  refine (H.out w ht).mono ?_;rintro e w1 ⟨r,A,B,X,Y,E,L,reps,vl,v0,v1,rfl,rfl,hk,h3,h4,h5,h6,I⟩;simp only at aa;obtain⟨a1,c1,rfl,_,_⟩:=id h3.form;have⟨_,_,_,_,_,s5⟩:=hk.q6;have sl:=hk.lt;have a2:Below w1 w1 (w1.alloc (.cells #[] 70)):=(Uk _ _).alloc (Ug _) _;have aL:=af a2 I.size I;have V:=am.empty w1;go_upto_region 4 with fail
  go_wp2_with (at_builtin;refine My rfl _ _ rfl w1 _ _ [] L rfl rfl V (h3.rd.below a2) u_ s_ ?_;intro v' w4 bo bq)
  go_wp2;go_ret2;refine⟨v',rfl,by simpa using bo.le I.size,?_⟩;exact bq.belowGe aL aL.size (by intro k hk;have:=(am.lt V k (je hk)).1;omega)
def mk5(k:Int):E5:=((1+5*k,2+5*k),3+5*k,4+5*k,5+5*k)
def gI(n:Nat):aK:=(List.range n).map λ(i:Nat)=>mk5 i
def ww(n):(gI n).length=n:=by simp [gI]
def PN(n i)(h:i<(gI n).length):(gI n)[i]=mk5 i:=by simp [gI]
def jp(L:aK)(k:Nat):aK:=gI k++L.drop k
def wM(L)(k)(h:k<=L.length):(jp L k).length=L.length:=by simp [jp,gI];omega
def OY(L)(k)(h:k<L.length):
 (((((bw (jp L k)).set (k*5) (.int .i64 (1+5*(k)))).set (k*5+1) (.int .i64 (2+5*(k)))).set (k*5+2) (.int .i64 (3+5*(k)))).set (k*5+3) (.int .i64 (4+5*(k)))).set (k*5+4) (.int .i64 (5+5*(k)))=bw (jp L (k+1)):=by
 have e1:jp L (k+1)=gI k++(mk5 k::L.drop (k+1)):=by simp [jp,gI,Yk]
 have e2:jp L k=gI k++(L[k]::L.drop (k+1)):=by unfold jp;rw[Vq h]
 have e3:(bw (gI k)).length=k*5:=by rw[kc,ww]
 rw[e1,e2,qk,qk,kY,kY];have hs:∀(M:List Value) (j:Nat) (u:Value),(bw (gI k)++M).set (k*5+j) u=bw (gI k)++M.set j u:=λM j u=>by
  rw[WQ,Uj o_,e3,show k*5+j - k*5=j by omega]
 rw[show k*5=k*5+0 from rfl,hs,show k*5+0+1=k*5+1 from rfl,hs,show k*5+0+2=k*5+2 from rfl,hs,show k*5+0+3=k*5+3 from rfl,hs,show k*5+0+4=k*5+4 from rfl,hs];rfl
def Nd{w wr:World}{G}{L}{g F k:Nat}(hk:k<L.length)(Z:am wr G (.slice g L.length F) (jp L k))(hg:w.grownBy wr (some g)):
 am (((((wr.setCell ⟨g,k*5,none⟩ (.int .i64 (1+5*(k)))).setCell ⟨g,k*5+1,none⟩ (.int .i64 (2+5*(k)))).setCell ⟨g,k*5+2,none⟩ (.int .i64 (3+5*(k)))).setCell ⟨g,k*5+3,none⟩ (.int .i64 (4+5*(k)))).setCell ⟨g,k*5+4,none⟩ (.int .i64 (5+5*(k)))) G (.slice g L.length F) (jp L (k+1))/\
 w.grownBy (((((wr.setCell ⟨g,k*5,none⟩ (.int .i64 (1+5*(k)))).setCell ⟨g,k*5+1,none⟩ (.int .i64 (2+5*(k)))).setCell ⟨g,k*5+2,none⟩ (.int .i64 (3+5*(k)))).setCell ⟨g,k*5+3,none⟩ (.int .i64 (4+5*(k)))).setCell ⟨g,k*5+4,none⟩ (.int .i64 (5+5*(k)))) (some g):=by
 refine⟨?_,oE (oE (oE (oE (oE hg _ _) _ _) _ _) _ _) _ _⟩;unfold am at Z ⊢;rw[wM _ _ o_] at Z;rw[wM _ _ o_,<-OY L k hk];exact jJ (jJ (jJ (jJ (jJ Z rfl _ _) rfl _ _) rfl _ _) rfl _ _) rfl _ _
def am.at5{w}{G}{v}{L}(h:am w G v L):∃(a:bT) (F:Nat),v=.slice a L.length F/\∀i (hi:i<L.length),∃g,a=some ⟨g,0,none⟩/\w.cell? ⟨g,i*5,none⟩=some (.int .i64 L[i].1.1)/\w.cell? ⟨g,i*5+1,none⟩=some (.int .i64 L[i].1.2)/\w.cell? ⟨g,i*5+2,none⟩=some (.int .i64 L[i].2.1)/\w.cell? ⟨g,i*5+3,none⟩=some (.int .i64 L[i].2.2.1)/\w.cell? ⟨g,i*5+4,none⟩=some (.int .i64 L[i].2.2.2)/\g<w.heap.size/\G<=g/\∀o,w.frozen? ⟨g,o,none⟩=false:=by
 have⟨a,F,hv,_,hf⟩:=nD h;refine⟨a,F,hv,λi hi=>?_⟩;have⟨g,ha,h1,h2,h3,h4⟩:=hf i hi;have hc:=λk u hk hu=>h4 k u hk (by rw[oG L i hi k hk];exact hu);exact⟨g,ha,hc 0 _ o_ rfl,hc 1 _ o_ rfl,hc 2 _ o_ rfl,hc 3 _ o_ rfl,hc 4 _ o_ rfl,h1,h2,h3⟩
def NM(A B c d f:Int)(w):Rv 43 #[.agg #[A,B,c,d,f],.agg #[A,B,c,d,f]] w true:=by
 have⟨k1,k2,J⟩:=cr w #[A,B,c,d,f] 70 #[A,B,c,d,f] 70;go_enter Tryz.func43,Tryz.ntmps43;go_upto_region 1 with fail
 generalize (w.alloc _).alloc _=W at *;have⟨b3,dz,d3,cX,eG⟩:=k1.q5;have G:=k1.lt;have⟨F,U,H,K,V⟩:=k2.q5;have g:=k2.lt;go_wp2_with fail
 refine ai ((h_ (Be A B)).out _) λw1 I=>?_;replace k1:=k1.next I
 replace k2:=k2.next I
 have⟨_,_,d3,cX,eG⟩:=k1.q5;have⟨_,_,H,K,V⟩:=k2.q5;go_wp2;go_ret;exact⟨rfl,(af I J.size J)⟩
def BG(b Z)(v v')(L)(hL:L.length<=100000000)(w)(h1:am w b v L)(h2:am w Z v' L):
 Rv 17 #[v,v'] w true:=by
 obtain⟨a,F,rfl,H⟩:=h1.at5;obtain⟨a',ae,rfl,G⟩:=h2.at5;have HF:=h_ H;have J:=h_ G;go_enter Tryz.func17,Tryz.ntmps17;go_wp2;go_loopw [5] (λi wr=>∃k:Nat,k<=L.length/\i=.int .i64 k/\Below w w wr) (λi _=>L.length - (intOf i).toNat)
 case atStart=>exact⟨0,UB _,rfl,Uk _ _⟩
 case round=>
  obtain⟨k,hk,rfl,a8⟩:=hrel;by_cases aG:k<L.length
  .obtain⟨g,rfl,q0,q1,q2,q3,q4,hg,_⟩:=HF.out k aG;obtain⟨g',rfl,r0,r1,r2,r3,r4,K,_⟩:=J.out k aG;have gl:=Un hg a8.size;have V:=Un K a8.size;replace q0:=(a8.cell (p:=⟨g,k*5,none⟩) hg).trans q0;replace q1:=(a8.cell (p:=⟨g,k*5+1,none⟩) hg).trans q1;replace q2:=(a8.cell (p:=⟨g,k*5+2,none⟩) hg).trans q2;replace q3:=(a8.cell (p:=⟨g,k*5+3,none⟩) hg).trans q3;replace q4:=(a8.cell (p:=⟨g,k*5+4,none⟩) hg).trans q4;replace r0:=(a8.cell (p:=⟨g',k*5,none⟩) K).trans r0;replace r1:=(a8.cell (p:=⟨g',k*5+1,none⟩) K).trans r1;replace r2:=(a8.cell (p:=⟨g',k*5+2,none⟩) K).trans r2;replace r3:=(a8.cell (p:=⟨g',k*5+3,none⟩) K).trans r3;replace r4:=(a8.cell (p:=⟨g',k*5+4,none⟩) K).trans r4;generalize L[k]=x at *;have⟨⟨A,B⟩,c,d,f⟩:=x;simp only at q0 q1 q2 q3 q4 r0 r1 r2 r3 r4;have i0:(0:Int)<=(k:Int):=o_;have U:(k:Int)<(L.length:Int):=o_;go_upto_region 6 with fail
   (refine bP k_ k_ ?_;(repeat (go_big_quiet_step ((go_at_call 43;exact Calls.quiet_cls an _ ((h_ (NM A B c d f)).out _)))));refine wpQuiet_nil ?_;intro w1 I)
   go_wp2;go_roundw
   case rel=>exact⟨k+1,by omega,by go_num,af I a8.size a8⟩
   case measure=>exact aO
  .obtain rfl:k=L.length:=by omega
   go_wp2;go_ret;exact⟨rfl,a8⟩
def MV(G)(v)(L)(hL:L.length<=100000000)(w)(V:am w G v L):
 Kp 18 #[v,(1:Int)] w λe w'=>e=.returned (1+5*L.length:Int)/\am w' G v (gI L.length)/\w.grownBy w' v.ownBlock:=by
 obtain⟨a,F,rfl,H⟩:=V.at5;have HF:=h_ H;go_enter Tryz.func18,Tryz.ntmps18;go_wp2;go_loopw [1,5] (λm i wr=>∃k:Nat,k<=L.length/\m=.int .i64 (1+5*(k:Int))/\i=.int .i64 k/\am wr G (.slice a L.length F) (jp L k)/\w.grownBy wr (Value.slice a L.length F).ownBlock) (λ_ i _=>L.length - (intOf i).toNat)
 case atStart=>exact⟨0,UB _,rfl,rfl,V,⟨rfl,rfl,rfl,Ug _,λ_ _ _=>rfl⟩⟩
 case round=>
  obtain⟨k,hk,rfl,rfl,Z,hg⟩:=hrel;by_cases aG:k<L.length
  .obtain⟨g,rfl,_⟩:=HF.out k aG;have R:=Nd aG Z hg;have⟨a',ae,hv,hf⟩:=am.at5 Z;have⟨g',bz,q0,q1,q2,q3,q4,_,_,I⟩:=hf k (by rw[wM _ _ hk];exact aG);obtain⟨rfl,rfl⟩:a'=some ⟨g,0,none⟩/\ae=F:=by simp at hv;exact⟨hv.1.symm,hv.2.2.symm⟩
   obtain rfl:g'=g:=by simpa using bz.symm
   have f0:=I (k*5);have f1:=I (k*5+1);have f2:=I (k*5+2);have f3:=I (k*5+3);have f4:=I (k*5+4);have e2:(1+5*(k:Int))+1=2+5*(k:Int):=o_;have e3:(2+5*(k:Int))+1=3+5*(k:Int):=o_;have e4:(3+5*(k:Int))+1=4+5*(k:Int):=o_;have e5:(4+5*(k:Int))+1=5+5*(k:Int):=o_;have HR:=h_ R;clear R I hf bz hv;exact H7
  .obtain rfl:k=L.length:=by omega
   go_wp2;go_ret;refine⟨rfl,?_,hg⟩;have:jp L L.length=gI L.length:=by simp [jp]
   rw[this] at Z;exact Z
def A7(G)(v)(n)(hL:n<=100000000)(w)(V:am w G v (gI n)):
 Rw 19 #[v,(1:Int)] w (1+5*n:Int):=by
 obtain⟨a,F,rfl,H⟩:=V.at5;have HF:=h_ H;rw[ww];go_enter Tryz.func19,Tryz.ntmps19;go_wp2;go_loop [1,5] (λm i=>∃k:Nat,k<=n/\m=.int .i64 (1+5*(k:Int))/\i=.int .i64 k) (λ_ i=>n - (intOf i).toNat)
 case atStart=>exact⟨0,UB _,rfl,rfl⟩
 case round=>
  obtain⟨k,hk,rfl,rfl⟩:=hrel;by_cases aG:k<n
  .obtain⟨g,rfl,q0,q1,q2,q3,q4,_⟩:=HF.out k (by rw[ww];exact aG);rw[PN] at q0 q1 q2 q3 q4;simp only[mk5] at q0 q1 q2 q3 q4;have e2:(1+5*(k:Int))+1=2+5*(k:Int):=o_;have e3:(2+5*(k:Int))+1=3+5*(k:Int):=o_;have e4:(3+5*(k:Int))+1=4+5*(k:Int):=o_;have e5:(4+5*(k:Int))+1=5+5*(k:Int):=o_;exact Hk
  .obtain rfl:k=n:=by omega
   exact nh
def Sd(s):(eu s).L.length<=12:=by
 unfold eu;split
 .exact (qV pk (dW s)).2.2.2.2
 .exact UB _
def walk_FnExactCatalogueAtEnd(s:aj)(hs:s.size<=maxLen)(w)(hE:PEnv w):
 Rv 4 #[s] w true:=by
 have ad:=hs;unfold maxLen at ad;by_cases hb:s.size<=1048576
 .have hi:¬(1048576:Int)<(s.size:Int):=o_;have hL:=Sd s;have HS:=h_ (λW (hW:PEnv W)=>LM s hb W hW.1);have HI:=h_ (λW (hW:PEnv W)=>LN s hb W hW);generalize (eu s).L=L,bO s=b at *;have HE:=h_ hE;cases b
  all_goals
   go_enter Tryz.func4,Tryz.ntmps4;go_upto_region 3 with fail
   go_wp2_with fail
   refine (HS.out w HE.out).mono ?_;rintro e w2 ⟨v0,rfl,J,U⟩;have a8:=U.size;go_wp2_with fail
   refine (HI.out w2 (h_ (HE.out.below U)).out).mono ?_;rintro e w4 ⟨v1,rfl,o1,K⟩;have p0:=J.below K;have g:=af K a8 U;go_wp2_with fail
   refine (BG _ _ _ _ L o_ _ o1 p0).mono ?_;rintro e w5 ⟨rfl,ac⟩;have I:=K.size;go_wp2_with fail
   refine (MV _ _ L o_ _ (o1.below ac)).mono ?_;rintro e w6 ⟨rfl,m1,F⟩;have H:=AU (B:=w2.heap.size) F (by have:=ac.size;omega) (λk hk=>(o1.lt k hk).1);have G:=(af ac K.size K).trans H;have aa:=af G a8 U;go_wp2_with fail
   refine (A7 _ _ L.length o_ _ m1).mono ?_;rintro e w' ⟨rfl,rfl⟩;go_wp2_with fail
   refine (HI.out w6 (h_ (HE.out.below aa)).out).mono ?_;rintro e w8 ⟨v2,rfl,o2,ca⟩;have r0:=(J.below G).below ca;have a1:=af ca aa.size aa;go_wp2_with fail
   refine (BG _ _ _ _ L o_ _ o2 r0).mono ?_;rintro e w9 ⟨rfl,aZ⟩;have m3:=(m1.below ca).below aZ;go_wp2_with fail
   refine (A7 _ _ L.length o_ _ m3).mono ?_;rintro e w' ⟨rfl,rfl⟩;go_wp2;go_ret;exact⟨rfl,(af aZ a1.size a1)⟩
 .have hi:(1048576:Int)<(s.size:Int):=o_;go_enter Tryz.func4,Tryz.ntmps4;exact nU
end Go.Proofs.YtaamhakdhaolmaaGreatDoor
