/- Part 32. -/
import Derived.Test.YtaamhakdhaolmaaGreatDoorSbf
namespace Go.Proofs.YtaamhakdhaolmaaGreatDoor
open Go.RowKit Go.Proofs.Tryz
set_option maxHeartbeats 8000000
set_option maxRecDepth 100000
variable {P:Prop}
set_option linter.all false
def Hv(h:P:=by simp [results,results31,go_sem,R0,R1,R2]):=h
def Jk(h:P:=by simp [results,results29,go_sem,R0,R1]):=h
def qh(h:P:=by
 exact⟨rfl,hO.belowGe aF aF.size iB⟩):=h
def BB(s:ak)(hs:s.size<=1048576)(w)(hE:PEnv w):
 Rv 28 #[s] w (.tuple #[.agg #[.int .i64 (eA s).A,.int .i64 (eA s).B],.bool (bf s)]):=by
 have hq:=λW hW=>pc s hs W hW;unfold oE at hq;have HQ:=h_ hq;have aa:bf s=false->bJ s=[]:=λh=>by unfold bJ;rw[h];rfl
 have hl:=mr s;have hz:=pd s;generalize bJ s=V,bf s=ok at *;obtain⟨F,hF⟩:∃F,eA s=F:=⟨_,rfl⟩
 rw[hF] at HQ ⊢;have⟨k0,J⟩:=ay w #[(),()] 42;have Z:=hE.below J;go_enter func28,ntmps28;go_upto_region 1 with fail
 generalize w.alloc _=W0 at *;go_wp2_with fail
 refine (HQ.out W0 Z).mono ?_;rintro e w1 ⟨A,B,X,Y,E,L,vl,vr,rfl,he,ae,H,I⟩;obtain⟨a1,c1,rfl,_,_⟩:=id ae.form;obtain⟨a2,c2,rfl,_,_⟩:=id H.form;have⟨k2,ab⟩:=ay w1 #[A,B,X,Y,E,.slice a1 L.length c1,.slice a2 V.length c2] 65;have U:=ag ab I.size I;replace ae:=ae.below ab;replace H:=H.below ab;have HE:=h_ he;have ac:=I.size;have he:=HE.out;subst he;have aF:=ag U J.size J;have hne:w1.heap.size≠w.heap.size:=by have:=k0.lt;omega
 replace k0:=k0.next U
 go_upto_region 2 with fail
 generalize w1.alloc _=W2 at *;have⟨s0,s1,_,_,_,_,_⟩:=k2.q7;have z0:=k0.frozen 0;have y0:=k0.q1;have z1:=k0.frozen 1;have⟨_,y1⟩:=k0.q2;have R:=((k0.set 0 A).set 1 B)
 have hO:ai [w.heap.size] W2 ((W2.setCell w A).setCell ⟨w,1,none⟩ B):=(((ai.refl [w.heap.size] W2).setCell (.inr s_) _).setCell (.inr s_) _)
 simp at R;go_wp2;generalize ((W2.setCell w A).setCell ⟨w,1,none⟩ B)=W9 at R hO ⊢;have⟨R0,R1⟩:=R.q2;exact Vk (v:=.tuple #[.agg #[A,B],ok]) (by simp [results,results28,go_sem,R0,R1]) rfl qh
def Nj(s:ak)(hs:s.size<=1048576)(w)(ht:TabI w):
 Rv 29 #[s] w (.tuple #[.agg #[.int .i64 (eA s).A,.int .i64 (eA s).B],.bool (bf s)]):=by
 unfold eA;have⟨k0,J⟩:=ay w #[(),()] 42;cases h:bf s
 .have H:=h_ (qM s hs h);go_enter func29,ntmps29;go_upto_region 1 with fail
  generalize w.alloc _=W0 at *;go_wp2_with fail
  refine aj (H.out _) λw1 I=>?_;have aF:=ag I J.size J;replace k0:=k0.next I
  have z0:=k0.frozen 0;have y0:=k0.q1;have z1:=k0.frozen 1;have⟨_,y1⟩:=k0.q2;have R:=((k0.set 0 ()).set 1 ())
  have hO:ai [w.heap.size] w1 ((w1.setCell w ()).setCell ⟨w,1,none⟩ ()):=(((ai.refl [w.heap.size] w1).setCell (.inr s_) _).setCell (.inr s_) _)
  simp at R;go_wp2;generalize ((w1.setCell w ()).setCell ⟨w,1,none⟩ ())=W9 at R hO ⊢;have⟨R0,R1⟩:=R.q2;exact Vk (v:=.tuple #[.agg #[(),()],false]) Jk rfl qh
 .have H:=h_ (λW (hW:TabI W)=>rq s hs h W hW);rw[Vo rfl];obtain⟨q,hq⟩:∃q,b_ (cV s) dC=q:=⟨_,rfl⟩
  rw[hq];unfold ti at H;rw[hq] at H;have cu:=ht.below J;go_enter func29,ntmps29;go_upto_region 1 with fail
  generalize w.alloc _=W0 at *;go_wp2_with fail
  refine (H.out W0 cu).mono ?_;rintro e w1 ⟨r,A,B,X,Y,E,L,reps,vl,v0,v1,rfl,rfl,hk,h3,h4,h5,h6,I⟩;have aF:=ag I J.size J;replace k0:=k0.next I
  have⟨s0,s1,_,_,_⟩:=hk.q5;have z0:=k0.frozen 0;have y0:=k0.q1;have z1:=k0.frozen 1;have⟨_,y1⟩:=k0.q2;have R:=((k0.set 0 A).set 1 B)
  have hO:ai [w.heap.size] w1 ((w1.setCell w A).setCell ⟨w,1,none⟩ B):=(((ai.refl [w.heap.size] w1).setCell (.inr s_) _).setCell (.inr s_) _)
  simp at R;go_wp2;generalize ((w1.setCell w A).setCell ⟨w,1,none⟩ B)=W9 at R hO ⊢;have⟨R0,R1⟩:=R.q2;exact Vk (v:=.tuple #[.agg #[A,B],true]) Jk rfl qh
def Bw(s:ak)(hs:s.size<=1048576)(w)(hE:PEnv w):
 Rv 30 #[s] w (.tuple #[.agg #[.int .i64 (eA s).X,.int .i64 (eA s).Y,.int .i64 (eA s).E],.bool (bf s)]):=by
 have hq:=λW hW=>pc s hs W hW;unfold oE at hq;have HQ:=h_ hq;have aa:bf s=false->bJ s=[]:=λh=>by unfold bJ;rw[h];rfl
 have hl:=mr s;have hz:=pd s;generalize bJ s=V,bf s=ok at *;obtain⟨F,hF⟩:∃F,eA s=F:=⟨_,rfl⟩
 rw[hF] at HQ ⊢;have⟨k0,J⟩:=ay w #[(),(),()] 46;have Z:=hE.below J;go_enter func30,ntmps30;go_upto_region 1 with fail
 generalize w.alloc _=W0 at *;go_wp2_with fail
 refine (HQ.out W0 Z).mono ?_;rintro e w1 ⟨A,B,X,Y,E,L,vl,vr,rfl,he,ae,H,I⟩;obtain⟨a1,c1,rfl,_,_⟩:=id ae.form;obtain⟨a2,c2,rfl,_,_⟩:=id H.form;have⟨k2,ab⟩:=ay w1 #[A,B,X,Y,E,.slice a1 L.length c1,.slice a2 V.length c2] 65;have U:=ag ab I.size I;replace ae:=ae.below ab;replace H:=H.below ab;have HE:=h_ he;have ac:=I.size;have he:=HE.out;subst he;have aF:=ag U J.size J;have hne:w1.heap.size≠w.heap.size:=by have:=k0.lt;omega
 replace k0:=k0.next U
 go_upto_region 2 with fail
 generalize w1.alloc _=W2 at *;have⟨_,_,s2,s3,s4,_,_⟩:=k2.q7;have z0:=k0.frozen 0;have y0:=k0.q1;have z1:=k0.frozen 1;have⟨_,y1⟩:=k0.q2;have z2:=k0.frozen 2;have⟨_,_,y2⟩:=k0.q3;have R:=(((k0.set 0 X).set 1 Y).set 2 E)
 have hO:ai [w.heap.size] W2 (((W2.setCell w X).setCell ⟨w,1,none⟩ Y).setCell ⟨w,2,none⟩ E):=((((ai.refl [w.heap.size] W2).setCell (.inr s_) _).setCell (.inr s_) _).setCell (.inr s_) _)
 simp at R;go_wp2;generalize (((W2.setCell w X).setCell ⟨w,1,none⟩ Y).setCell ⟨w,2,none⟩ E)=W9 at R hO ⊢;have⟨R0,R1,R2⟩:=R.q3;exact Vk (v:=.tuple #[.agg #[X,Y,E],ok]) (by simp [results,results30,go_sem,R0,R1,R2]) rfl qh
def Nl(s:ak)(hs:s.size<=1048576)(w)(ht:TabI w):
 Rv 31 #[s] w (.tuple #[.agg #[.int .i64 (eA s).X,.int .i64 (eA s).Y,.int .i64 (eA s).E],.bool (bf s)]):=by
 unfold eA;have⟨k0,J⟩:=ay w #[(),(),()] 46;cases h:bf s
 .have H:=h_ (qM s hs h);go_enter func31,ntmps31;go_upto_region 1 with fail
  generalize w.alloc _=W0 at *;go_wp2_with fail
  refine aj (H.out _) λw1 I=>?_;have aF:=ag I J.size J;replace k0:=k0.next I
  have z0:=k0.frozen 0;have y0:=k0.q1;have z1:=k0.frozen 1;have⟨_,y1⟩:=k0.q2;have z2:=k0.frozen 2;have⟨_,_,y2⟩:=k0.q3;have R:=(((k0.set 0 ()).set 1 ()).set 2 ())
  have hO:ai [w.heap.size] w1 (((w1.setCell w ()).setCell ⟨w,1,none⟩ ()).setCell ⟨w,2,none⟩ ()):=((((ai.refl [w.heap.size] w1).setCell (.inr s_) _).setCell (.inr s_) _).setCell (.inr s_) _)
  simp at R;go_wp2;generalize (((w1.setCell w ()).setCell ⟨w,1,none⟩ ()).setCell ⟨w,2,none⟩ ())=W9 at R hO ⊢;have⟨R0,R1,R2⟩:=R.q3;exact Vk (v:=.tuple #[.agg #[(),(),()],false]) Hv rfl qh
 .have H:=h_ (λW (hW:TabI W)=>rq s hs h W hW);rw[Vo rfl];obtain⟨q,hq⟩:∃q,b_ (cV s) dC=q:=⟨_,rfl⟩
  rw[hq];unfold ti at H;rw[hq] at H;have cu:=ht.below J;go_enter func31,ntmps31;go_upto_region 1 with fail
  generalize w.alloc _=W0 at *;go_wp2_with fail
  refine (H.out W0 cu).mono ?_;rintro e w1 ⟨r,A,B,X,Y,E,L,reps,vl,v0,v1,rfl,rfl,hk,h3,h4,h5,h6,I⟩;have aF:=ag I J.size J;replace k0:=k0.next I
  have⟨_,_,s2,s3,s4⟩:=hk.q5;have z0:=k0.frozen 0;have y0:=k0.q1;have z1:=k0.frozen 1;have⟨_,y1⟩:=k0.q2;have z2:=k0.frozen 2;have⟨_,_,y2⟩:=k0.q3;have R:=(((k0.set 0 X).set 1 Y).set 2 E)
  have hO:ai [w.heap.size] w1 (((w1.setCell w X).setCell ⟨w,1,none⟩ Y).setCell ⟨w,2,none⟩ E):=((((ai.refl [w.heap.size] w1).setCell (.inr s_) _).setCell (.inr s_) _).setCell (.inr s_) _)
  simp at R;go_wp2;generalize (((w1.setCell w X).setCell ⟨w,1,none⟩ Y).setCell ⟨w,2,none⟩ E)=W9 at R hO ⊢;have⟨R0,R1,R2⟩:=R.q3;exact Vk (v:=.tuple #[.agg #[X,Y,E],true]) Hv rfl qh
def MV(a b:ak)(w)(ha:a.size<=2000000)(hb:b.size<=2000000):
 Rw 24 #[a,b] w (.tuple #[.string (if (bf a&&bf b&&bf (a++b)) then a++b else ⟨#[]⟩),.bool (bf a&&bf b&&bf (a++b))]):=by
 have bv:(a++b).size=a.size+b.size:=Vu;have HA:=λw=>Vr (P:=prog) w a b o_;cases h1:bf a
 .go_enter func24,ntmps24;go_wp2_with ((go_at_call 47;refine (oT _ _ o_).mono ?_;rintro e w' ⟨rfl,rfl⟩))
  go_ret2;exact⟨rfl,rfl⟩
 .cases h2:bf b
  .go_enter func24,ntmps24;go_wp2_with ((go_at_call 47;refine (oT _ _ o_).mono ?_;rintro e w' ⟨rfl,rfl⟩))
   go_ret2;exact⟨rfl,rfl⟩
  .cases h3:bf (a++b)
   all_goals
    go_enter func24,ntmps24;go_wp2_with ((go_at_call 47;refine (oT _ _ o_).mono ?_;rintro e w' ⟨rfl,rfl⟩))
    go_ret2;exact⟨rfl,rfl⟩
def M7(a b:ak)(w)(ha:a.size<=2000000)(hb:b.size<=2000000):
 Rv 25 #[a,b] w (.tuple #[.string (if (bf a&&bf b&&bf (a++b)) then a++b else ⟨#[]⟩),.bool (bf a&&bf b&&bf (a++b))]):=by
 have bv:(a++b).size=a.size+b.size:=Vu;have HA:=λw=>Vr (P:=prog) w a b o_;have H1:=h_ (λw=>qJ a w o_);have H2:=h_ (λw=>qJ b w o_);have H3:=h_ (λw=>qJ (a++b) w o_);generalize bf a=x at H1 ⊢;generalize bf b=y at H2 ⊢;generalize bf (a++b)=z at H3 ⊢;cases x<;>cases y<;>cases z
 all_goals
  go_enter func25,ntmps25;go_wp2_with fail
  refine (H1.out _).mono ?_;rintro e w1 ⟨a1,n1,c1,rfl,I,_⟩;have ac:=I.size;go_wp2_with fail
  refine (H2.out _).mono ?_;rintro e w2 ⟨a2,n2,c2,rfl,U,_⟩;go_wp2_with fail
  refine (H3.out _).mono ?_;rintro e w3 ⟨a3,n3,c3,rfl,aF,_⟩;go_wp2_with fail
  go_ret2;exact⟨rfl,I.trans ((U.mono ac).trans (aF.mono (Vl ac U.size)))⟩
noncomputable def wS(s:ak):Int:=((bC cq (bJ s)).length:Int)
noncomputable def wQ(s:ak):Int:=((bC cE (bJ s)).length:Int)
noncomputable def Bl(s:ak):Value:=.tuple #[wS s,wQ s,((bJ s).length - wS s - wQ s:Int),.bool (bf s)]
def DV(p:ak->Bool)(L:bW)(k)(h:k<L.length):((bC p (L.take (k+1))).length:Int)=if p L[k] then ((bC p (L.take k)).length:Int)+1 else ((bC p (L.take k)).length:Int):=by
 rw[VF h,jX];split
 .simp
 .rfl
def MR(s:ak)(hs:s.size<=1048576)(w)(hE:PEnv w):
 Rv 32 #[s] w (Bl s):=by
 unfold Bl wS wQ;have hq:=λW hW=>pc s hs W hW;unfold oE at hq;have HQ:=h_ hq;have aa:bf s=false->bJ s=[]:=λh=>by unfold bJ;rw[h];rfl
 have hl:=mr s;have hz:=pd s;generalize bJ s=V,bf s=ok at *;go_enter func32,ntmps32;go_wp2_with fail
 refine (HQ.out w hE).mono ?_;rintro e w1 ⟨A,B,X,Y,E,L,vl,vr,rfl,he,ae,H,I⟩;obtain⟨a1,c1,rfl,_,_⟩:=id ae.form;obtain⟨a2,c2,rfl,_,_⟩:=id H.form;have⟨k2,ab⟩:=ay w1 #[A,B,X,Y,E,.slice a1 L.length c1,.slice a2 V.length c2] 65;have U:=ag ab I.size I;replace ae:=ae.below ab;replace H:=H.below ab;have HE:=h_ he;go_upto_region 2 with fail
 generalize w1.alloc _=W2 at *;have⟨s0,s1,s2,s3,s4,s5,s6,sl⟩:=k2.p7;have⟨a',c',e',_,hf⟩:=H.form;injection e' with e';subst e';have HF:=h_ hf;go_wp2;go_loopw [8,9,20] (λF J iv wr=>∃k:Nat,F=.int .i64 ((bC cq (V.take k)).length:Int)/\J=.int .i64 ((bC cE (V.take k)).length:Int)/\iv=.int .i64 k/\k<=V.length/\wr=W2) (λ_ _ iv _=>V.length - (intOf iv).toNat)
 case atStart=>exact⟨0,rfl,rfl,rfl,VH _,rfl⟩
 case round=>
  obtain⟨k,rfl,rfl,rfl,b2,rfl⟩:=hrel;have aL:=lL cq (V.take k);have ad:=lL cE (V.take k);rw[VM] at aL ad;by_cases aG:k<V.length
  .obtain⟨g,rfl,q0,_,_,_⟩:=HF.out k aG;have H1:=h_ (DV cq V k aG);have H2:=h_ (DV cE V k aG);generalize V[k]=x,(bC cq (V.take k)).length=a0,(bC cE (V.take k)).length=b0 at *;cases hn:cq x
   .cases G:cE x
    .have HN:=h_ hn;have HW:=h_ G;unfold cq at hn;unfold cE at G;go_wp2;go_roundw
     case rel=>exact⟨k+1,by rw[H1.out,HN.out];rfl,by rw[H2.out,HW.out];rfl,by go_num,o_,trivial⟩
     case measure=>exact aJ
    .have HN:=h_ hn;have HW:=h_ G;unfold cq at hn;unfold cE at G;go_wp2;go_roundw
     case rel=>exact⟨k+1,by rw[H1.out,HN.out];rfl,by rw[H2.out,HW.out,Vo rfl],by go_num,o_,trivial⟩
     case measure=>exact aJ
   .have HN:=h_ hn;have HW:=h_ (DG hn);unfold cq at hn;go_wp2;go_roundw
    case rel=>exact⟨k+1,by rw[H1.out,HN.out,Vo rfl],by rw[H2.out,HW.out];rfl,by go_num,o_,trivial⟩
    case measure=>exact aJ
  .obtain rfl:k=V.length:=o_
   have HT:Hid (V.take V.length=V):=h_ (Wa);rw[HT.out] at aL ad ⊢;go_upto_region 12 with fail
   (refine bR k_ k_ ?_;(repeat (go_big_quiet_step ((fail))));refine wpQuiet_nil ?_;intro w9 aZ)
   go_wp2;exact Vk (v:=.tuple #[.int .i64 ((bC cq V).length:Int),.int .i64 ((bC cE V).length:Int),.int .i64 (V.length - ((bC cq V).length:Int) - ((bC cE V).length:Int)),ok]) (by simp [results,results32,go_sem]) rfl ⟨rfl,ag aZ U.size U⟩
def I2(h:P:=by
 unfold execOp;simp only[Z,resolve,invoke,builtin,Y6,Y7,Yk,Yt,WU,X7,hs,hx,h1]):=h
def Nn{ops}{rest}{o}{a}{Q}{w}(aa:o.guard=none)(s x)
 (Z:o.op=.call {callee:=.builtin .append,args:=#[s,x],argTypes:=#[28,28]})
 (G)(v y)(L M)(hs:a.eval s=v)(hx:a.eval x=y)(V:an w G v L)(hr:dv w y M)(hn:L.length+M.length<=1000)(H:G<=w.heap.size)
 (h:∀v' w',an w' G v' (L++M)->ai v.ownBlock.toList w w'->wpList prog ops Q rest (a.put o.dst v') w'):wpList prog ops Q (o::rest) a w:=by
 have⟨v',w',h1,h2,h3,_⟩:=uh w G o.type v y L M V hr hn H;refine Y5 aa λK hK=>?_;have he:(execOp a.eval o).run prog w=.ok (.value v') w':=by
  exact I2
 unfold Oper.wp;rw[he];simp only[Oper.upon];exact hK _ _ (h v' w' h2 ⟨h3.os,h3.tape,h3.output,h3.size,λk hk hm=>h3.block k hk (λh=>hm wf)⟩)
def LN(w:World)(L:bM)(b:Bool)(e:Ending)(w':World):Prop:=∃v,e=.returned (.tuple #[v,b])/\an w' w v L/\af w w w'
def Bn(s:ak)(hs:s.size<=1048576)(w)(hE:PEnv w):
 Kp 16 #[s] w (LN w (eA s).L (bf s)):=by
 have hq:=λW hW=>pc s hs W hW;unfold oE at hq;have HQ:=h_ hq;have aa:bf s=false->bJ s=[]:=λh=>by unfold bJ;rw[h];rfl
 have hl:=mr s;have hz:=pd s;generalize bJ s=V,bf s=ok at *;obtain⟨F,hF⟩:∃F,eA s=F:=⟨_,rfl⟩
 rw[hF] at HQ ⊢;go_enter func16,ntmps16;go_upto_region 1 with fail
 go_wp2_with fail
 refine (HQ.out w hE).mono ?_;rintro e w1 ⟨A,B,X,Y,E,L,vl,vr,rfl,he,ae,H,I⟩;obtain⟨a1,c1,rfl,_,_⟩:=id ae.form;obtain⟨a2,c2,rfl,_,_⟩:=id H.form;have⟨k2,ab⟩:=ay w1 #[A,B,X,Y,E,.slice a1 L.length c1,.slice a2 V.length c2] 65;have U:=ag ab I.size I;replace ae:=ae.below ab;replace H:=H.below ab;have HE:=h_ he;have he:=HE.out;subst he;go_upto_region 2 with fail
 generalize w1.alloc _=W2 at *;have⟨_,_,_,_,_,s5,_⟩:=k2.q7;go_wp2;go_ret2;exact⟨_,rfl,ae,U⟩
def ME(s:ak)(hs:s.size<=1048576)(w)(ht:TabI w):
 Kp 15 #[s] w (LN w (eA s).L (bf s)):=by
 unfold eA;cases h:bf s
 .have H:=h_ (qM s hs h);go_enter func15,ntmps15;go_wp2_with fail
  refine aj (H.out _) λw1 I=>?_;go_wp2;go_ret2;exact⟨_,rfl,an.nil _ _,I⟩
 .have H:=h_ (λW (hW:TabI W)=>rq s hs h W hW);rw[Vo rfl];have aa:=(ru pz (cV s)).2.2.2.2;obtain⟨q,hq⟩:∃q,b_ (cV s) dC=q:=⟨_,rfl⟩
  rw[hq] at aa ⊢;unfold ti at H;rw[hq] at H;go_enter func15,ntmps15;go_wp2_with fail
  refine (H.out w ht).mono ?_;rintro e w1 ⟨r,A,B,X,Y,E,L,reps,vl,v0,v1,rfl,rfl,hk,h3,h4,h5,h6,I⟩;simp only at aa;obtain⟨a1,c1,rfl,_,_⟩:=id h3.form;have⟨_,_,_,_,_,s5,sl⟩:=hk.p6;have a2:af w1 w1 (w1.alloc (.cells #[] 70)):=(Vn _ _).alloc (Vj _) _;have aL:=ag a2 I.size I;have V:=an.empty w1;go_upto_region 4 with fail
  go_wp2_with (at_builtin;refine Nn rfl _ _ rfl w1 _ _ [] L rfl rfl V (h3.rd.below a2) u_ s_ ?_;intro v' w4 bb bo)
  go_wp2;go_ret2;refine⟨v',rfl,by simpa using bb.le I.size,?_⟩;exact bo.belowGe aL aL.size (by intro k hk;have:=(an.lt V k (jr hk)).1;omega)
def an.at5{w}{G}{v}{L}(h:an w G v L):∃(a:ck) (F:Nat),v=.slice a L.length F/\∀i (hi:i<L.length),∃g,a=some ⟨g,0,none⟩/\w.cell? ⟨g,i*5,none⟩=some (.int .i64 L[i].1.1)/\w.cell? ⟨g,i*5+1,none⟩=some (.int .i64 L[i].1.2)/\w.cell? ⟨g,i*5+2,none⟩=some (.int .i64 L[i].2.1)/\w.cell? ⟨g,i*5+3,none⟩=some (.int .i64 L[i].2.2.1)/\w.cell? ⟨g,i*5+4,none⟩=some (.int .i64 L[i].2.2.2)/\g<w.heap.size/\G<=g/\∀o,w.frozen? ⟨g,o,none⟩=false:=by
 have⟨a,F,hv,_,hf⟩:=nQ h;refine⟨a,F,hv,λi hi=>?_⟩;have⟨g,ha,h1,h2,h3,h4⟩:=hf i hi;have hc:=λk u hk hu=>h4 k u hk (by rw[oR L i hi k hk];exact hu);exact⟨g,ha,hc 0 _ o_ rfl,hc 1 _ o_ rfl,hc 2 _ o_ rfl,hc 3 _ o_ rfl,hc 4 _ o_ rfl,h1,h2,h3⟩
def ig(w:World)(x:Value)(M:List Int):Prop:=(M=[]/\x=.slice none 0 0)\/∃g off c,x=.slice (some ⟨g,off,none⟩) M.length c/\(M≠[]->g<w.heap.size)/\∀j u,(M.map (Value.int .i64))[j]?=some u->w.cell? ⟨g,off+j,none⟩=some u
def ig.below{w w1}{x}{M}(h:ig w x M)(hb:af w w w1):ig w1 x M:=by
 rcases h with h|⟨g,off,c,h1,h2,h3⟩
 .exact .inl h
 .refine .inr ⟨g,off,c,h1,λhm=>Vp (h2 hm) hb.size,λj u hu=>?_⟩;have hm:M≠[]:=λhm=>by rw[hm] at hu;simp at hu
  rw[hb.cell (p:=⟨g,off+j,none⟩) (h2 hm)];exact h3 j u hu
def ar.rdj{w}{G}{v}{L}(h:ar w G v L):ig w v L:=by
 rcases h.2 with ⟨hv,hn⟩|⟨g,F,cur,hv,_,hh,_,_,_,ht⟩
 .exact .inl ⟨VY.1 hn,hv⟩
 .refine .inr ⟨g,0,F,hv,λ_=>(Vz.1 hh).1,λj u hu=>?_⟩;have aG:=by simpa using (V3.1 hu).1
  have h4:(cur.toList.take (L.length*1))[j]?=cur.toList[j]?:=VU o_;rw[ht,hu,WS] at h4;exact I0
def ar.empty(w:World):ar (w.alloc (.cells #[] 3)) w (.slice w 0 0) []:=
 ⟨rfl,.inr ⟨w,0,#[],rfl,Vj _,ah.new w _ _,Vj _,by unfold maxLen;omega,rfl,rfl⟩⟩
def Rc(w)(G)(ty)(v x)(L M)(V:ar w G v L)(hx:ig w x M)(hn:L.length+M.length<=1000)(H:G<=w.heap.size):
 ∃v' w',(Builtin.append_ #[22,22] ty #[v,x]).run prog w=.ok v' w'/\ar w' G v' (L++M)/\ai v.ownBlock.toList w w':=by
 have⟨U,hi,bi,ac,ba⟩:=WL Tryz.infoI;rcases hx with ⟨rfl,rfl⟩|⟨g,off,c,rfl,_,hc⟩
 .have⟨a,F,hv,bo,_⟩:=nQ V;subst hv;refine⟨_,w,run_append_nothing w 22 22 ty 3 U underlying22 hi a _ F bo _ ?_,by simpa using V,.refl _ _⟩;exact Src.ofNil w underlying22 0
 .have⟨v',w',h1,h2,h3,_,_⟩:=run_append_own_at (P:=prog) w G 22 ty 3 U (.int .i64 0) 1 8 underlying22 hi bi ac ba rfl d_ v L.length (L.map (Value.int .i64)) V ⟨g,off,none⟩ M.length c (M.map (Value.int .i64)) s_ (λj u hj=>by
   rw[show (⟨g,off,none⟩:Addr).add j=⟨g,off+j,none⟩ by cases j<;>simp [Addr.add]];exact hc j u hj) (by intro u hu;simp at hu;obtain⟨y,_,rfl⟩:=hu;rfl) pN o_ H
  refine⟨v',w',h1,?_,h3.os,h3.tape,h3.output,h3.size,λk hk hn=>h3.block k hk (λh=>hn wf)⟩;unfold ar;rw[VI,Xi];exact h2
def LA{a:Act}{o}{s x}{w}{G}{v y}{L M}(Z:o.op=.call {callee:=.builtin .append,args:=#[s,x],argTypes:=#[22,22]})(hs:a.eval s=v)(hx:a.eval x=y)(V:ar w G v L)(hr:ig w y M)(hn:L.length+M.length<=1000)(H:G<=w.heap.size):
 ∃v' w',(execOp a.eval o).run prog w=.ok (.value v') w'/\ar w' G v' (L++M)/\ai v.ownBlock.toList w w':=by
 have⟨v',w',h1,h2,h3⟩:=Rc w G o.type v y L M V hr hn H;refine⟨v',w',?_,h2,h3⟩;exact I2
def oQ{ops}{rest}{o}{a}{Q}{w}(aa:o.guard=none)(s x)
 (Z:o.op=.call {callee:=.builtin .append,args:=#[s,x],argTypes:=#[22,22]})
 (G)(v y)(L M)(hs:a.eval s=v)(hx:a.eval x=y)(V:ar w G v L)(hr:ig w y M)(hn:L.length+M.length<=1000)(H:G<=w.heap.size)
 (h:∀v' w',ar w' G v' (L++M)->ai v.ownBlock.toList w w'->wpList prog ops Q rest (a.put o.dst v') w'):wpList prog ops Q (o::rest) a w:=by
 have⟨v',w',he,h2,h3⟩:=LA Z hs hx V hr hn H;refine Y5 aa λK hK=>?_;unfold Oper.wp;rw[he];simp only[Oper.upon];exact hK _ _ (h v' w' h2 h3)
def fP:List Int->Int->List Int
 |[],n=>[n]
 |x::l,n=>if x<n then x::fP l n else if x=n then x::l else n::x::l
theorem yD:∀(L) (n) (k),k<=L.length->(∀i (h:i<L.length),i<k->L[i]<n)->(∀h:k<L.length,¬L[k]<n)->fP L n=if L[k]?=some n then L else L.take k++n::L.drop k
 |[],n,k,hk,_,_=>by
  obtain rfl:k=0:=by simpa using hk
  rfl
 |x::l,n,0,_,_,h2=>by
  have hx:=h2 s_;simp only[XI] at hx;unfold fP;rw[Vm hx];by_cases he:x=n
  .rw[Vo he,Vo (by simp [he])]
  .rw[Vm he,Vm (by simpa using he)];rfl
 |x::l,n,k+1,hk,h1,h2=>by
  have hx:=h1 0 s_ o_;simp at hx;unfold fP;rw[Vo hx,yD l n k vQ (λi h hi=>by have:=h1 (i+1) kH o_;simpa using this) (λh=>by have:=h2 kH;simpa using this)];simp;split<;>rfl
def Dm(L)(n x):x∈fP L n↔x∈L\/x=n:=by
 induction L with
 |nil=>simp [fP]
 |cons y l g=>
  unfold fP;split
  .simp only[VL,g];constructor
   .rintro (h|h|h)
    .exact .inl (.inl h)
    .exact .inl (.inr h)
    .exact .inr h
   .rintro ((h|h)|h)
    .exact .inl h
    .exact .inr (.inl h)
    .exact .inr (.inr h)
  .split
   .rename_i h;subst h;simp only[VL];constructor
    .exact .inl
    .rintro (h|h)
     .exact h
     .exact .inl h
   .simp;constructor
    .rintro (h|h|h)
     .exact .inr h
     .exact .inl (.inl h)
     .exact .inl (.inr h)
    .rintro ((h|h)|h)
     .exact .inr (.inl h)
     .exact .inr (.inr h)
     .exact .inl h
def Of{L}(h:L.Pairwise (·<·))(n):(fP L n).Pairwise (·<·):=by
 induction L with
 |nil=>simp [fP]
 |cons y l g=>
  rw[Xr] at h;unfold fP;split
  .rename_i hy;rw[Xr];refine⟨λa ha=>?_,g h.2⟩;rcases (Dm l n a).1 ha with ha|ha
   .exact h.1 a ha
   .omega
  .split
   .rw[Xr];exact h
   .rename_i h1 h2;rw[Xr,Xr];refine⟨λa ha=>?_,h⟩;rcases VL.1 ha with rfl|ha
    .omega
    .have:=h.1 a ha;omega
def Rf(L)(n):(fP L n).length<=L.length+1:=by
 induction L with
 |nil=>simp [fP]
 |cons y l g=>
  unfold fP;split
  .simp;omega
  .split
   .simp
   .simp
theorem CB:∀{L M:List Int},L.Pairwise (·<·)->M.Pairwise (·<·)->(∀x,x∈L↔x∈M)->L=M
 |[],[],_,_,_=>rfl
 |[],y::m,_,_,h=>by have:=(h y).2 s_;simp at this
 |x::l,[],_,_,h=>by have:=(h x).1 s_;simp at this
 |x::l,y::m,hl,hm,h=>by
  rw[Xr] at hl hm;have bi:x=y:=by
   have h1:=(h x).1 s_;have h2:=(h y).2 s_;rcases VL.1 h1 with h1|h1
   .exact h1
   .rcases VL.1 h2 with h2|h2
    .exact h2.symm
    .have:=hl.1 y h2;have:=hm.1 x h1;omega
  subst bi;rw[CB hl.2 hm.2 λz=>?_];constructor
  .intro hz;have:=hl.1 z hz;rcases VL.1 ((h z).1 (by simp [hz])) with h1|h1
   .omega
   .exact h1
  .intro hz;have:=hm.1 z hz;rcases VL.1 ((h z).2 (by simp [hz])) with h1|h1
   .omega
   .exact h1
def kc(L:List Int)(M:List Int):List Int:=M.foldl fP L
def Qj(M):∀(L) (x),x∈kc L M↔x∈L\/x∈M:=by
 induction M with
 |nil=>intro L x;simp [kc]
 |cons m M g=>
  intro L x;show x∈kc (fP L m) M↔_;rw[g,Dm,VL,or_assoc]
def NK(M):∀{L},L.Pairwise (·<·)->(kc L M).Pairwise (·<·):=by
 induction M with
 |nil=>intro L h;exact h
 |cons m M g=>intro L h;exact g (Of h m)
def QD(M):∀(L),(kc L M).length<=L.length+M.length:=by
 induction M with
 |nil=>intro L;exact Vj _
 |cons m M g=>
  intro L;have h1:=g (fP L m);have h2:=Rf L m;show (kc (fP L m) M).length<=_;simp;omega
def dm(t:ak):Bool:=cq t||cE t
def RV(rs):kc [] (bC cq rs++bC cE rs)=bC dm rs:=by
 refine CB (NK _ s_) (Pw _ _) λx=>?_;rw[Qj,Wy,rl,rl,rl];simp only[Zd,false_or];unfold dm;constructor
 .rintro (⟨i,h,h1,h2⟩|⟨i,h,h1,h2⟩)
  .exact⟨i,h,by rw[h1];rfl,h2⟩
  .exact⟨i,h,by rw[h1,Bool.or_true],h2⟩
 .rintro⟨i,h,h1,h2⟩;rcases Bool.or_eq_true_iff.1 h1 with h1|h1
  .exact .inl ⟨i,h,h1,h2⟩
  .exact .inr ⟨i,h,h1,h2⟩
def As(h:P:=by intro j hj;have:=(fR G j (jr hj)).1;omega):=h
def AS(h:P:=by intro j hj;exact (fR bs j (jr hj)).1):=h
def JJ(h:P:=by
 go_wp2;go_ret;refine⟨v3,rfl,?_,aM⟩;rw[HP.out];have:=bx.le hb;rwa [VX] at this):=h
def Lo(h:P:=by
 have a2:af w w (w.alloc (.cells #[] 3)):=(Vn _ _).alloc (Vj _) _;have G:=ar.empty w;go_upto_region 6 with fail
 go_upto_region 7 with (at_builtin;refine oQ rfl _ _ rfl w.heap.size _ _ [] (L.take (L.length)) rfl rfl G ((H1.out _ a2)) u_ s_ ?_;intro v1 w1 ax bi;have a1:af w w w1:=bi.belowGe a2 a2.size As;rw[WP] at ax)
 have ac:=a1.size;have V:(L.take (L.length)).length<1000000000000:=by rw[VM];omega
 go_upto_region 8 with (at_builtin;refine fY (y:=n) rfl _ _ rfl w.heap.size _ (L.take (L.length)) rfl ax rfl V ac ?_;intro v2 w2 bs U cm;have aa:af w w w2:=a1.trans U)
 have ba:=aa.size;go_wp2_with (at_builtin;refine oQ rfl _ _ rfl w.heap.size _ _ (L.take (L.length)++[n]) (L.drop (L.length)) rfl rfl bs ((H2.out _ aa)) u_ ba ?_;intro v3 w3 bx ab;have aM:af w w w3:=ab.belowGe aa aa.size AS)
 exact JJ):=h
def ig.pre{w}{g n F:Nat}{L}(h:ig w (.slice g n F) L){k c}(hk:k<=L.length):ig w (.slice g k c) (L.take k):=by
 rcases h with ⟨_,h0⟩|⟨g',off,c',h1,h2,h3⟩
 .cases h0
 .injection h1 with e1 e2 e3;injection e1 with e1;injection e1 with e1 e4;subst e1 e4;refine .inr ⟨g,0,c,by rw[VM,XY hk],λhm=>h2 (λh=>hm (by rw[h];simp)),λj u hu=>h3 j u ?_⟩;rw[List.map_take,X8] at hu;split at hu
  .exact hu
  .cases hu
def ig.post{w}{g n F:Nat}{L}(h:ig w (.slice g n F) L){k o c m}(hm:m=L.length - k)(Z:m≠0->o=k):ig w (.slice (some ⟨g,o,none⟩) m c) (L.drop k):=by
 rcases h with ⟨_,h0⟩|⟨g',off,c',h1,h2,h3⟩
 .cases h0
 .injection h1 with e1 e2 e3;injection e1 with e1;injection e1 with e1 e4;subst e1 e4;refine .inr ⟨g,o,c,by rw[WF,hm],λhm=>h2 (λh=>hm (by rw[h];simp)),λj u hu=>?_⟩;rw[List.map_drop,W_] at hu;have hj:=by simpa using (V3.1 hu).1
  rw[Z o_];have:=h3 (k+j) u hu;rwa [V9] at this
def SL(b:Nat)(v:Value)(L:List Int)(n:Int)(hL:L.length<=100)(w:World)(hb:b<=w.heap.size)(Z:ar w b v L):
 Kp 41 #[v,n] w λe w'=>∃v',e=.returned v'/\ar w' b v' (fP L n)/\af w w w':=by
 rcases Z.2 with ⟨rfl,hn⟩|⟨g,F,cur,rfl,hg,hh,aL,ae,a4,ad⟩
 .have I:=VY.1 hn;subst I;have HP:Hid (fP [] n=([]:List Int).take 0++n::([]:List Int).drop 0):=h_ rfl;have H1:=h_ (λ(W:World) (_:af w w W)=>(show ig W (.slice none 0 0) (([]:List Int).take 0) from .inl ⟨rfl,rfl⟩));have H2:=h_ (λ(W:World) (_:af w w W)=>(show ig W (.slice none 0 0) (([]:List Int).drop 0) from .inl ⟨rfl,rfl⟩));clear Z hn;go_enter func41,ntmps41;go_wp2;go_loopw [5] (λkv wr=>kv=.int .i64 0/\wr=w) (λ_ _=>0)
  case atStart=>exact⟨rfl,rfl⟩
  case round=>
   obtain⟨rfl,rfl⟩:=hrel
   rename World=>w
   have a2:af w w (w.alloc (.cells #[] 3)):=(Vn _ _).alloc (Vj _) _;have G:=ar.empty w;go_upto_region 7 with fail
   generalize w.alloc _=w1,Value.slice w 0 0=v1 at *;go_upto_region 8 with (at_builtin;refine fY (y:=n) rfl _ _ rfl w _ [] rfl G rfl s_ a2.size ?_;intro v2 w2 bs U cm;have aa:af w w w2:=a2.trans U)
   have ba:=aa.size;go_wp2_with (at_builtin;refine oQ rfl _ _ rfl w _ _ ([]++[n]) [] rfl rfl bs (.inl ⟨rfl,rfl⟩) s_ ba ?_;intro v3 w3 bx ab;have aM:af w w w3:=ab.belowGe aa aa.size AS)
   go_wp2;go_ret;exact⟨v3,rfl,bx.le hb,aM⟩
 .have⟨a',aX,K,hf⟩:=Z.form;have HC:Hid (∀i (h:i<L.length),w.cell? ⟨g,i,none⟩=some (.int .i64 L[i])):=h_ λi h=>by
   have⟨g',e1,e2,_⟩:=hf i h;injection K with b9;rw[<-b9] at e1;injection e1 with e1;injection e1 with e1;subst e1;rw[e2,Vv h];rfl
  have bq:g<w.heap.size:=(Vz.1 hh).1;have J:=Z.rdj;clear hf K hh a4 ad ae;go_enter func41,ntmps41;go_wp2;go_loopw [5] (λkv wr=>∃k:Nat,kv=.int .i64 k/\k<=L.length/\(∀i (h:i<L.length),i<k->L[i]<n)/\wr=w) (λkv _=>L.length - (intOf kv).toNat)
  case atStart=>exact⟨0,rfl,VH _,λi _ h=>by omega,rfl⟩
  case round=>
   obtain⟨k,rfl,b2,aG,rfl⟩:=hrel
   rename World=>w
   by_cases hk:k<L.length
   .have q0:=HC.out k hk;by_cases hx:L[k]<n
    .have b3:∀i (h:i<L.length),i<k+1->L[i]<n:=λi h hi=>by
      rcases Wv i k with h9|h9
      .exact aG i h h9
      .obtain rfl:i=k:=o_
       exact hx
     have aF:=h_ b3;clear b3 aG;generalize L[k]=x at *;have co:(k:Int)<(L.length:Int):=o_;go_wp2;go_roundw
     case rel=>exact⟨k+1,by go_num,o_,aF.out,trivial⟩
     case measure=>exact aJ
    .have H:=yD L n k b2 aG (λ_=>hx);rw[Vv hk] at H;have co:(k:Int)<(L.length:Int):=o_;by_cases he:L[k]=n
     .rw[he,Vo rfl] at H;have HP:=h_ H;clear H aG;rw[he] at q0;generalize L[k]=x at *;go_wp2;go_ret;exact⟨_,rfl,by rw[HP.out];exact Z,Vn _ _⟩
     .rw[Vm (by simpa using he)] at H;have HP:=h_ H;clear H aG;generalize L[k]=x at *;have a6:(x==n)=false:=by rw[VD];exact he
      have H1:=h_ (λ(W:World) (hW:af w w W)=>J.below hW |>.pre (k:=k) (c:=F) b2);have H2:=h_ (λ(W:World) (hW:af w w W)=>J.below hW |>.post (k:=k) (o:=k) (c:=F - k) rfl (λ_=>rfl));have az:k<=100:=o_;have a2:af w w (w.alloc (.cells #[] 3)):=(Vn _ _).alloc (Vj _) _;have G:=ar.empty w;go_upto_region 6 with fail
      go_upto_region 7 with (at_builtin;refine oQ rfl _ _ rfl w _ _ [] (L.take k) rfl rfl G ((H1.out _ a2)) u_ s_ ?_;intro v1 w1 ax bi;have a1:af w w w1:=bi.belowGe a2 a2.size As;rw[WP] at ax)
      have ac:=a1.size;have V:(L.take k).length<1000000000000:=by rw[VM];omega
      go_upto_region 8 with (at_builtin;refine fY (y:=n) rfl _ _ rfl w _ (L.take k) rfl ax rfl V ac ?_;intro v2 w2 bs U cm;have aa:af w w w2:=a1.trans U)
      have ba:=aa.size;go_wp2_with (at_builtin;refine oQ rfl _ _ rfl w _ _ (L.take k++[n]) (L.drop k) rfl rfl bs ((H2.out _ aa)) u_ ba ?_;intro v3 w3 bx ab;have aM:af w w w3:=ab.belowGe aa aa.size AS)
      exact JJ
   .obtain rfl:k=L.length:=o_
    have H:=yD L n L.length b2 aG (λh=>by omega);rw[Xa (Vj _),Vm s_] at H;have HP:=h_ H;have H1:=h_ (λ(W:World) (hW:af w w W)=>J.below hW |>.pre (k:=L.length) (c:=F) b2);have az:L.length<=100:=o_;clear H aG;by_cases bo:F=L.length
    .have H2:=h_ (λ(W:World) (hW:af w w W)=>J.below hW |>.post (k:=L.length) (o:=0) (m:=0) (c:=0) o_ (λh=>absurd rfl h));subst bo;exact Lo
    .have H2:=h_ (λ(W:World) (hW:af w w W)=>J.below hW |>.post (k:=L.length) (o:=L.length) (m:=0) (c:=F - L.length) o_ (λh=>absurd rfl h));exact Lo
def yI:dm eX=false:=by unfold dm cq cE;rw[Vw];rfl
def C6 V (s:CS):dm (dt V s).1=true->(dt V s).2=s:=by
 have hm:∀o,dm (de s o).1=true->(de s o).2=s:=by
  intro o;cases o with
  |none=>intro _;rfl
  |some p=>intro h;exact absurd (yI.symm.trans h) d_
 have hk:∀o,dm (eR s o).1=true->(eR s o).2=s:=by
  intro o;cases o with
  |none=>intro _;rfl
  |some p=>intro h;exact absurd (yI.symm.trans h) d_
 have hu:∀b A B,dm (gT s b A B).1=true->(gT s b A B).2=s:=by
  intro b A B;cases b with
  |false=>intro _;rfl
  |true=>intro h;exact absurd (yI.symm.trans h) d_
 have ht:∀t b,(ci s t b).2=s:=by intro t b;cases b<;>rfl
 have G:∀w,dm (gQ w s).1=true->(gQ w s).2=s:=by
  intro w;unfold gQ
  repeat' split
  all_goals first|exact hm _|exact hk _|exactλ_=>ht _ _|exactλ_=>rfl
 have h1:∀w n,dm (gs w n s).1=true->(gs w n s).2=s:=by
  intro w n;unfold gs
  repeat' split
  all_goals first|exact hm _|exact hu _ _ _|exactλ_=>ht _ _|exactλ_=>rfl
 have h2:∀w a b,dm (gu w a b s).1=true->(gu w a b s).2=s:=by
  intro w a b;unfold gu
  repeat' split
  all_goals first|exact hu _ _ _|exact hk _|exactλ_=>ht _ _|exactλ_=>rfl
 have h3:∀t,dm (gp t s).1=true->(gp t s).2=s:=by
  intro t;unfold gp;split
  .exactλ_=>rfl
  .exact hm _
 unfold dt
 repeat' split
 all_goals first|exact G _|exact hm _|exact h3 _|exact h1 _ _|exact h2 _ _ _|exactλ_=>rfl
def qN l (t)(s:CS):b_ (l::t) s=((dt (bB l 32) s).1::(b_ t (dt (bB l 32) s).2).1,(b_ t (dt (bB l 32) s).2).2):=by
 induction t using snoc_ind generalizing s with
 |h0=>rfl
 |h1 t a g=>
  rw[<-Wo,oZ,g,oZ];rfl
def RY(la lb)(s:CS):b_ (la++lb) s=((b_ la s).1++(b_ lb (b_ la s).2).1,(b_ lb (b_ la s).2).2):=by
 induction la generalizing s with
 |nil=>rfl
 |cons l t g=>rw[Wo,qN,g,qN];rfl
def RD(x y):eu (x++y)=eu x++eu y:=by
 induction y using snoc_ind with
 |h0=>rw[V5];exact ByteArray.append_empty.symm
 |h1 y a g=>rw[<-VX,qO,qO,g,ByteArray.append_assoc]
noncomputable def oN:bW->CS->bW
 |[],_=>[]
 |l::t,s=>if dm (dt (bB l 32) s).1 then oN t s else l::oN t (dt (bB l 32) s).2
theorem yL:∀(K) (s:CS),(b_ (oN K s) s).2=(b_ K s).2
 |[],s=>rfl
 |l::t,s=>by
  rw[qN,oN];split
  .next h=>rw[C6 _ _ h];exact yL t s
  .rw[qN];exact yL t _
theorem DT(p:Nat->Bool):∀(K) (s:CS) n,(∀i (h:i<(b_ K s).1.length),p (n+i)=dm (b_ K s).1[i])->kJ p n (K.map (·.data.toList))=(oN K s).map (·.data.toList)
 |[],s,n,_=>rfl
 |l::t,s,n,h=>by
  rw[qN] at h;have h1:p n=dm (dt (bB l 32) s).1:=h 0 s_;have h2:∀i (h:i<(b_ t (dt (bB l 32) s).2).1.length),p (n+1+i)=dm (b_ t (dt (bB l 32) s).2).1[i]:=by
   intro i hi;rw[show n+1+i=n+(i+1) by omega,(h (i+1) u_)];simp
  rw[WU,kJ,oN,h1];have g:=DT p t _ (n+1) h2;split
  .next hb=>rw[g,C6 _ _ hb]
  .rw[g];rfl
def D6{s}(h:bf s=true):∃K,s.data.toList=gR K/\(∀q∈K,(10:UInt8)∉q)/\(cV s).map (·.data.toList)=K:=by
 by_cases he:s.data.toList=[]
 .refine⟨[],he,λq hq=>by simp at hq,?_⟩;unfold cV;rw[List.map_dropLast,ky,he];rfl
 .have hs:i_ s=true:=by
   unfold bf at h;simp only[VB,Xt] at h;rcases h.1.2 with h|h
   .rw[Vw] at h;exact absurd (List.isEmpty_iff.1 h) he
   .exact h
  unfold i_ Lib.hasSuffix at hs;have⟨t,ht⟩:=WN.1 hs;refine⟨cn 10 t,by rw[<-ht,CA],λq=>EC t q,?_⟩;unfold cV;rw[List.map_dropLast,ky,<-ht,xJ];simp
def Uz{s}{K}(h:s.data.toList=gR K)(hn:∀q∈K,(10:UInt8)∉q):(cV s).map (·.data.toList)=K:=by
 unfold cV;rw[List.map_dropLast,ky,h,PN hn]
def Rm{a b}(ha:bf a=true)(hj:bf (a++b)=true):∃t,eu (bJ (a++b))=eu (bJ a)++t:=by
 have⟨la,h1,h2,h3⟩:=D6 ha;have e:cV (a++b)=cV a++(bB b 10).dropLast:=by
  apply qZ;unfold cV at h3 ⊢;rw[Xi,h3,List.map_dropLast,List.map_dropLast,ky,ky,ByteArray.data_append,XX,h1,xN la _ h2,List.dropLast_append_of_ne_nil (nX 10 _)]
 unfold bJ;rw[Vo ha,Vo hj,e,RY,RD];exact⟨_,rfl⟩
noncomputable def ic(s:ak)(n:Nat):Bool:=decide ((n:Int)∈bC dm (bJ s))
noncomputable def jA(s:ak):ak:=⟨(e_ (ic s) 1 s.data.toList).toArray⟩
def CP{s}(h:bf s=true):cV (jA s)=oN (cV s) dC/\bf (jA s)=true:=by
 have⟨K,h1,h2,h3⟩:=D6 h;have e1:(jA s).data.toList=gR (kJ (ic s) 1 K):=by
  show (e_ (ic s) 1 s.data.toList).toArray.toList=_;rw[Xm,h1,B5 _ K 1 h2]
 have hg:∀q∈kJ (ic s) 1 K,(10:UInt8)∉q:=λq hq=>h2 q (xW _ K 1 q hq);constructor
 .apply qZ;rw[Uz e1 hg,<-h3];refine DT (ic s) (cV s) dC 1 λi hi=>?_;have hr:bJ s=(b_ (cV s) dC).1:=by unfold bJ;rw[Vo h]
  unfold ic;rw[Xu,decide_eq_true_iff,rl,hr];constructor
  .rintro⟨j,hj,hb,e⟩;have:j=i:=o_
   subst this;exact hb
  .intro hb;exact⟨i,hi,hb,o_⟩
 .have hs:=tO (ic s) s.data.toList 1;have e2:(jA s).data.toList=e_ (ic s) 1 s.data.toList:=Xm;unfold bf i_ cntN at h ⊢;simp at h ⊢;refine⟨⟨?_,?_⟩,?_⟩
  .have:=hs.length_le;rw[<-e2,Vy,Vy] at this;have h5:(jA s).size<=s.size:=this;omega
  .by_cases hz:kJ (ic s) 1 K=[]
   .left;rw[Vw,e1,hz];rfl
   .right;have⟨t,ht⟩:=PF hz;unfold Lib.hasSuffix;rw[e1,ht];exact WN.2 ⟨t,rfl⟩
  .have h5:=hs.count_le 10;rw[e2];have h6:=h.2;unfold Lib.countByte at h6 ⊢;omega
def EO{s}(h:bf s=true):eA (jA s)=eA s:=by
 have⟨h1,h2⟩:=CP h;unfold eA;rw[Vo h2,Vo h,h1,yL]
def UB(L):((bC cq L).length:Int)+(bC cE L).length=(bC dm L).length:=by
 induction L using snoc_ind with
 |h0=>rfl
 |h1 L r g=>
  rw[jX,jX,jX];cases h1:cq r<;>cases h2:cE r
  .simp [dm,h1,h2];omega
  .simp [dm,h1,h2];omega
  .simp [dm,h1,h2];omega
  .unfold cq at h1;unfold cE at h2;have h3:=eq_of_beq h1;rw[h3] at h2;exact absurd h2 d_
def Q3{s}(h:bf s=true):(bJ s).length=s.data.toList.count 10:=by
 unfold bJ;rw[Vo h,pk,ur]
def Jd(h:P:=by
 have aX:A0.length<1000000000000:=o_;go_wp2_with (at_builtin;refine fY (y:=(k:Int)+1) rfl _ _ rfl W2.heap.size _ A0 rfl Z rfl aX a6 ?_;intro v' w4 bb K b0)
 go_roundw
 case rel=>exact⟨k+1,by go_num,o_,by rw[H1.out,HB.out];exact bb,ba.trans K⟩
 case measure=>exact aJ):=h
def IP(h:P:=by
 go_enter func40,ntmps40;go_wp2;go_ret;exact⟨_,rfl,G,a2⟩):=h
def P8(p:ak->Bool)(L:bW)(k)(h:k<L.length):bC p (L.take (k+1))=if p L[k] then bC p (L.take k)++[(k:Int)+1] else bC p (L.take k):=by
 rw[VF h,jX];have:((L.take k).length:Int)=k:=by rw[VM];omega
 rw[this]
def MZ(s:ak)(hs:s.size<=1048576)(w:World)(hE:PEnv w):
 Kp 11 #[s] w (DD w (bC dm (bJ s)) (bf s)):=by
 have hq:=λW hW=>pc s hs W hW;unfold oE at hq;have HQ:=h_ hq;have aa:bf s=false->bJ s=[]:=λh=>by unfold bJ;rw[h];rfl
 have hl:=mr s;have hz:=pd s;generalize bJ s=V at *;generalize bf s=ok at *;go_enter func11,ntmps11;go_wp2_with fail
 refine (HQ.out w hE).mono ?_;rintro e w1 ⟨A,B,X,Y,E,L,vl,vr,rfl,he,ae,H,I⟩;obtain⟨a1,c1,rfl,_,_⟩:=id ae.form;obtain⟨a2,c2,rfl,_,_⟩:=id H.form;have⟨k2,ab⟩:=ay w1 #[A,B,X,Y,E,.slice a1 L.length c1,.slice a2 V.length c2] 65;have U:=ag ab I.size I;replace ae:=ae.below ab;replace H:=H.below ab;have HE:=h_ he;go_upto_region 2 with fail
 generalize w1.alloc _=W2 at *;have⟨_,_,_,_,_,_,s6⟩:=k2.q7;obtain⟨a',c',e',_,hf⟩:=H.form;injection e' with e';subst e';have HF:=h_ hf;have F:=U.size;go_wp2;go_loopw [6,17] (λv iv wr=>∃k:Nat,iv=.int .i64 k/\k<=V.length/\ar wr W2 v (bC dm (V.take k))/\af W2 W2 wr) (λ_ iv _=>V.length - (intOf iv).toNat)
 case atStart=>exact⟨0,rfl,VH _,ar.nil _ _,Vn _ _⟩
 case round=>
  obtain⟨k,rfl,b2,Z,ba⟩:=hrel;have aL:=lL dm (V.take k);rw[VM] at aL;by_cases aG:k<V.length
  .obtain⟨g,rfl,q0,_,hg,_⟩:=HF.out k aG;replace q0:=(ba.cell (p:=⟨g,k,none⟩) hg).trans q0;have H1:=h_ (P8 dm V k aG);generalize V[k]=x at *;generalize bC dm (V.take k)=A0 at *;have a6:=ba.size;cases hn:cq x
   .cases G:cE x
    .have HB:Hid (dm x=false):=h_ (by unfold dm;rw[hn,G];rfl);unfold cq at hn;unfold cE at G;go_wp2;go_roundw
     case rel=>exact⟨k+1,by go_num,o_,by rw[H1.out,HB.out];exact Z,ba⟩
     case measure=>exact aJ
    .have HB:Hid (dm x=true):=h_ (by unfold dm;rw[hn,G];rfl);unfold cq at hn;unfold cE at G;exact Jd
   .have HB:Hid (dm x=true):=h_ (by unfold dm;rw[hn];rfl);unfold cq at hn;exact Jd
  .obtain rfl:k=V.length:=o_
   have HT:Hid (V.take V.length=V):=h_ (Wa);go_wp2;go_ret2;rw[HT.out] at Z;exact⟨_,rfl,Z.le F,ag ba F U⟩
def T5(v)(L)(hL:L.length<=100)(b)(w)(Z:ar w b v L):
 Kp 40 #[v] w λe w'=>∃v',e=.returned v'/\ar w' w v' L/\af w w w':=by
 have a2:af w w (w.alloc (.cells #[] 3)):=(Vn _ _).alloc (Vj _) _;have G:=ar.empty w;have HJ:=h_ (Z.rdj.below a2);obtain⟨a,c,rfl,hf⟩:=Z.form;have c3:0<L.length->∃g,a=some ⟨g,0,none⟩:=λh=>by obtain⟨g,h1,_⟩:=hf 0 h;exact⟨g,h1⟩
 rcases Nat.eq_zero_or_pos L.length with h0|h0
 .have I:=VY.1 h0;subst I;cases a with
  |none=>
   exact IP
  |some a=>
   exact IP
 .obtain⟨g,rfl⟩:=c3 h0;go_enter func40,ntmps40;go_wp2_with (at_builtin;refine oQ rfl _ _ rfl w _ _ [] L rfl rfl G HJ.out u_ s_ ?_;intro v1 w1 ax bi;rw[WP] at ax;have a1:=bi.belowGe a2 a2.size As)
  go_wp2;go_ret;exact⟨_,rfl,ax,a1⟩
def fJ(s:ak)(k:Nat):Nat:=(s.data.toList.take k).count 10
def OW(s)(k)(h:k<s.size):fJ s (k+1)=if ((s[k].toNat:Int)==10) then fJ s k+1 else fJ s k:=by
 have hl:s.data.toList.length=s.size:=Vy;have hk:k<s.data.toList.length:=o_;unfold fJ;rw[VF hk,List.count_append];have e:s.data.toList[k]=s[k]:=rfl;rw[e];generalize s[k]=x;cases hb:((x.toNat:Int)==10)
 .have hx:(x==10)=false:=by
   rw[Bool.eq_false_iff];intro h9;have:=by simpa using h9
   subst this;simp at hb
  simp [Yy,hx]
 .have hx:x=10:=by
   have h9:=by simpa using hb
   have h8:x.toNat=10:=o_;exact Xs.1 h8
  subst hx;simp
def P6(s):fJ s s.size=s.data.toList.count 10:=by
 have hl:s.data.toList.length=s.size:=Vy;unfold fJ;rw[VO o_]
def Q7(s)(k):fJ s k<=k:=by
 have h1:=List.count_le_length (l:=s.data.toList.take k) (a:=(10:UInt8));have h2:(s.data.toList.take k).length<=k:=by rw[VM];omega
 unfold fJ;omega
noncomputable def jy(s:ak)(k:Nat):ak:=⟨(e_ (ic s) 1 (s.data.toList.take k)).toArray⟩
def EH{a b:ak}(h:a.data.toList=b.data.toList):a=b:=by
 cases a;cases b;simp at h;rw[h]
def Pk(s)(k)(h:k<s.size):jy s (k+1)=if ic s (1+fJ s k) then jy s k else jy s k++s.extract k (k+1):=by
 have hl:s.data.toList.length=s.size:=Vy;have hk:k<s.data.toList.length:=o_;have e:(s.extract k (k+1)).data.toList=[s.data.toList[k]]:=by
  rw[ByteArray.data_extract,Array.toList_extract];simp [List.extract_eq_take_drop,WG hk]
 unfold jy fJ;rw[VF hk,Px];split
 .rw[V5]
 .apply EH;rw[ByteArray.data_append,XX,e]
def Da(s):jy s s.size=jA s:=by
 have hl:s.data.toList.length=s.size:=Vy;unfold jy jA;rw[VO o_]
def Cv(s)(k):(jy s k).size<=s.size:=by
 have h1:=(tO (ic s) (s.data.toList.take k) 1).length_le;have h2:(s.data.toList.take k).length<=s.data.toList.length:=by rw[VM];omega
 have h3:s.data.toList.length=s.size:=Vy;have h4:(jy s k).size=(e_ (ic s) 1 (s.data.toList.take k)).length:=Yl;omega
def Tl(a t:ak):(a++t).extract 0 a.size=a:=by
 apply EH;rw[ByteArray.data_extract,Array.toList_extract,ByteArray.data_append,XX];have h:a.size=a.data.toList.length:=Array.length_toList.symm;rw[h,List.extract_eq_take_drop,V1,Zx,List.take_left]
def TD{a:Act}{o}{s x}{w}{G}{v y}{L M}(Z:o.op=.call {callee:=.builtin .append,args:=#[s,x],argTypes:=#[22,22]})(hs:a.eval s=v)(hx:a.eval x=y)(V:ar w G v L)(hr:ig w y M)(hn:L.length+M.length<=1000)(H:G<=w.heap.size){O:av}{F:Value->av}
 (hK:∀v' w',ar w' G v' (L++M)->ai v.ownBlock.toList w w'->O w'/\F v' w'):∃v' w',(execOp a.eval o).run prog w=.ok (.value v') w'/\O w'/\F v' w':=by
 have⟨v',w',h1,h2,h3⟩:=LA Z hs hx V hr hn H;exact⟨v',w',h1,hK v' w' h2 h3⟩
def OJ(M:List Int)(k)(h:k<M.length):kc [] (M.take (k+1))=fP (kc [] (M.take k)) M[k]:=by
 unfold kc;rw[VF h,XL];rfl
def M3(s:ak)(hs:s.size<=1048576)(w:World)(ht:TabI w):
 Kp 10 #[s] w (DD w (bC dm (bJ s)) (bf s)):=by
 have hl:=mr s;unfold bJ at hl ⊢;cases h:bf s
 .have H:=h_ (qM s hs h);go_enter func10,ntmps10;go_wp2_with fail
  refine aj (H.out _) λw1 I=>?_;go_wp2;go_ret2;exact⟨_,rfl,ar.nil _ _,I⟩
 .rw[h] at hl;have H:=h_ (λW (hW:TabI W)=>rq s hs h W hW);simp only[WB] at hl ⊢;obtain⟨q,hq⟩:∃q,b_ (cV s) dC=q:=⟨_,rfl⟩
  rw[hq] at hl ⊢;unfold ti at H;rw[hq] at H;go_enter func10,ntmps10;go_wp2_with fail
  refine (H.out w ht).mono ?_;rintro e w1 ⟨r,A,B,X,Y,E,L,reps,vl,v0,v1,rfl,rfl,hk,h3,h4,h5,_,I⟩;have aL:=lL cq reps;have ad:=lL cE reps;simp only at hl;have aa:=h_ (RV reps);have J:=h5.rdj;have HO:=h_ (λ(W:World) (hW:af w1 w1 W)=>T5 v0 (bC cq reps) o_ (r+1) W (h4.below hW));generalize bC cq reps=G at *;generalize bC cE reps=V at *;obtain⟨a4,c4,rfl,_⟩:=h4.form;obtain⟨a5,c5,rfl,_⟩:=h5.form;have⟨_,_,_,_,_,_,s6⟩:=hk.q7;have⟨_,_,_,_,_,_,_,s7,sl⟩:=hk.p8;go_upto_region 5 with fail
  refine bw [] (λ_=>false) (λ_=>True) (λ_=>True) k_ trivial (aE ⟨w1,ai.refl _ _,trivial⟩ [ae,ae,ae,ae,ac,ae,ae,ae,ae,ac,ac,ae] 3 ao aB ?_);refine aD 4 (bN (some 22) (λv w'=>ar w' w1.heap.size v G) (λv=>ar.closed _ _ _) (λw' hO _=>(HO.out w' hO.below).mono λe w2 ⟨v',h1,h2,h3⟩=>⟨_,h1,.of_below h3,h2.le hO.size⟩) (λv4 hne=>?_));refine ap (aD 9 ?_);refine bP (some 27) (λv w'=>ar w' w1.heap.size v (G++V)) r_ r_ r_ (λv=>ar.closed _ _ _) (λw' hO h=>TD (O:=ai [] w1) r_ r_ r_ h (J.below hO.below) o_ hO.size (λv' w9 h2 h3=>⟨.of_below (h3.belowGe hO.below hO.size (by intro j hj;exact (fR h j (jr hj)).1)),h2⟩)) (λv9 hne=>?_);obtain⟨w8,b1,bp⟩:=id hne;obtain⟨a9,c9,rfl,_⟩:=id (ar.form bp);have bo:(G++V).length<=80:=by rw[VI];omega
  generalize F:(G++V).length=m9 at *;refine ap ?_;refine aE hne (bk 10 1) 0 (ar.closed _ _ _) aB ?_;refine dn λWz a7 aX=>?_;have aM:=ag a7.below I.size I;obtain⟨a',c',e',hf⟩:=ar.form aX;injection e' with e1 e2 e3;clear e2;subst e1 e3;have HF:=h_ hf;have cu:=h_ F;clear hf aX F;generalize G++V=M at *;go_wp2;go_loopw [7,29] (λov iv wr=>∃k:Nat,iv=.int .i64 k/\k<=m9/\ar wr Wz.heap.size ov (kc [] (M.take k))/\af Wz Wz wr) (λ_ iv _=>m9 - (intOf iv).toNat)
  case atStart=>exact⟨0,rfl,VH _,ar.nil _ _,Vn _ _⟩
  case round=>
   obtain⟨k,rfl,b2,Z,ba⟩:=hrel;have ca:=QD (M.take k) [];rw[VM,Wf] at ca;have hm:=cu.out;by_cases aG:k<m9
   .obtain⟨g,rfl,q0,hg,_⟩:=HF.out k o_;replace q0:=(ba.cell (p:=⟨g,k,none⟩) hg).trans q0;have cm:=Vp hg ba.size;rw[Vv (show k<M.length by omega),XS] at q0;have H1:=h_ (OJ M k o_);have HC:=h_ (SL Wz.heap.size _ _ (M[k]'o_) o_ _ ba.size Z);generalize M[k]'(show k<M.length by omega)=x at *;clear hm;generalize kc [] (M.take k)=P0 at *;go_wp2_with fail
    refine HC.out.mono ?_;rintro e w4 ⟨v4,rfl,bb,K⟩;have U:=ag K ba.size ba;go_wp2;go_roundw
    case rel=>exact⟨k+1,by go_num,o_,by rw[H1.out];exact bb,U⟩
    case measure=>exact aJ
   .obtain rfl:k=m9:=o_
    have HT:Hid (M.take k=M):=h_ (by rw[<-hm];exact Wa);clear hm;rw[HT.out] at Z;have az:=h_ (aa.out▸Z.le aM.size);have bi:=ag ba aM.size aM;clear Z;go_wp2;go_ret2;exact⟨_,rfl,az.out,bi⟩
def TR(v)(L)(n:Int)(hL:L.length<=1000)(w)(hr:qv w v L):
 Rw 27 #[v,n] w (decide (n∈L)):=by
 obtain⟨a,F,rfl,G⟩:=hr;obtain⟨D,hD⟩:∃D,decide (n∈L)=D:=⟨_,rfl⟩
 rw[hD];have HD:=h_ hD;go_enter func27,ntmps27;go_wp2;go_loopw [9] (λi wr=>∃k:Nat,k<=L.length/\i=.int .i64 k/\Hid (n∉L.take k)/\w=wr) (λi _=>L.length - (intOf i).toNat)
 case atStart=>exact⟨0,VH _,rfl,h_ s_,rfl⟩
 case round=>
  obtain⟨k,hk,rfl,a4,rfl⟩:=hrel
  rename World=>wr
  by_cases aG:k<L.length
  .obtain⟨g,o,rfl,q1,hg⟩:=(h_ G).out k aG;have bo:L[k]?.getD 0=L[k]:=by simp [aG]
   have HM:=h_ (VC aG);have HT:=h_ (VF aG);rw[bo] at q1;generalize L[k]=y at q1 HM HT;have U:(0:Int)<=(k:Int):=o_;have K:(k:Int)<(L.length:Int):=o_;by_cases hy:y=n
   .subst hy;have hd:decide (y∈L)=true:=by simpa using HM.out
    go_wp2;go_ret;exact⟨by rw[<-HD.out,hd];rfl,rfl⟩
   .have hno2:Hid (n∉L.take (k+1)):=by
     show n∉_;rw[HT.out,Wy,VE];rintro (h|h)
     .exact a4.out h
     .exact hy h.symm
    go_wp2;go_roundw
    case rel=>exact⟨k+1,o_,by go_num,hno2,trivial⟩
    case measure=>exact aJ
  .obtain rfl:k=L.length:=o_
   have hd:decide (n∈L)=false:=by have:=a4.out;rw[Wa] at this;simpa using this
   go_wp2;go_ret;exact⟨by rw[<-HD.out,hd];rfl,rfl⟩
def Sq(v v')(xs)(hL:xs.length<=100000000)(w)(h1:qv w v xs)(h2:qv w v' xs):
 Rv 26 #[v,v'] w true:=by
 obtain⟨a,F,rfl,G⟩:=h1;obtain⟨a',aX,rfl,I⟩:=h2;go_enter func26,ntmps26;go_wp2;go_loopw [13] (λi wr=>∃k:Nat,k<=xs.length/\i=.int .i64 k/\af w w wr) (λi _=>xs.length - (intOf i).toNat)
 case atStart=>exact⟨0,VH _,rfl,Vn _ _⟩
 case round=>
  obtain⟨k,hk,rfl,ba⟩:=hrel;by_cases aG:k<xs.length
  .obtain⟨g,o,rfl,q1,hg⟩:=(h_ G).out k aG;obtain⟨g',o',rfl,r1,H⟩:=(h_ I).out k aG;have q2:=(ba.cell (p:=⟨g,o+k,none⟩) hg).trans q1;have r2:=(ba.cell (p:=⟨g',o'+k,none⟩) H).trans r1;generalize xs[k]?.getD 0=y at q2 r2;have U:(0:Int)<=(k:Int):=o_;have K:(k:Int)<(xs.length:Int):=o_;go_wp2
   go_quiet (fail)
   go_wp2;go_roundw
   case rel=>exact⟨k+1,o_,by go_num,lr ba _⟩
   case measure=>exact aJ
  .obtain rfl:k=xs.length:=o_
   go_wp2;go_ret;exact⟨rfl,ba⟩
def Ch(b b')(v v')(L)(hL:L.length<=100000000)(w)(h1:an w b v L)(h2:an w b' v' L):
 Rv 33 #[v,v'] w true:=by
 obtain⟨a,F,rfl,G⟩:=h1.at5;obtain⟨a',aX,rfl,I⟩:=h2.at5;go_enter func33,ntmps33;go_wp2;go_loopw [13] (λi wr=>∃k:Nat,k<=L.length/\i=.int .i64 k/\af w w wr) (λi _=>L.length - (intOf i).toNat)
 case atStart=>exact⟨0,VH _,rfl,Vn _ _⟩
 case round=>
  obtain⟨k,hk,rfl,ba⟩:=hrel;by_cases aG:k<L.length
  .obtain⟨g,rfl,q0,q1,q2,q3,q4,hg,_⟩:=(h_ G).out k aG;obtain⟨g',rfl,r0,r1,r2,r3,r4,H,_⟩:=(h_ I).out k aG;replace q0:=(ba.cell (p:=⟨g,k*5,none⟩) hg).trans q0;replace q1:=(ba.cell (p:=⟨g,k*5+1,none⟩) hg).trans q1;replace q2:=(ba.cell (p:=⟨g,k*5+2,none⟩) hg).trans q2;replace q3:=(ba.cell (p:=⟨g,k*5+3,none⟩) hg).trans q3;replace q4:=(ba.cell (p:=⟨g,k*5+4,none⟩) hg).trans q4;replace r0:=(ba.cell (p:=⟨g',k*5,none⟩) H).trans r0;replace r1:=(ba.cell (p:=⟨g',k*5+1,none⟩) H).trans r1;replace r2:=(ba.cell (p:=⟨g',k*5+2,none⟩) H).trans r2;replace r3:=(ba.cell (p:=⟨g',k*5+3,none⟩) H).trans r3;replace r4:=(ba.cell (p:=⟨g',k*5+4,none⟩) H).trans r4;generalize L[k]=x at *;have⟨⟨A,B⟩,c,d,f⟩:=x;simp only at q0 q1 q2 q3 q4 r0 r1 r2 r3 r4;have U:(0:Int)<=(k:Int):=o_;have K:(k:Int)<(L.length:Int):=o_;go_wp2
   go_quiet (fail)
   go_wp2;go_roundw
   case rel=>exact⟨k+1,o_,by go_num,lr ba _⟩
   case measure=>exact aJ
  .obtain rfl:k=L.length:=o_
   go_wp2;go_ret;exact⟨rfl,ba⟩
def NR(A B X Y E:Int)(hC:be A B=true)(w):
 Kp 34 #[.agg #[A,B],.agg #[X,Y,E]] w λr w'=>r=.returned (.bool (dS A B X Y E))/\af w w w':=by
 obtain⟨-,-,J⟩:=nw w #[A,B] 42 #[X,Y,E] 46;go_enter func34,ntmps34;go_wp2_with fail
 refine aj ((h_ (tN A B X Y E hC)).out _) λw1 I=>?_;go_wp2;go_ret;exact⟨rfl,(ag I J.size J)⟩
def M9(b0)(v)(L)(hL:eJ L)(w)(Z:an w b0 v L):
 Kp 35 #[v] w λr w'=>r=.returned true/\af w w w':=by
 have HP:=h_ (λW (hb:af w w W)=>w_ b0 v L hL W (Z.below hb));obtain⟨a,F,rfl,_⟩:=Z.form;go_enter func35,ntmps35;go_wp2_with fail
 refine aj (HP.out _ (Vn _ _)) λw1 I=>?_;go_wp2;go_ret;exact⟨rfl,I⟩
def walk_FnScripts(v0:Value)(xs:List Int)(v1:Value)(ys:List Int)(w:World)(r0:RdB w w.heap.size v0 xs)(r1:RdB w w.heap.size v1 ys)(hE:PEnv w):
 Rv 5 #[v0,v1] w true:=by
 have HD:=h_ (C8 v0 xs w r0);have R1:=h_ r1;have HE:=h_ hE;obtain⟨a0,c5,rfl,a7,_⟩:=r0;obtain⟨a1,J,rfl,V,_⟩:=r1;have hml:maxLen=9223372036854775807:=by decide+kernel
 clear hE;by_cases hbig:1048576<wrap64 ((xs.length:Int)+ys.length)
 .go_enter func5,ntmps5;go_wp2;go_ret;exact⟨rfl,Vn _ _⟩
 go_enter func5,ntmps5;go_wp2_with fail
 refine HD.out.mono ?_;rintro e w1 ⟨s,rfl,hs,H⟩;clear HD hbig a7 V hml;have K1:=h_ (λW (hW:PEnv W)=>xk s o_ W hW);have K2:=h_ (λW (hW:PEnv W)=>Ol s o_ W hW.1);have K3:=h_ (λW (hW:PEnv W)=>MZ s o_ W hW);have K4:=h_ (λW (hW:PEnv W)=>M3 s o_ W hW.1);have bo:(bC dm (bJ s)).length<=40:=Vl (lL dm (bJ s)) (mr s);have HOE:Hid (bf s=false->eu (bJ s)=⟨#[]⟩):=h_ (λh=>by unfold bJ;rw[Vm (by simp [h])];rfl);obtain⟨M,hM⟩:∃M,bC dm (bJ s)=M:=⟨_,rfl⟩
 rw[hM] at K3 K4 bo;have HM:=h_ hM;generalize eu (bJ s)=O at K1 K2 HOE;clear hM;go_wp2_with fail
 refine aj (K1.out w1 (HE.out.below H)) λw2 U=>?_;have ax:=ag U H.size H;clear K1 U H;go_wp2_with fail
 refine aj (K2.out w2 (HE.out.below ax)) λw3 aF=>?_;have az:=ag aF ax.size ax;clear K2 aF ax;go_wp2_with fail
 refine (K3.out w3 (HE.out.below az)).mono ?_;rintro e w4 ⟨vf,rfl,of,K⟩;have g:=ag K az.size az;clear K3 K az;go_wp2_with fail
 refine (K4.out w4 (HE.out.below g)).mono ?_;rintro e w5 ⟨vl,rfl,ol,ae⟩;have Z:=ag ae g.size g;replace of:=of.below ae;clear K4 ae g;go_wp2_with fail
 refine (Pf _ ys w5 (R1.out.later Z)).mono ?_;rintro e w6 ⟨ta,tb,rfl,hta,a2,ab⟩;have aX:=ag ab Z.size Z;replace of:=of.below ab;replace ol:=ol.below ab;clear ab Z R1;have J1:=h_ (λW=>MV ta tb W o_ o_);have J2:=h_ (λW=>M7 ta tb W o_ o_);have J3:=h_ (λW (hW:PEnv W)=>xk ta o_ W hW);have J4:=h_ (λW (hW:PEnv W)=>xk (ta++tb) (by rw[Vu];omega) W hW);have JO:Hid ((bf ta&&bf tb&&bf (ta++tb))=true->∃t,eu (bJ (ta++tb))=eu (bJ ta)++t):=h_ (λh=>by
  simp only[VB] at h;exact Rm h.1.1 h.2)
 generalize (bf ta&&bf tb&&bf (ta++tb))=o at J1 J2 JO;generalize eu (bJ (ta++tb))=I at J4 JO;generalize eu (bJ ta)=O1 at J3 JO;generalize ta++tb=tj at J1 J2 J4;generalize hj:(if o=true then tj else ⟨#[]⟩)=jj at J1 J2;have HJ:=h_ hj;clear hj;go_wp2_with fail
 refine (J1.out w6).mono ?_;rintro e w7 ⟨rfl,rfl⟩;go_wp2_with fail
 refine aj (J2.out _) λw8 ca=>?_;have bb:=ag ca aX.size aX;replace of:=of.below ca;replace ol:=ol.below ca;clear J1 J2 ca aX;go_wp2_with fail
 refine (Sq _ _ M o_ _ of.rd ol.rd).mono ?_;rintro e w9 ⟨rfl,aZ⟩;have ac:=ag aZ bb.size bb;replace ol:=ol.below aZ;clear aZ bb of
 go_upto_if 108 with (fail)
 go_cut [18,19] from 108 (λ_ _ wc=>af w9 w9 wc)
 case first=>
  clear HOE HM ol;cases o
  .go_wp2
   all_goals (go_meet;case rel=>exact Vn _ _)
  .obtain⟨t,ht⟩:∃t,I=O1++t:=by first|exact JO.out rfl|exact JO.out trivial
   have hj:=HJ.out;simp only[WB] at hj;subst ht hj;clear JO HJ;have hx:=Tl O1 t;have hz:(O1++t).size=O1.size+t.size:=Vu ..;have hq:(((O1++t).extract 0 O1.size).toList==O1.toList)=true:=by rw[hx];exact beq_self_eq_true _
   go_wp2_with fail
   refine aj (J3.out _ (HE.out.below ac)) λg4 bZ=>?_;have bb10:=ag bZ ac.size ac;go_wp2_with fail
   refine aj (J4.out _ (HE.out.below bb10)) λez a5=>?_;have aL:=ag a5 bZ.size bZ;clear a5 bb10 J3 J4;go_wp2
   all_goals (go_meet;case rel=>exact aL)
 have bb0:=ag hcut ac.size ac;replace ol:=ol.below hcut;clear hcut ac JO J3 J4 HJ
 rename World=>Wq
 cases hb:bf s
 .have hO:=HOE.out hb;subst hO;go_wp2;go_ret;exact⟨rfl,bb0⟩
 obtain⟨G,cp9,rfl,_⟩:=id ol.form;have ad:=(CP hb).2;have b7:(jA s).size<=10000:=by rw[<-Da];exact Vl (Cv s _) hs
 have aa:(eA s).ok:=by unfold eA;rw[Vo hb];exact ru pz _
 have K5:=h_ (λW (hW:PEnv W)=>BB s o_ W hW);have K6:=h_ (λW (hW:PEnv W)=>BB (jA s) o_ W hW);have K7:=h_ (λW (hW:PEnv W)=>Nj s o_ W hW.1);have K8:=h_ (λW (hW:PEnv W)=>Bw s o_ W hW);have K9:=h_ (λW (hW:PEnv W)=>Bw (jA s) o_ W hW);have K10:=h_ (λW (hW:PEnv W)=>Nl s o_ W hW.1);have K11:=h_ (λW (hW:PEnv W)=>Bn s o_ W hW);have K12:=h_ (λW (hW:PEnv W)=>Bn (jA s) o_ W hW);have K13:=h_ (λW (hW:PEnv W)=>ME s o_ W hW.1);have K14:=h_ (λW (hW:PEnv W)=>MR s o_ W hW);have a4:=UB (bJ s);have a3:=Q3 hb;have hl40:=mr s;rw[HM.out] at a4;unfold Bl wS wQ at K14;rw[EO hb,ad] at K6 K9;rw[EO hb,ad] at K12;rw[hb] at K5 K7 K8 K10 K11 K13 K14;have HC:=h_ (show 1+fJ s s.size=1+(bJ s).length from by rw[P6,a3]);have hN:0<=((bC cq (bJ s)).length:Int)/\((bC cq (bJ s)).length:Int)<=40:=by have:=lL cq (bJ s);omega
 have hW:0<=((bC cE (bJ s)).length:Int)/\((bC cE (bJ s)).length:Int)<=40:=by have:=lL cE (bJ s);omega
 generalize ((bC cq (bJ s)).length:Int)=cN at K14 a4 hN;generalize ((bC cE (bJ s)).length:Int)=cW at K14 a4 hW;generalize (bJ s).length=m at K14 hl40 HC;obtain⟨F,hF⟩:∃F,eA s=F:=⟨_,rfl⟩
 rw[hF] at K5 K6 K7 K8 K9 K10 K11 K12 K13 aa;obtain⟨A,B,X,Y,E,L⟩:=F;simp only at K5 K6 K7 K8 K9 K10 K11 K12 K13;have a6:=h_ aa;have hL5:L.length<=12:=aa.2.2.2.2;have KP:=h_ (λW=>by have h:=NR A B X Y E aa.1 W;rw[Be aa.2.1] at h;exact h);clear hF aa a3 ad;go_wp2_with fail
 go_loopw [20,21,22] (λrv nv iv wr=>∃k:Nat,k<=s.size/\iv=.int .i64 k/\rv=.string (jy s k)/\nv=.int .i64 ((1+fJ s k:Nat):Int)/\Wq=wr) (λ_ _ iv _=>s.size - (intOf iv).toNat)
 case atStart=>exact⟨0,VH _,rfl,rfl,rfl,rfl⟩
 case round=>
  obtain⟨k,hk,rfl,rfl,rfl,rfl⟩:=hrel;by_cases aG:k<s.size
  .have HS:=h_ (OW s k aG);have HR:=h_ (Pk s k aG);have aM:=Q7 s k;have a8:=Cv s k;have HQ:=h_ (TR _ M ((1+fJ s k:Nat):Int) o_ Wq ol.rd);have hQ2:decide (((1+fJ s k:Nat):Int)∈M)=ic s (1+fJ s k):=by unfold ic;rw[HM.out]
   rw[hQ2] at HQ;have hext:(s.extract k (k+1)).size=1:=by rw[ByteArray.size_extract];omega
   clear hQ2 K5 K6 K7 K8 K9 K10 K11 K12 K13 K14 a6 KP HC;cases hq:ic s (1+fJ s k)
   all_goals
    rw[hq] at HQ HR;cases hd:((s[k].toNat:Int)==10)
    all_goals
     rw[hd] at HS;go_wp2_with fail
     refine HQ.out.mono ?_;rintro e w' ⟨rfl,rfl⟩;go_wp2;go_roundw
     case rel=>exact⟨k+1,o_,by go_num,by first|(have h2:jy s (k+1)=jy s k++s.extract k (k+1):=HR.out;rw[h2];done)|(have h2:jy s (k+1)=jy s k:=HR.out;rw[h2]),by first|(have h2:fJ s (k+1)=fJ s k:=HS.out;rw[h2];first|done|go_num)|(have h2:fJ s (k+1)=fJ s k+1:=HS.out;rw[h2];go_num),trivial⟩
     case measure=>exact aJ
  .obtain rfl:k=s.size:=o_
   rw[Da,HC.out];generalize jA s=R at *;clear HM HC;go_wp2_with fail
   refine aj (K5.out _ (HE.out.below bb0)) λw2 hb=>?_;replace bb0:=ag hb bb0.size bb0;obtain⟨kA,hx⟩:=ay w2 #[A,B] 42;replace bb0:=ag hx bb0.size bb0;clear hb;go_upto_region 28 with fail
   generalize w2.alloc _=W2 at *;clear hx;go_wp2_with fail
   refine aj (K6.out _ (HE.out.below bb0)) λw2 hb=>?_;replace kA:=kA.next hb
   replace bb0:=ag hb bb0.size bb0;obtain⟨kB,hx⟩:=ay w2 #[A,B] 42;replace kA:=kA.next hx
   replace bb0:=ag hx bb0.size bb0;clear hb;go_upto_region 29 with fail
   generalize w2.alloc _=W2 at *;clear hx;go_wp2_with fail
   refine aj (K7.out _ (HE.out.below bb0)) λw2 hb=>?_;replace kA:=kA.next hb;replace kB:=kB.next hb
   replace bb0:=ag hb bb0.size bb0;obtain⟨kC,hx⟩:=ay w2 #[A,B] 42;replace kA:=kA.next hx;replace kB:=kB.next hx
   replace bb0:=ag hx bb0.size bb0;clear hb;go_upto_region 30 with fail
   generalize w2.alloc _=W2 at *;clear hx;go_wp2_with fail
   refine aj (K8.out _ (HE.out.below bb0)) λw2 hb=>?_;replace kA:=kA.next hb;replace kB:=kB.next hb;replace kC:=kC.next hb
   replace bb0:=ag hb bb0.size bb0;obtain⟨pA,hx⟩:=ay w2 #[X,Y,E] 46;replace kA:=kA.next hx;replace kB:=kB.next hx;replace kC:=kC.next hx
   replace bb0:=ag hx bb0.size bb0;clear hb;go_upto_region 31 with fail
   generalize w2.alloc _=W2 at *;clear hx;go_wp2_with fail
   refine aj (K9.out _ (HE.out.below bb0)) λw2 hb=>?_;replace kA:=kA.next hb;replace kB:=kB.next hb;replace kC:=kC.next hb;replace pA:=pA.next hb
   replace bb0:=ag hb bb0.size bb0;obtain⟨pB,hx⟩:=ay w2 #[X,Y,E] 46;replace kA:=kA.next hx;replace kB:=kB.next hx;replace kC:=kC.next hx;replace pA:=pA.next hx
   replace bb0:=ag hx bb0.size bb0;clear hb;go_upto_region 32 with fail
   generalize w2.alloc _=W2 at *;clear hx;go_wp2_with fail
   refine aj (K10.out _ (HE.out.below bb0)) λw2 hb=>?_;replace kA:=kA.next hb;replace kB:=kB.next hb;replace kC:=kC.next hb;replace pA:=pA.next hb;replace pB:=pB.next hb
   replace bb0:=ag hb bb0.size bb0;obtain⟨pC,hx⟩:=ay w2 #[X,Y,E] 46;replace kA:=kA.next hx;replace kB:=kB.next hx;replace kC:=kC.next hx;replace pA:=pA.next hx;replace pB:=pB.next hx
   replace bb0:=ag hx bb0.size bb0;clear hb;go_upto_region 33 with fail
   generalize w2.alloc _=W2 at *;clear hx;go_wp2_with fail
   refine (K11.out _ (HE.out.below bb0)).mono ?_;rintro e w2 ⟨v_oc,rfl,oc,hb⟩;replace kA:=kA.next hb;replace kB:=kB.next hb;replace kC:=kC.next hb;replace pA:=pA.next hb;replace pB:=pB.next hb;replace pC:=pC.next hb
   replace bb0:=ag hb bb0.size bb0;clear hb;go_wp2_with fail
   refine (K12.out _ (HE.out.below bb0)).mono ?_;rintro e w2 ⟨v_od,rfl,od,hb⟩;replace kA:=kA.next hb;replace kB:=kB.next hb;replace kC:=kC.next hb;replace pA:=pA.next hb;replace pB:=pB.next hb;replace pC:=pC.next hb
   replace bb0:=ag hb bb0.size bb0;replace oc:=oc.below hb;clear hb;go_wp2_with fail
   refine (K13.out _ (HE.out.below bb0)).mono ?_;rintro e w2 ⟨v_oe,rfl,oe,hb⟩;replace kA:=kA.next hb;replace kB:=kB.next hb;replace kC:=kC.next hb;replace pA:=pA.next hb;replace pB:=pB.next hb;replace pC:=pC.next hb
   replace bb0:=ag hb bb0.size bb0;replace oc:=oc.below hb;replace od:=od.below hb;clear hb;go_wp2_with fail
   refine aj (K14.out _ (HE.out.below bb0)) λw2 hb=>?_;replace kA:=kA.next hb;replace kB:=kB.next hb;replace kC:=kC.next hb;replace pA:=pA.next hb;replace pB:=pB.next hb;replace pC:=pC.next hb
   replace bb0:=ag hb bb0.size bb0;replace oc:=oc.below hb;replace od:=od.below hb;replace oe:=oe.below hb;clear hb;clear K5 K6 K7 K8 K9 K10 K11 K12 K13 K14;have⟨a0,a1⟩:=kA.q2;have⟨b0,b1⟩:=kB.q2;have⟨c0,c1⟩:=kC.q2;have⟨d0,d1,d2⟩:=pA.q3;have⟨e0,e1,e2⟩:=pB.q3;have⟨f0,f1,f2⟩:=pC.q3;have la:=kA.lt;have lb:=kB.lt;have lc:=kC.lt;have ld:=pA.lt;have le:=pB.lt;have lf:=pC.lt;go_wp2_with fail
   refine (Ch _ _ _ _ L o_ _ oc oe).mono ?_;rintro e w2 ⟨rfl,hb⟩;replace kA:=kA.next hb;replace kB:=kB.next hb;replace kC:=kC.next hb;replace pA:=pA.next hb;replace pB:=pB.next hb;replace pC:=pC.next hb
   replace bb0:=ag hb bb0.size bb0;replace oc:=oc.below hb;replace od:=od.below hb;replace oe:=oe.below hb;clear hb;go_wp2_with fail
   refine (Ch _ _ _ _ L o_ _ od oe).mono ?_;rintro e w2 ⟨rfl,hb⟩;replace kA:=kA.next hb;replace kB:=kB.next hb;replace kC:=kC.next hb;replace pA:=pA.next hb;replace pB:=pB.next hb;replace pC:=pC.next hb
   replace bb0:=ag hb bb0.size bb0;replace oc:=oc.below hb;clear hb;have⟨a0,a1⟩:=kA.q2;have⟨b0,b1⟩:=kB.q2;have⟨c0,c1⟩:=kC.q2;have⟨d0,d1,d2⟩:=pA.q3;have⟨e0,e1,e2⟩:=pB.q3;have⟨f0,f1,f2⟩:=pC.q3;have la:=kA.lt;have lb:=kB.lt;have lc:=kC.lt;have ld:=pA.lt;have le:=pB.lt;have lf:=pC.lt;go_wp2_with fail
   refine aj (KP.out _) λw2 hb=>?_;replace bb0:=ag hb bb0.size bb0;replace oc:=oc.below hb;clear hb;go_wp2_with fail
   refine aj (M9 _ _ L a6.out.2.2 _ oc) λw2 hb=>?_;replace bb0:=ag hb bb0.size bb0;go_wp2;go_ret;exact⟨rfl,bb0⟩
end Go.Proofs.YtaamhakdhaolmaaGreatDoor
