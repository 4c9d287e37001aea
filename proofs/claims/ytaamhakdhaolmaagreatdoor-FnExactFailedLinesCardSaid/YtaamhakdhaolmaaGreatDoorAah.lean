/- Part 7. -/
import Derived.Deep.RegionLawGrows
import Derived.Test.YtaamhakdhaolmaaGreatDoorAaf
namespace Go.Proofs.YtaamhakdhaolmaaGreatDoor
open Go.RowKit
set_option maxHeartbeats 8000000
set_option maxRecDepth 100000
variable {P:Prop}
set_option linter.all false
def aq.closed(G)(v)(xs):aQ (λw=>aq w G v xs):=λ_ _ h hb=>h.below hb
def aq.over{ex:List Nat}{w w'}{G}{v}{xs}(h:aq w G v xs)(Z:ah ex w w')(hn:∀g,v.ownBlock=some g->g∉ex):aq w' G v xs:=by
 exact I0
def aq.cell{w}{G}{xs}{g n F:Nat}(h:aq w G (.slice g n F) xs){i}(hi:i<xs.length):w.cell? ⟨g,i,none⟩=some (.int .i64 (xs[i]?.getD 0)):=by
 have⟨a,ae,hv,hc⟩:=h.form;have⟨g',ha,h1,_⟩:=hc i hi;injection hv with e1 _ _;rw[ha] at e1;injection e1 with e1;injection e1 with e1;rw[e1];exact h1
section
variable {ops:Array Oper}{Q:Exit->Act->au}{ex:List Nat}{W:World}{R:Nat->Bool}{N D:au}
end
def H7(h:P:=by
 go_wp2;go_roundw
 case rel=>exact⟨k+1,by omega,by go_num,by go_num,HR.out.1,HR.out.2⟩
 case measure=>exact aO):=h
def Hk(h:P:=by
 go_wp2;go_round
 case rel=>exact⟨k+1,by omega,by go_num,by go_num⟩
 case measure=>exact aO):=h
def Hb(h:P:=by
 obtain⟨g,ha,h1,h2,_⟩:=hc i hi;exact⟨g,0,ha,by rw[U7];exact h1,h2⟩):=h
def nh(h:P:=by
 exact rV):=h
def sC(w:World)(v:Value)(xs:List Int):Prop:=∃(a:bT) (F:Nat),v=.slice a xs.length F/\∀i,i<xs.length->∃g o,a=some ⟨g,o,none⟩/\w.cell? ⟨g,o+i,none⟩=some (.int .i64 (xs[i]?.getD 0))/\g<w.heap.size
def aq.rd{w}{G}{v}{xs}(h:aq w G v xs):sC w v xs:=by
 have⟨a,F,hv,hc⟩:=h.form;refine⟨a,F,hv,λi hi=>?_⟩;exact Hb
def aq.lt{w}{G}{v}{xs}(h:aq w G v xs):∀g,v.ownBlock=some g->G<=g/\g<w.heap.size:=U9 h
def jk(n:Nat):List Int:=(List.range n).map λ(i:Nat)=>1+(i)
def sM(n):(jk n).length=n:=by simp [jk]
def O5(n i)(h:i<n):(jk n)[i]?.getD 0=1+(i):=by
 have e:(jk n)[i]?=some (1+(i:Int)):=by simp [jk,h]
 rw[e];rfl
def jq(xs:List Int)(k:Nat):List Int:=jk k++xs.drop k
def wH(xs)(k)(h:k<=xs.length):(jq xs k).length=xs.length:=by simp [jq,jk];omega
def Pn(xs)(k)(h:k<xs.length):((jq xs k).map (Value.int .i64)).set k (.int .i64 (1+(k)))=(jq xs (k+1)).map (Value.int .i64):=by
 have e1:jq xs (k+1)=jk k++((1+(k:Int))::xs.drop (k+1)):=by simp [jq,jk,Yk]
 have e2:jq xs k=jk k++(xs[k]::xs.drop (k+1)):=by unfold jq;rw[Vq h]
 rw[e1,e2,VN,VN,VF,VF,WQ,Uj (by rw[Wm,sM];omega),Wm,sM,V7];rfl
def Nz{w wr:World}{G}{xs}{g F k:Nat}(hk:k<xs.length)(Z:aq wr G (.slice g xs.length F) (jq xs k))(hg:w.grownBy wr (some g)):
 aq (wr.setCell ⟨g,k,none⟩ (.int .i64 (1+(k)))) G (.slice g xs.length F) (jq xs (k+1))/\w.grownBy (wr.setCell ⟨g,k,none⟩ (.int .i64 (1+(k)))) (some g):=by
 refine⟨?_,oE hg _ _⟩;unfold aq at Z ⊢;rw[wH _ _ o_] at Z;rw[wH _ _ o_,<-Pn xs k hk];exact jJ Z rfl _ _
def C1(w:World)(xs:List Int)(b:Bool)(e:Ending)(w':World):Prop:=∃v,e=.returned (.tuple #[v,b])/\aq w' w v xs/\Below w w w'
def aq.frozen{w}{G g n F:Nat}{xs}(h:aq w G (.slice g n F) xs)(o):w.frozen? ⟨g,o,none⟩=false:=by
 rcases h.2 with ⟨h0,_⟩|⟨g',ae,aM,hv,hg,hh,_⟩
 .cases h0
 .injection hv with e1 _ _;injection e1 with e1;injection e1 with e1;subst e1;simp [World.frozen?,hh]
def On(G)(v)(xs)(hL:xs.length<=100000000)(w)(V:aq w G v xs):
 Kp 13 #[v,(1:Int)] w λe w'=>e=.returned (1+xs.length:Int)/\aq w' G v (jk xs.length)/\w.grownBy w' v.ownBlock:=by
 obtain⟨a,F,rfl,H⟩:=aq.form V;have HF:=h_ H;go_enter Tryz.func13,Tryz.ntmps13;go_wp2;go_loopw [1,5] (λm i wr=>∃k:Nat,k<=xs.length/\m=.int .i64 (1+(k:Int))/\i=.int .i64 k/\aq wr G (.slice a xs.length F) (jq xs k)/\w.grownBy wr (Value.slice a xs.length F).ownBlock) (λ_ i _=>xs.length - (intOf i).toNat)
 case atStart=>exact⟨0,UB _,rfl,rfl,V,⟨rfl,rfl,rfl,Ug _,λ_ _ _=>rfl⟩⟩
 case round=>
  obtain⟨k,hk,rfl,rfl,Z,hg⟩:=hrel;by_cases aG:k<xs.length
  .obtain⟨g,rfl,_⟩:=HF.out k aG;have R:=Nz aG Z hg;have q1:=aq.cell Z (by rw[wH _ _ hk];exact aG);have f1:=Z.frozen k;have HR:=h_ R;exact H7
  .obtain rfl:k=xs.length:=by omega
   go_wp2;go_ret;refine⟨rfl,?_,hg⟩;have:jq xs xs.length=jk xs.length:=by simp [jq]
   rw[this] at Z;exact Z
def BX(G)(v)(n)(hL:n<=100000000)(w)(V:aq w G v (jk n)):
 Rw 14 #[v,(1:Int)] w (1+n:Int):=by
 obtain⟨a,F,rfl,H⟩:=aq.form V;have HF:=h_ H;rw[sM];go_enter Tryz.func14,Tryz.ntmps14;go_wp2;go_loop [1,5] (λm i=>∃k:Nat,k<=n/\m=.int .i64 (1+(k:Int))/\i=.int .i64 k) (λ_ i=>n - (intOf i).toNat)
 case atStart=>exact⟨0,UB _,rfl,rfl⟩
 case round=>
  obtain⟨k,hk,rfl,rfl⟩:=hrel;by_cases aG:k<n
  .obtain⟨g,rfl,q1,_⟩:=HF.out k (by rw[sM];exact aG);rw[O5 n k aG] at q1;exact Hk
  .obtain rfl:k=n:=by omega
   exact nh
def C7(v v')(xs)(hL:xs.length<=100000000)(w)(h1:sC w v xs)(h2:sC w v' xs):
 Rv 12 #[v,v'] w true:=by
 obtain⟨a,F,rfl,H⟩:=h1;obtain⟨a',ae,rfl,G⟩:=h2;have HF:=h_ H;have J:=h_ G;go_enter Tryz.func12,Tryz.ntmps12;go_wp2;go_loopw [5] (λi wr=>∃k:Nat,k<=xs.length/\i=.int .i64 k/\Below w w wr) (λi _=>xs.length - (intOf i).toNat)
 case atStart=>exact⟨0,UB _,rfl,Uk _ _⟩
 case round=>
  obtain⟨k,hk,rfl,a8⟩:=hrel;by_cases aG:k<xs.length
  .obtain⟨g,o,rfl,q1,hg⟩:=HF.out k aG;obtain⟨g',o',rfl,r1,K⟩:=J.out k aG;have q2:=(a8.cell (p:=⟨g,o+k,none⟩) hg).trans q1;have r2:=(a8.cell (p:=⟨g',o'+k,none⟩) K).trans r1;generalize xs[k]?.getD 0=y at q2 r2;have i0:(0:Int)<=(k:Int):=o_;have U:(k:Int)<(xs.length:Int):=o_;go_wp2
   go_quiet (fail)
   go_wp2;go_roundw
   case rel=>exact⟨k+1,by omega,by go_num,lN a8 _⟩
   case measure=>exact aO
  .obtain rfl:k=xs.length:=by omega
   go_wp2;go_ret;exact⟨rfl,a8⟩
def IS(h:P:=by
 intro i hi;obtain⟨g',o',e,h1,h2⟩:=hc i hi;injection e with e;injection e with e1 e2;subst e1 e2;exact⟨h1,h2⟩):=h
def AV{ops}{rest}{o}{a}{Q}{wr:World}(aa:o.guard=none)(s x)
 (Z:o.op=.call {callee:=.builtin .append,args:=#[s,x],argTypes:=#[22,22]})
 (G)(g off F)(hs:a.eval s=.slice wr 0 0)(hx:a.eval x=.slice (some ⟨g,off,none⟩) G.length F)
 (hc:∀i,i<G.length->wr.cell? ⟨g,off+i,none⟩=some (.int .i64 (G[i]?.getD 0))/\g<wr.heap.size)
 (ac:G.length<1000000000000)
 (h:∀v' w1,aq w1 wr v' G->Below wr wr w1->wpList Tryz.prog ops Q rest (a.put o.dst v') w1):
 wpList Tryz.prog ops Q (o::rest) a (wr.alloc (.cells #[] 3)):=by
 have⟨i0,hi,bi,ax,a8⟩:=VE Tryz.infoI;have V:(wr.alloc (.cells #[] 3)).ownsRow wr 3 1 (.slice wr 0 0) 0 []:=World.ownsRow_lit wr #[] 0 (Ug _) pv rfl;refine Xn _ aa s x 22 Z wr 3 i0 () 1 8 Tryz.underlying22 hi bi ax a8 rfl d_ _ 0 [] hs V ⟨g,off,none⟩ G.length F (G.map (Value.int .i64)) hx s_ ?_ ?_ ?_ ?_ ?_ ?_
 .intro j u hj;have aG:=by have:=(U2.1 hj).1;simpa using this
  have⟨h1,h2⟩:=hc j aG;rw[XV,Us aG] at hj;rw[Us aG] at h1;have e:(⟨g,off,none⟩:Addr).add j=⟨g,off+j,none⟩:=by cases j<;>simp [Addr.add]
  rw[e];have:=((Uk wr wr).alloc (Ug _) (.cells #[] 3)).cell (p:=⟨g,off+j,none⟩) h2;rw[this,h1,<-hj];rfl
 .intro u hu;simp at hu;obtain⟨y,_,rfl⟩:=hu;rfl
 .unfold maxLen;omega
 .omega
 .simp
 .intro v' w1 J H _;refine h v' w1 ?_ ?_
  .show w1.ownsRow _ _ _ _ _ _;simpa using J
  .refine ((Uk wr wr).alloc (Ug _) _).grown H s_ (λk hk=>?_);simp [Value.ownBlock] at hk;omega
def QC(v)(xs)(hx:xs≠[])(hL:xs.length<=100000000)(w)(hr:sC w v xs):
 Kp 302 #[v] w λe w'=>∃v',e=.returned v'/\aq w' w v' xs/\Below w w w':=by
 obtain⟨a,F,rfl,hc⟩:=hr;obtain⟨g,o,rfl,_,_⟩:=hc 0 (Vi.2 hx);have bb:∀i,i<xs.length->w.cell? ⟨g,o+i,none⟩=some (.int .i64 (xs[i]?.getD 0))/\g<w.heap.size:=by
  exact IS
 have HC:=h_ bb;have J:∀(w:World) (a:bT) (n c H c':Nat),(binOp .eql 22 (.slice a n c) (.slice none H c')).run Tryz.prog w=.ok (.bool a.isNone) w:=λw a n c H c'=>Lib.run_eql_slice_nil w _ _ a n c H c' Tryz.underlying22;go_enter Tryz.func302,Tryz.ntmps302;go_wp2_with (at_builtin;refine AV rfl _ _ rfl xs g o F rfl rfl HC.out o_ ?_;intro v' w1 G I)
 go_wp2;go_ret;exact⟨_,rfl,G,I⟩
end Go.Proofs.YtaamhakdhaolmaaGreatDoor
