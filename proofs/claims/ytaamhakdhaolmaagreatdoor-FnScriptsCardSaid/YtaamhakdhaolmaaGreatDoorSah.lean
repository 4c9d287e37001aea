/- Part 7. -/
import Derived.Deep.RegionLawGrows
import Derived.Test.YtaamhakdhaolmaaGreatDoorSaf
namespace Go.Proofs.YtaamhakdhaolmaaGreatDoor
open Go.RowKit Go.Proofs.Tryz
set_option maxHeartbeats 8000000
set_option maxRecDepth 100000
variable {P:Prop}
set_option linter.all false
def ar.closed(G)(v)(xs):aQ (λw=>ar w G v xs):=λ_ _ h hb=>h.below hb
def ar.over{ex:List Nat}{w w'}{G}{v}{xs}(h:ar w G v xs)(Z:ai ex w w')(hn:∀g,v.ownBlock=some g->g∉ex):ar w' G v xs:=by
 exact JE
def ar.cell{w}{G}{xs}{g n F:Nat}(h:ar w G (.slice g n F) xs){i}(hi:i<xs.length):w.cell? ⟨g,i,none⟩=some (.int .i64 (xs[i]?.getD 0)):=by
 have⟨a,aX,hv,hc⟩:=h.form;have⟨g',ha,h1,_⟩:=hc i hi;injection hv with e1 _ _;rw[ha] at e1;injection e1 with e1;injection e1 with e1;rw[e1];exact h1
section
variable {ops:Array Oper}{Q:Exit->Act->av}{ex:List Nat}{W:World}{R:Nat->Bool}{N D:av}
end
def Ir(h:P:=by
 obtain⟨g,ha,h1,h2,_⟩:=hc i hi;exact⟨g,0,ha,by rw[V9];exact h1,h2⟩):=h
def qe(h:P:=by
 exact sJ):=h
def qv(w:World)(v:Value)(xs:List Int):Prop:=∃(a:ck) (F:Nat),v=.slice a xs.length F/\∀i,i<xs.length->∃g o,a=some ⟨g,o,none⟩/\w.cell? ⟨g,o+i,none⟩=some (.int .i64 (xs[i]?.getD 0))/\g<w.heap.size
def ar.rd{w}{G}{v}{xs}(h:ar w G v xs):qv w v xs:=by
 have⟨a,F,hv,hc⟩:=h.form;refine⟨a,F,hv,λi hi=>?_⟩;exact Ir
def ar.lt{w}{G}{v}{xs}(h:ar w G v xs):∀g,v.ownBlock=some g->G<=g/\g<w.heap.size:=Wb h
def DD(w:World)(xs:List Int)(b:Bool)(e:Ending)(w':World):Prop:=∃v,e=.returned (.tuple #[v,b])/\ar w' w v xs/\af w w w'
def ar.frozen{w}{G g n F:Nat}{xs}(h:ar w G (.slice g n F) xs)(o):w.frozen? ⟨g,o,none⟩=false:=by
 rcases h.2 with ⟨h0,_⟩|⟨g',aX,cur,hv,hg,hh,_⟩
 .cases h0
 .injection hv with e1 _ _;injection e1 with e1;injection e1 with e1;subst e1;simp [World.frozen?,hh]
def Jw(h:P:=by
 intro i hi;obtain⟨g',o',e,h1,h2⟩:=hc i hi;injection e with e;injection e with e1 e2;subst e1 e2;exact⟨h1,h2⟩):=h
def Bs{ops}{rest}{o}{a}{Q}{wr:World}(aa:o.guard=none)(s x)
 (Z:o.op=.call {callee:=.builtin .append,args:=#[s,x],argTypes:=#[22,22]})
 (ys)(g off F)(hs:a.eval s=.slice wr 0 0)(hx:a.eval x=.slice (some ⟨g,off,none⟩) ys.length F)
 (hc:∀i,i<ys.length->wr.cell? ⟨g,off+i,none⟩=some (.int .i64 (ys[i]?.getD 0))/\g<wr.heap.size)
 (ae:ys.length<1000000000000)
 (h:∀v' w1,ar w1 wr v' ys->af wr wr w1->wpList prog ops Q rest (a.put o.dst v') w1):
 wpList prog ops Q (o::rest) a (wr.alloc (.cells #[] 3)):=by
 have⟨U,hi,bi,ac,ba⟩:=WL Tryz.infoI;have V:(wr.alloc (.cells #[] 3)).ownsRow wr 3 1 (.slice wr 0 0) 0 []:=World.ownsRow_lit wr #[] 0 (Vj _) pN rfl;refine Yo _ aa s x 22 Z wr 3 U () 1 8 underlying22 hi bi ac ba rfl d_ _ 0 [] hs V ⟨g,off,none⟩ ys.length F (ys.map (Value.int .i64)) hx s_ ?_ ?_ ?_ ?_ ?_ ?_
 .intro j u hj;have aG:=by have:=(V3.1 hj).1;simpa using this
  have⟨h1,h2⟩:=hc j aG;rw[YY,Vv aG] at hj;rw[Vv aG] at h1;have e:(⟨g,off,none⟩:Addr).add j=⟨g,off+j,none⟩:=by cases j<;>simp [Addr.add]
  rw[e];have:=((Vn wr wr).alloc (Vj _) (.cells #[] 3)).cell (p:=⟨g,off+j,none⟩) h2;rw[this,h1,<-hj];rfl
 .intro u hu;simp at hu;obtain⟨y,_,rfl⟩:=hu;rfl
 .unfold maxLen;omega
 .omega
 .simp
 .intro v' w1 J I _;refine h v' w1 ?_ ?_
  .show w1.ownsRow _ _ _ _ _ _;simpa using J
  .refine ((Vn wr wr).alloc (Vj _) _).grown I s_ (λk hk=>?_);simp [Value.ownBlock] at hk;omega
def Rq(v)(xs)(hx:xs≠[])(hL:xs.length<=100000000)(w)(hr:qv w v xs):
 Kp 302 #[v] w λe w'=>∃v',e=.returned v'/\ar w' w v' xs/\af w w w':=by
 obtain⟨a,F,rfl,hc⟩:=hr;obtain⟨g,o,rfl,_,_⟩:=hc 0 (Wm.2 hx);have a2:∀i,i<xs.length->w.cell? ⟨g,o+i,none⟩=some (.int .i64 (xs[i]?.getD 0))/\g<w.heap.size:=by
  exact Jw
 have HC:=h_ a2;have J:∀(w:World) (a:ck) (n c H c':Nat),(binOp .eql 22 (.slice a n c) (.slice none H c')).run prog w=.ok (.bool a.isNone) w:=λw a n c H c'=>Lib.run_eql_slice_nil w _ _ a n c H c' underlying22;go_enter func302,ntmps302;go_wp2_with (at_builtin;refine Bs rfl _ _ rfl xs g o F rfl rfl HC.out o_ ?_;intro v' w1 G I)
 go_wp2;go_ret;exact⟨_,rfl,G,I⟩
end Go.Proofs.YtaamhakdhaolmaaGreatDoor
