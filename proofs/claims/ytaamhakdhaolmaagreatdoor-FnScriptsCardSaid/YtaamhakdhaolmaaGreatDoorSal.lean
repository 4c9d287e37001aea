/- Part 11. -/
import Derived.Lib.SmallJoins
import Derived.Lib.Split
import Derived.Lib.IndexLaws
import Derived.Test.YtaamhakdhaolmaaGreatDoorSab
import Derived.Test.YtaamhakdhaolmaaGreatDoorSae
namespace Go.Proofs.YtaamhakdhaolmaaGreatDoor
open Go.RowKit Go.Proofs.Tryz
set_option maxHeartbeats 8000000
set_option maxRecDepth 100000
variable {P:Prop}
set_option linter.all false
def H8(h:P:=by have h7:g∈u5.ownBlock.toList:=hg;simpa using h7):=h
def Tryz.infoT:(prog.info? 9).map (λi=>(i.zero,i.size,i.bytes))=some (some (.string ⟨#[]⟩),1,16):=by kernel_rfl
def cU(w:World)(G:Nat)(v:Value)(xs:bW):Prop:=w.ownsRow G 9 1 v xs.length (xs.map Value.string)
def cU.nil(w)(G):cU w G (.slice none 0 0) []:=XK _ _ _ _
def cU.below{w w1}{G}{v}{xs}(h:cU w G v xs)(hb:af w w w1):cU w1 G v xs:=by
 exact wv
def cU.lt{w}{G}{v}{xs}(h:cU w G v xs):∀g,v.ownBlock=some g->G<=g/\g<w.heap.size:=Wb h
def cU.form{w}{G}{v}{xs}(h:cU w G v xs):
 ∃(a:ck) (F:Nat),v=.slice a xs.length F/\xs.length<=F/\∀i (_:i<xs.length),∃g,a=some ⟨g,0,none⟩/\w.cell? ⟨g,i,none⟩=some (.string xs[i])/\(∀o,w.frozen? ⟨g,o,none⟩=false)/\g<w.heap.size/\G<=g:=by
 rcases h.2 with ⟨hv,hn⟩|⟨g,F,cur,hv,hg,hh,aL,_,_,ht⟩
 .exact AC
 .refine⟨some ⟨g,0,none⟩,F,hv,aL,λi hi=>⟨g,rfl,?_,?_,(Vz.1 hh).1,hg⟩⟩
  .have h4:(cur.toList.take (xs.length*1))[i]?=cur.toList[i]?:=VU o_;rw[ht,YY,Vv hi] at h4;exact AA
  .intro o;simp [World.frozen?,hh]
def B3{ops}{rest}{o}{a}{Q}{wr}{y:ak}(aa:o.guard=none)(s x)
 (Z:o.op=.call {callee:=.builtin .append,args:=#[s,x],argTypes:=#[63,63]})
 (G)(v)(xs)(hs:a.eval s=v)(V:cU wr G v xs)(hx:a.eval x=.slice wr 1 1)
 (ae:xs.length<1000000000)(H:G<=wr.heap.size)
 (h:∀v' w1,cU w1 G v' (xs++[y])->ai v.ownBlock.toList wr w1->wpList prog ops Q rest (a.put o.dst v') w1):
 wpList prog ops Q (o::rest) a (wr.alloc (.cells #[y] 9)):=by
 have⟨U,hi,bi,ac,ba⟩:=WL Tryz.infoT;refine Yo _ aa s x 63 Z G 9 U (.string ⟨#[]⟩) 1 16 underlying63 hi bi ac ba rfl d_ v xs.length (xs.map Value.string) hs (XF V _) ⟨wr,0,none⟩ 1 1 [.string y] hx rfl ?_ ?_ ?_ ?_ ?_ ?_
 .intro j u hj
  match j,hj with
  |0,hj=>simp at hj;subst hj;simp [Addr.add]
 .intro u hu;simp at hu;subst hu;rfl
 .unfold maxLen;omega
 .omega
 .simp;omega
 .intro v' w1 J I _;refine h v' w1 ?_ ?_
  .unfold cU;simpa using J
  .have ha:=(Vn wr wr).alloc (Vj _) (.cells #[y] 9);exact Jq
def dN(s:ak)(b:UInt8):Nat->bW×Nat
 |0=>([],0)
 |k+1=>if s.data.toList[k]?=some b then ((dN s b k).1++[s.extract (dN s b k).2 k],k+1) else dN s b k
def bB(s:ak)(b:UInt8):bW:=(dN s b s.size).1++[s.extract (dN s b s.size).2 s.size]
theorem qS(s)(b:UInt8):∀k,(dN s b k).2<=k/\(dN s b k).1.length<=k
 |0=>⟨Vj _,Vj _⟩
 |k+1=>by
  have:=qS s b k;unfold dN;split
  .simp;omega
  .omega
def Qg{s}{b:UInt8}{k}(h:k<s.size)(hq:((s[k].toNat:Int)==(b.toNat:Int))=true):dN s b (k+1)=((dN s b k).1++[s.extract (dN s b k).2 k],k+1):=by
 have hl:s.data.toList.length=s.size:=Vy;have hk:k<s.data.toList.length:=o_;have e:s.data.toList[k]=s[k]:=rfl;have h1:s[k]=b:=by
  have h9:(s[k].toNat:Int)=b.toNat:=by simpa using hq
  exact Xs.1 o_
 rw[dN,Vo (by rw[Vv hk,e,h1])]
def R9{s}{b:UInt8}{k}(h:k<s.size)(hq:((s[k].toNat:Int)==(b.toNat:Int))=false):dN s b (k+1)=dN s b k:=by
 have hl:s.data.toList.length=s.size:=Vy;have hk:k<s.data.toList.length:=o_;have e:s.data.toList[k]=s[k]:=rfl;rw[dN,Vm];rw[Vv hk,e];intro h1;injection h1 with h1;rw[h1] at hq;simp at hq
theorem De(s)(b:UInt8):∀k,k<=s.size->cn b s.data.toList=(dN s b k).1.map (·.data.toList)++jB ((s.data.toList.drop (dN s b k).2).take (k - (dN s b k).2)) (cn b (s.data.toList.drop k))
 |0,_=>by
  simp;exact (DU _ (nX _ _)).symm
 |k+1,h=>by
  have hl:s.data.toList.length=s.size:=Vy;have hk:k<s.data.toList.length:=o_;have g:=De s b k o_;have cm:=(qS s b k).1;rw[WG hk,js] at g;by_cases hx:s.data.toList[k]=b
  .rw[Vo hx] at g;rw[dN,Vo (by rw[Vv hk,hx]),g];simp only[XB,Zr,Xi,WU,X7,VX,List.singleton_append];rw[DU _ (nX _ _)];simp only[jB,V5];congr 2;rw[Lib.extract_data]
  .rw[Vm hx,PS] at g;rw[dN,Vm (by rw[Vv hk];intro h9;exact hx (by injection h9)),g];congr 2;generalize hf:(dN s b k).2=f at cm ⊢;have e1:k+1 - f=(k - f)+1:=o_;rw[e1,YZ,W_,show f+(k - f)=k by omega,Vv hk];rfl
def ky(s)(b:UInt8):(bB s b).map (·.data.toList)=cn b s.data.toList:=by
 have hl:s.data.toList.length=s.size:=Vy;have h:=De s b s.size (Vj _);have cm:=(qS s b s.size).1;rw[show s.data.toList.drop s.size=[] from XH o_] at h;rw[h];unfold bB;simp only[Xi,WU,X7];simp only[cn,jB,V5];congr 2;rw[Lib.extract_data]
def yd(s)(b:UInt8):(bB s b).length<=s.size+1/\1<=(bB s b).length:=by
 have:=(qS s b s.size).2;unfold bB;simp;exact this
def gL(s:ak)(b:UInt8)(w)(hs:s.size<=100000000):
 Kp 61 #[s,.int .u8 b.toNat] w λe w'=>∃v,e=.returned v/\cU w' w v (bB s b)/\af w w w':=by
 go_enter func61,ntmps61;go_wp2;go_loopw [5,6,7] (λv f i wr=>∃k:Nat,k<=s.size/\f=.int .i64 ((dN s b k).2:Nat)/\i=.int .i64 k/\cU wr w v (dN s b k).1/\af w w wr) (λ_ _ i _=>s.size - (intOf i).toNat)
 case atStart=>exact⟨0,VH _,rfl,rfl,cU.nil _ _,Vn _ _⟩
 case round=>
  obtain⟨k,hk,rfl,rfl,Z,hb⟩:=hrel;have a6:=hb.size;have aM:=qS s b k;by_cases aG:k<s.size
  .cases hq:((s[k].toNat:Int)==(b.toNat:Int))
   .have HE:=h_ (R9 aG hq);generalize dN s b k=P at *;go_wp2;go_roundw
    case rel=>exact⟨k+1,o_,by rw[HE.out],by go_num,by rw[HE.out];exact Z,hb⟩
    case measure=>exact aJ
   .have HE:=h_ (Qg aG hq);generalize dN s b k=P at *;have⟨X,f⟩:=P;simp only at aM Z HE ⊢;have⟨G,J⟩:=aM;go_wp2_with (at_builtin;refine B3 rfl _ _ rfl w _ X rfl Z rfl o_ a6 ?_;intro v' w1 ax I)
    have H:=Z.lt;have U:=I.belowGe hb a6 (λg hg=>(H g H8).1);go_wp2;go_roundw
    case rel=>exact⟨k+1,o_,by rw[HE.out];go_num,by go_num,by rw[HE.out];exact ax,U⟩
    case measure=>exact aJ
  .obtain rfl:k=s.size:=o_
   have HE:Hid (bB s b=(dN s b s.size).1++[s.extract (dN s b s.size).2 s.size]):=rfl;generalize dN s b s.size=P at *;have⟨X,f⟩:=P;simp only at aM Z HE ⊢;have⟨G,J⟩:=aM;go_wp2_with (at_builtin;refine B3 rfl _ _ rfl w _ X rfl Z rfl o_ a6 ?_;intro v' w1 ax I)
   have U:=I.belowGe hb a6 (λg hg=>(Z.lt g H8).1);go_wp2;obtain⟨a,F,rfl,_⟩:=ax.form;rw[VI,XM] at ax ⊢;refine Vk (v:=.slice a (X.length+1) F) (by simp [results,results61,go_sem]) rfl ?_;exact⟨_,rfl,by rw[HE.out];exact ax,U⟩
end Go.Proofs.YtaamhakdhaolmaaGreatDoor
