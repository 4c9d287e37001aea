/- Part 10. -/
import Derived.Lib.SmallJoins
import Derived.Lib.Split
import Derived.Lib.IndexLaws
import Derived.Test.YtaamhakdhaolmaaGreatDoorAab
import Derived.Test.YtaamhakdhaolmaaGreatDoorAae
namespace Go.Proofs.YtaamhakdhaolmaaGreatDoor
open Go.RowKit
set_option maxHeartbeats 8000000
set_option maxRecDepth 100000
variable {P:Prop}
set_option linter.all false
def GT(h:P:=by have h7:g∈u5.ownBlock.toList:=hg;simpa using h7):=h
def Tryz.infoT:(Tryz.prog.info? 9).map (λi=>(i.zero,i.size,i.bytes))=some (some (.string ⟨#[]⟩),1,16):=by kernel_rfl
def cH(w:World)(G:Nat)(v:Value)(xs:bV):Prop:=w.ownsRow G 9 1 v xs.length (xs.map Value.string)
def cH.nil(w)(G):cH w G (.slice none 0 0) []:=Wv _ _ _ _
def cH.below{w w1}{G}{v}{xs}(h:cH w G v xs)(hb:Below w w w1):cH w1 G v xs:=by
 exact vP
def cH.lt{w}{G}{v}{xs}(h:cH w G v xs):∀g,v.ownBlock=some g->G<=g/\g<w.heap.size:=U9 h
def cH.form{w}{G}{v}{xs}(h:cH w G v xs):
 ∃(a:bT) (F:Nat),v=.slice a xs.length F/\xs.length<=F/\∀i (_:i<xs.length),∃g,a=some ⟨g,0,none⟩/\w.cell? ⟨g,i,none⟩=some (.string xs[i])/\(∀o,w.frozen? ⟨g,o,none⟩=false)/\g<w.heap.size/\G<=g:=by
 rcases h.2 with ⟨hv,hn⟩|⟨g,F,aM,hv,hg,hh,aL,_,_,ht⟩
 .exact zY
 .refine⟨some ⟨g,0,none⟩,F,hv,aL,λi hi=>⟨g,rfl,?_,?_,(Uv.1 hh).1,hg⟩⟩
  .have h4:(aM.toList.take (xs.length*1))[i]?=aM.toList[i]?:=UR o_;rw[ht,XV,Us hi] at h4;exact zV
  .intro o;simp [World.frozen?,hh]
def Bz{ops}{rest}{o}{a}{Q}{wr}{y:aj}(aa:o.guard=none)(s x)
 (Z:o.op=.call {callee:=.builtin .append,args:=#[s,x],argTypes:=#[63,63]})
 (G)(v)(xs)(hs:a.eval s=v)(V:cH wr G v xs)(hx:a.eval x=.slice wr 1 1)
 (ac:xs.length<1000000000)(U:G<=wr.heap.size)
 (h:∀v' w1,cH w1 G v' (xs++[y])->ah v.ownBlock.toList wr w1->wpList Tryz.prog ops Q rest (a.put o.dst v') w1):
 wpList Tryz.prog ops Q (o::rest) a (wr.alloc (.cells #[y] 9)):=by
 have⟨i0,hi,bi,ax,a8⟩:=VE Tryz.infoT;refine Xn _ aa s x 63 Z G 9 i0 (.string ⟨#[]⟩) 1 16 Tryz.underlying63 hi bi ax a8 rfl d_ v xs.length (xs.map Value.string) hs (Wk V _) ⟨wr,0,none⟩ 1 1 [.string y] hx rfl ?_ ?_ ?_ ?_ ?_ ?_
 .intro j u hj
  match j,hj with
  |0,hj=>simp at hj;subst hj;simp [Addr.add]
 .intro u hu;simp at hu;subst hu;rfl
 .unfold maxLen;omega
 .omega
 .simp;omega
 .intro v' w1 J H _;refine h v' w1 ?_ ?_
  .unfold cH;simpa using J
  .have ha:=(Uk wr wr).alloc (Ug _) (.cells #[y] 9);exact IL
def dE(s:aj)(b:UInt8):Nat->bV×Nat
 |0=>([],0)
 |k+1=>if s.data.toList[k]?=some b then ((dE s b k).1++[s.extract (dE s b k).2 k],k+1) else dE s b k
def bL(s:aj)(b:UInt8):bV:=(dE s b s.size).1++[s.extract (dE s b s.size).2 s.size]
theorem qy(s)(b:UInt8):∀k,(dE s b k).2<=k/\(dE s b k).1.length<=k
 |0=>⟨Ug _,Ug _⟩
 |k+1=>by
  have:=qy s b k;unfold dE;split
  .simp;omega
  .omega
def Pp{s}{b:UInt8}{k}(h:k<s.size)(hq:((s[k].toNat:Int)==(b.toNat:Int))=true):dE s b (k+1)=((dE s b k).1++[s.extract (dE s b k).2 k],k+1):=by
 have hl:s.data.toList.length=s.size:=UC;have hk:k<s.data.toList.length:=o_;have e:s.data.toList[k]=s[k]:=rfl;have h1:s[k]=b:=by
  have h9:(s[k].toNat:Int)=b.toNat:=by simpa using hq
  exact Wn.1 o_
 rw[dE,Um (by rw[Us hk,e,h1])]
def Q8{s}{b:UInt8}{k}(h:k<s.size)(hq:((s[k].toNat:Int)==(b.toNat:Int))=false):dE s b (k+1)=dE s b k:=by
 have hl:s.data.toList.length=s.size:=UC;have hk:k<s.data.toList.length:=o_;have e:s.data.toList[k]=s[k]:=rfl;rw[dE,Uj];rw[Us hk,e];intro h1;injection h1 with h1;rw[h1] at hq;simp at hq
theorem CE(s)(b:UInt8):∀k,k<=s.size->cU b s.data.toList=(dE s b k).1.map (·.data.toList)++jm ((s.data.toList.drop (dE s b k).2).take (k - (dE s b k).2)) (cU b (s.data.toList.drop k))
 |0,_=>by
  simp;exact (Dj _ (tZ _ _)).symm
 |k+1,h=>by
  have hl:s.data.toList.length=s.size:=UC;have hk:k<s.data.toList.length:=o_;have g:=CE s b k o_;have cm:=(qy s b k).1;rw[Vq hk,ki] at g;by_cases hx:s.data.toList[k]=b
  .rw[Um hx] at g;rw[dE,Um (by rw[Us hk,hx]),g];simp only[V7,XF,VN,VF,WW,U5,List.singleton_append];rw[Dj _ (tZ _ _)];simp only[jm,Vr];congr 2;rw[Lib.extract_data]
  .rw[Uj hx,O0] at g;rw[dE,Uj (by rw[Us hk];intro h9;exact hx (by injection h9)),g];congr 2;generalize hf:(dE s b k).2=f at cm ⊢;have e1:k+1 - f=(k - f)+1:=o_;rw[e1,XW,VR,show f+(k - f)=k by omega,Us hk];rfl
def oU(s)(b:UInt8):(bL s b).map (·.data.toList)=cU b s.data.toList:=by
 have hl:s.data.toList.length=s.size:=UC;have h:=CE s b s.size (Ug _);have cm:=(qy s b s.size).1;rw[show s.data.toList.drop s.size=[] from Wr o_] at h;rw[h];unfold bL;simp only[VN,VF,WW];simp only[cU,jm,Vr];congr 2;rw[Lib.extract_data]
def xE(s)(b:UInt8):(bL s b).length<=s.size+1/\1<=(bL s b).length:=by
 have:=(qy s b s.size).2;unfold bL;simp;exact this
def gz(s:aj)(b:UInt8)(w)(hs:s.size<=100000000):
 Kp 61 #[s,.int .u8 b.toNat] w λe w'=>∃v,e=.returned v/\cH w' w v (bL s b)/\Below w w w':=by
 go_enter Tryz.func61,Tryz.ntmps61;go_wp2;go_loopw [5,6,7] (λv f i wr=>∃k:Nat,k<=s.size/\f=.int .i64 ((dE s b k).2:Nat)/\i=.int .i64 k/\cH wr w v (dE s b k).1/\Below w w wr) (λ_ _ i _=>s.size - (intOf i).toNat)
 case atStart=>exact⟨0,UB _,rfl,rfl,cH.nil _ _,Uk _ _⟩
 case round=>
  obtain⟨k,hk,rfl,rfl,Z,hb⟩:=hrel;have a6:=hb.size;have ab:=qy s b k;by_cases aG:k<s.size
  .cases hq:((s[k].toNat:Int)==(b.toNat:Int))
   .have HE:=h_ (Q8 aG hq);generalize dE s b k=P at *;go_wp2;go_roundw
    case rel=>exact⟨k+1,by omega,by rw[HE.out],by go_num,by rw[HE.out];exact Z,hb⟩
    case measure=>exact aO
   .have HE:=h_ (Pp aG hq);generalize dE s b k=P at *;have⟨X,f⟩:=P;simp only at ab Z HE ⊢;have⟨G,J⟩:=ab;go_wp2_with (at_builtin;refine Bz rfl _ _ rfl w _ X rfl Z rfl o_ a6 ?_;intro v' w1 bz I)
    have H:=Z.lt;have U:=I.belowGe hb a6 (λg hg=>(H g GT).1);go_wp2;go_roundw
    case rel=>exact⟨k+1,by omega,by rw[HE.out];go_num,by go_num,by rw[HE.out];exact bz,U⟩
    case measure=>exact aO
  .obtain rfl:k=s.size:=by omega
   have HE:Hid (bL s b=(dE s b s.size).1++[s.extract (dE s b s.size).2 s.size]):=rfl;generalize dE s b s.size=P at *;have⟨X,f⟩:=P;simp only at ab Z HE ⊢;have⟨G,J⟩:=ab;go_wp2_with (at_builtin;refine Bz rfl _ _ rfl w _ X rfl Z rfl o_ a6 ?_;intro v' w1 bz I)
   have U:=I.belowGe hb a6 (λg hg=>(Z.lt g GT).1);go_wp2;obtain⟨a,F,rfl,_⟩:=bz.form;rw[UE,WA] at bz ⊢;refine Uh (v:=.slice a (X.length+1) F) (by simp [results,Tryz.results61,go_sem]) rfl ?_;exact⟨_,rfl,by rw[HE.out];exact bz,U⟩
end Go.Proofs.YtaamhakdhaolmaaGreatDoor
