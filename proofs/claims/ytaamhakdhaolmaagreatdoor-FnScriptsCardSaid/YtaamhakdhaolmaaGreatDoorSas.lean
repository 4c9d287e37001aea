/- Part 18. -/
import Derived.Lib.CountLaws
import Derived.Lib.Split
import Derived.Lib.IndexMore
import Derived.Test.YtaamhakdhaolmaaGreatDoorSaa
namespace Go.Proofs.YtaamhakdhaolmaaGreatDoor
open Go.RowKit
set_option maxHeartbeats 8000000
set_option maxRecDepth 100000
variable {P:Prop}
set_option linter.all false
def yP(c:UInt8)(s)(i):Lib.occAt s [c] i=(s[i]?==some c):=by
 unfold Lib.occAt;rcases hd:s.drop i with _|⟨x,r⟩
 .have:s[i]?=none:=by
   rw[List.getElem?_eq_none_iff];have:=congrArg List.length hd;simp at this;omega
  rw[this];rfl
 .have:=by
   have h2:=congrArg (·[0]?) hd;simpa using h2
  rw[this];simp only[List.isPrefixOf];cases hx:(c==x)
  .have:x≠c:=λe=>by subst e;simp at hx
   simp [this]
  .have:=by simpa using hx
   simp [this]
def Pq{c:UInt8}{p}(r)(h:c∉p):Lib.index (p++c::r) [c]=p.length:=by
 refine Lib.index_first s_ ?_ λj hj=>?_
 .rw[yP];simp
 .rw[yP,WR hj,Vv hj];have:p[j]≠c:=λe=>h (e▸VC hj);simpa using this
def Pp{c:UInt8}{p}(h:c∉p):Lib.index p [c]=-1:=Lib.index_none λj hj=>by
 rw[yP];cases G:p[j]? with
 |none=>rfl
 |some x=>
  have:x≠c:=λe=>h (e▸List.mem_of_getElem? G);simpa using this
def EY{c:UInt8}{p}(q)(h:c∉p):Lib.cut (p++c::q) [c]=(p,q,true):=by
 have hi:=Pq q h;unfold Lib.cut;rw[Vo (by rw[hi];omega),hi];simp
def Ru{c:UInt8}{p}(h:c∉p):Lib.cut p [c]=(p,[],false):=by
 unfold Lib.cut;rw[Vm (by rw[Pp h];omega)]
end Go.Proofs.YtaamhakdhaolmaaGreatDoor
