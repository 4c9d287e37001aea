/- Part 2. -/
import Derived.Lib.BitFns
import Derived.Test.YtaamhakdhaolmaaGreatDoorAaa
namespace Go.Proofs.YtaamhakdhaolmaaGreatDoor
open Go.RowKit
set_option maxHeartbeats 8000000
set_option maxRecDepth 100000
variable {P:Prop}
set_option linter.all false
def zO(h:P:=by rw[WV] at h;omega):=h
def ci(n:Nat):Nat:=if h:n=0 then 0 else 1+ci (n / 2)
termination_by n
decreasing_by exact Yb o_ d_
def oW:ci 0=0:=by rw[ci];simp
def tT{n}(h:n≠0):ci n=1+ci (n / 2):=by rw[ci];simp [h]
theorem xo:∀(k n),2 ^ k<=n->ci n=k+ci (n / 2 ^ k)
 |0,n,_=>by simp
 |k+1,n,h=>by
  have h2:2 ^ k<=n / 2:=by rw[WV] at h;omega
  have G:=Wo k;rw[tT zO,xo k (n / 2) h2,Nat.div_div_eq_div_mul,WV,Nat.mul_comm 2];omega
theorem DV:∀(f n),n<2 ^ f->Lib.bitLenAux f n=ci n
 |0,n,h=>by have:=by simpa using h
            subst this;rw[oW];rfl
 |f+1,n,h=>by
  unfold Lib.bitLenAux;split
  .rename_i h0;rw[h0,oW]
  .rename_i h0;rw[tT h0,DV f (n / 2) zO]
def BO{n}(h:n<18446744073709551616):Lib.bitLen n=ci n:=DV 64 n h
theorem yA:∀(k n),n<2 ^ k->ci n<=k
 |0,n,h=>by have:=by simpa using h
            subst this;rw[oW];omega
 |k+1,n,h=>by
  by_cases h0:n=0
  .rw[h0,oW];omega
  .rw[tT h0];have:=yA k (n / 2) zO;omega
def Nx{n}(h:67108864<=n):ci n=26+ci (n / 67108864):=xo 26 n h
def Nu{n}(h:4096<=n):ci n=12+ci (n / 4096):=xo 12 n h
end Go.Proofs.YtaamhakdhaolmaaGreatDoor
