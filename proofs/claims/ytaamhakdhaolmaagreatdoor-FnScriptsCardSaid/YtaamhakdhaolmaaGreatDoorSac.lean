/- Part 2. -/
import Derived.Lib.BitFns
import Derived.Test.YtaamhakdhaolmaaGreatDoorSaa
namespace Go.Proofs.YtaamhakdhaolmaaGreatDoor
open Go.RowKit
set_option maxHeartbeats 8000000
set_option maxRecDepth 100000
variable {P:Prop}
set_option linter.all false
def Av(h:P:=by rw[X5] at h;omega):=h
def ct(n:Nat):Nat:=if h:n=0 then 0 else 1+ct (n / 2)
termination_by n
decreasing_by exact Zf o_ d_
def pi:ct 0=0:=by rw[ct];simp
def uq{n}(h:n≠0):ct n=1+ct (n / 2):=by rw[ct];simp [h]
theorem xT:∀(k n),2 ^ k<=n->ct n=k+ct (n / 2 ^ k)
 |0,n,_=>by simp
 |k+1,n,h=>by
  have h2:2 ^ k<=n / 2:=by rw[X5] at h;omega
  have G:=XG k;rw[uq Av,xT k (n / 2) h2,Nat.div_div_eq_div_mul,X5,Nat.mul_comm 2];omega
theorem EB:∀(f n),n<2 ^ f->Lib.bitLenAux f n=ct n
 |0,n,h=>by have:=by simpa using h
            subst this;rw[pi];rfl
 |f+1,n,h=>by
  unfold Lib.bitLenAux;split
  .rename_i h0;rw[h0,pi]
  .rename_i h0;rw[uq h0,EB f (n / 2) Av]
def Cm{n}(h:n<18446744073709551616):Lib.bitLen n=ct n:=EB 64 n h
theorem zb:∀(k n),n<2 ^ k->ct n<=k
 |0,n,h=>by have:=by simpa using h
            subst this;rw[pi];omega
 |k+1,n,h=>by
  by_cases h0:n=0
  .rw[h0,pi];omega
  .rw[uq h0];have:=zb k (n / 2) Av;omega
def Op{n}(h:67108864<=n):ct n=26+ct (n / 67108864):=xT 26 n h
def Om{n}(h:4096<=n):ct n=12+ct (n / 4096):=xT 12 n h
end Go.Proofs.YtaamhakdhaolmaaGreatDoor
