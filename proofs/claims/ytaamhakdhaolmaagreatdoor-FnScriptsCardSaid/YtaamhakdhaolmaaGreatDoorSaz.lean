/- Part 25. -/
import Derived.Lib.AtoiTie
import Derived.Lib.ItoaNum
import Derived.Test.YtaamhakdhaolmaaGreatDoorSaa
namespace Go.Proofs.YtaamhakdhaolmaaGreatDoor
open Go.RowKit
set_option maxHeartbeats 8000000
set_option maxRecDepth 100000
variable {P:Prop}
set_option linter.all false
def vj(h:P:=by
 have e2:(45:UInt8).toNat=45:=rfl;omega):=h
def mw{u}(h:u<10):Lib.decDigits u=[UInt8.ofNat (48+u)]:=Lib.decDigits_one h
def pD{u}(h:¬u<10):Lib.decDigits u=Lib.decDigits (u / 10)++[UInt8.ofNat (48+u % 10)]:=by rw[Lib.decDigits,Y4 h]
def rf{d}(h:d<10):(UInt8.ofNat (48+d)).toNat=48+d:=by
 rw[UInt8.toNat_ofNat'];omega
def Et{d}(h:d<10):Lib.digitVal (UInt8.ofNat (48+d))=some d:=by
 unfold Lib.digitVal;rw[rf h,Vo o_];congr 1;omega
def Sn{b:UInt8}{d}(h:Lib.digitVal b=some d):d<10/\b=UInt8.ofNat (48+d):=by
 unfold Lib.digitVal at h;split at h
 .cases h;refine⟨o_,?_⟩;apply Xs.1;rw[rf o_];omega
 .cases h
def og(u):Lib.decDigits u≠[]:=by
 by_cases h:u<10
 .rw[mw h];simp
 .rw[pD h];simp
def pt:∀(u) (b:UInt8),b∈Lib.decDigits u->48<=b.toNat/\b.toNat<=57:=by
 intro u
 induction u using Nat.strongRecOn with
 |ind u g=>
  intro b hb;by_cases h:u<10
  .rw[mw h] at hb;simp only[VE] at hb;subst hb;rw[rf h];omega
  .rw[pD h] at hb;rcases Wy.1 hb with hb|hb
   .exact g (u / 10) o_ b hb
   .simp only[VE] at hb;subst hb;rw[rf o_];omega
theorem xm:∀(l r) (a),Lib.decFrom a (l++r)=(Lib.decFrom a l).bind λm=>Lib.decFrom m r
 |[],r,a=>rfl
 |b::l,r,a=>by
  rw[Wo,Lib.decFrom,Lib.decFrom];cases Lib.digitVal b with
  |none=>rfl
  |some d=>exact xm l r _
def tw(u):Lib.decFrom 0 (Lib.decDigits u)=some u:=by
 induction u using Nat.strongRecOn with
 |ind u g=>
  by_cases h:u<10
  .rw[mw h,Lib.decFrom,Et h];simp [Lib.decFrom]
  .rw[pD h,xm,g (u / 10) o_];show Lib.decFrom (u / 10) [UInt8.ofNat (48+u % 10)]=_;rw[Lib.decFrom,Et o_];simp only[Lib.decFrom];congr 1;omega
def El{u v}(h:Lib.decDigits u=Lib.decDigits v):u=v:=by
 have h1:=tw u;rw[h,tw v] at h1;cases h1;rfl
theorem ms:∀(k u),u<10 ^ (k+1)->(Lib.decDigits u).length<=k+1
 |0,u,h=>by rw[mw (by simpa using h)];simp
 |k+1,u,h=>by
  by_cases h1:u<10
  .rw[mw h1];simp
  .rw[pD h1,VI];have:=ms k (u / 10) (by rw[X5] at h;omega);simp;omega
def Ra(u)(h:(Lib.decDigits u).head?=some 48):u=0:=by
 induction u using Nat.strongRecOn with
 |ind u g=>
  by_cases h1:u<10
  .rw[mw h1] at h;simp only[List.head?_cons,WI] at h;have:=congrArg UInt8.toNat h;rw[rf h1] at this;have e:(48:UInt8).toNat=48:=rfl;omega
  .rw[pD h1,List.head?_append] at h;cases hh:(Lib.decDigits (u / 10)).head? with
   |none=>exact absurd (List.head?_eq_none_iff.1 hh) (og _)
   |some b=>
    rw[hh] at h;have:=g (u / 10) o_ (by rw[hh];exact h);omega
def Rn:∀(n) (l) (m),l.length=n->l≠[]->(l.head?=some 48->l.length=1)->Lib.decFrom 0 l=some m->Lib.decDigits m=l:=by
 intro n
 induction n with
 |zero=>intro l m h1 h2;exact absurd (VY.1 h1) h2
 |succ n g=>
  intro l m h1 h2 h3 h4;obtain⟨r,b,rfl⟩:∃r b,l=r++[b]:=⟨l.dropLast,l.getLast h2,(List.dropLast_concat_getLast h2).symm⟩
  rw[xm] at h4;cases hr:Lib.decFrom 0 r with
  |none=>rw[hr] at h4;cases h4
  |some q=>
   rw[hr] at h4;have h5:Lib.decFrom q [b]=some m:=h4;rw[Lib.decFrom] at h5;cases hb:Lib.digitVal b with
   |none=>rw[hb] at h5;cases h5
   |some d=>
    rw[hb] at h5;simp only[Lib.decFrom,WI] at h5;obtain⟨hd,rfl⟩:=Sn hb;by_cases he:r=[]
    .subst he;simp only[Lib.decFrom,WI] at hr;subst hr;have:m=d:=o_
     subst this;rw[mw hd];rfl
    .have a3:=by simpa using h1
     have hh:(r++[UInt8.ofNat (48+d)]).head?=r.head?:=by
      cases r with
      |nil=>exact absurd rfl he
      |cons x r=>rfl
     have aG:=Wm.2 he;have hne:r.head?≠some 48:=λe=>by
      have:=h3 (by rw[hh,e]);rw[VI,XM] at this;omega
     have h6:=g r q a3 he (λe=>absurd e hne) hr;have hq:q≠0:=by
      rintro rfl;rw[mw o_] at h6;rw[<-h6] at hne;exact hne rfl
     have hm:¬m<10:=o_;rw[pD hm,show m / 10=q by omega,show m % 10=d by omega,h6]
def iL(u:Nat):Lib.itoa (u)=Lib.decDigits u:=by unfold Lib.itoa;rw[Vm o_];simp
def jU{u:Nat}(h:1<=u):Lib.itoa (-(u))=45::Lib.decDigits u:=by unfold Lib.itoa;rw[Vo o_];simp
def mu(n:Int):(∃u:Nat,n=u)\/∃u:Nat,1<=u/\n=-(u):=by
 rcases VJ n 0 with h|h
 .exact .inr ⟨n.natAbs,o_,o_⟩
 .exact .inl ⟨n.toNat,o_⟩
def uk{m n}(h:Lib.itoa m=Lib.itoa n):m=n:=by
 have a4:∀(u v:Nat),45::Lib.decDigits u≠Lib.decDigits v:=λu v e=>by
  have:=pt v 45 (by rw[<-e];simp);exact vj
 rcases mu m with ⟨u,rfl⟩|⟨u,hu,rfl⟩<;>rcases mu n with ⟨v,rfl⟩|⟨v,hv,rfl⟩
 .rw[iL,iL] at h;rw[El h]
 .rw[iL,jU hv] at h;exact absurd h.symm (a4 _ _)
 .rw[iL,jU hu] at h;exact absurd h (a4 _ _)
 .rw[jU hu,jU hv] at h;rw[El (WX h).2]
def DO{n}{b:UInt8}(h:b∈Lib.itoa n):b=45\/(48<=b.toNat/\b.toNat<=57):=by
 rcases mu n with ⟨u,rfl⟩|⟨u,hu,rfl⟩
 .rw[iL] at h;exact .inr (pt u b h)
 .rw[jU hu] at h;rcases VL.1 h with h|h
  .exact .inl h
  .exact .inr (pt u b h)
def Tq{n}{b:UInt8}(h:b≠45)(h2:b.toNat<48\/57<b.toNat):b∉Lib.itoa n:=λhm=>by
 rcases DO hm with e|e
 .exact h e
 .omega
def EW(n):Lib.itoa n≠[]:=by
 rcases mu n with ⟨u,rfl⟩|⟨u,hu,rfl⟩
 .rw[iL];exact og u
 .rw[jU hu];simp
def DA{n}(k)(h:n.natAbs<10 ^ (k+1)):(Lib.itoa n).length<=k+2:=by
 rcases mu n with ⟨u,rfl⟩|⟨u,hu,rfl⟩
 .rw[iL];have:=ms k u (by simpa using h);omega
 .rw[jU hu];have:=ms k u (by simpa using h);simp;omega
def PE{n}(h:n.natAbs<100000000000000000):Lib.atoiAll (Lib.itoa n)=.ok n:=by
 rw[Lib.atoiAll_short _ (by have:=DA (n:=n) 16 o_;omega)];have key:∀u:Nat,Lib.decNat (Lib.decDigits u)=some u:=λu=>by
  unfold Lib.decNat;rw[Vm (by simpa using og u),tw]
 rcases mu n with ⟨u,rfl⟩|⟨u,hu,rfl⟩
 .rw[iL];obtain⟨b,r,V⟩:∃b r,Lib.decDigits u=b::r:=by
   cases hh:Lib.decDigits u with
   |nil=>exact absurd hh (og u)
   |cons b r=>exact⟨b,r,rfl⟩
  have hb:=pt u b (by rw[V];simp);have g:(b==45)=false:=by
   rw[VD];rintro rfl;exact vj
  have F:(b==43)=false:=by
   rw[VD];rintro rfl;have e2:(43:UInt8).toNat=43:=rfl;omega
  have hk:=key u;rw[V] at hk ⊢;unfold Lib.atoi;simp [g,F,hk,Lib.NumEnd.ofOption]
 .rw[jU hu];unfold Lib.atoi;simp [key u,Lib.NumEnd.ofOption]
end Go.Proofs.YtaamhakdhaolmaaGreatDoor
