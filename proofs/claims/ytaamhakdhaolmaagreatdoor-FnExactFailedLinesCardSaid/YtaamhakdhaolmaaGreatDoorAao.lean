/- Part 14. -/
import Derived.Lib.AtoiTie
import Derived.Lib.ItoaNum
import Derived.Test.YtaamhakdhaolmaaGreatDoorAaa
namespace Go.Proofs.YtaamhakdhaolmaaGreatDoor
open Go.RowKit
set_option maxHeartbeats 8000000
set_option maxRecDepth 100000
variable {P:Prop}
set_option linter.all false
def uH(h:P:=by
 have e2:(45:UInt8).toNat=45:=rfl;omega):=h
def mi{u}(h:u<10):Lib.decDigits u=[UInt8.ofNat (48+u)]:=Lib.decDigits_one h
def pl{u}(h:¬u<10):Lib.decDigits u=Lib.decDigits (u / 10)++[UInt8.ofNat (48+u % 10)]:=by rw[Lib.decDigits,XZ h]
def qL{d}(h:d<10):(UInt8.ofNat (48+d)).toNat=48+d:=by
 rw[UInt8.toNat_ofNat'];omega
def DN{d}(h:d<10):Lib.digitVal (UInt8.ofNat (48+d))=some d:=by
 unfold Lib.digitVal;rw[qL h,Um o_];congr 1;omega
def Rk{b:UInt8}{d}(h:Lib.digitVal b=some d):d<10/\b=UInt8.ofNat (48+d):=by
 unfold Lib.digitVal at h;split at h
 .cases h;refine⟨by omega,?_⟩;apply Wn.1;rw[qL o_];omega
 .cases h
def nP(u):Lib.decDigits u≠[]:=by
 by_cases h:u<10
 .rw[mi h];simp
 .rw[pl h];simp
def pd:∀(u) (b:UInt8),b∈Lib.decDigits u->48<=b.toNat/\b.toNat<=57:=by
 intro u
 induction u using Nat.strongRecOn with
 |ind u g=>
  intro b hb;by_cases h:u<10
  .rw[mi h] at hb;simp only[UD] at hb;subst hb;rw[qL h];omega
  .rw[pl h] at hb;rcases Vx.1 hb with hb|hb
   .exact g (u / 10) o_ b hb
   .simp only[UD] at hb;subst hb;rw[qL o_];omega
theorem wK:∀(l r) (a),Lib.decFrom a (l++r)=(Lib.decFrom a l).bind λm=>Lib.decFrom m r
 |[],r,a=>rfl
 |b::l,r,a=>by
  rw[V3,Lib.decFrom,Lib.decFrom];cases Lib.digitVal b with
  |none=>rfl
  |some d=>exact wK l r _
def sN(u):Lib.decFrom 0 (Lib.decDigits u)=some u:=by
 induction u using Nat.strongRecOn with
 |ind u g=>
  by_cases h:u<10
  .rw[mi h,Lib.decFrom,DN h];simp [Lib.decFrom]
  .rw[pl h,wK,g (u / 10) o_];show Lib.decFrom (u / 10) [UInt8.ofNat (48+u % 10)]=_;rw[Lib.decFrom,DN o_];simp only[Lib.decFrom];congr 1;omega
def DG{u v}(h:Lib.decDigits u=Lib.decDigits v):u=v:=by
 have h1:=sN u;rw[h,sN v] at h1;cases h1;rfl
theorem me:∀(k u),u<10 ^ (k+1)->(Lib.decDigits u).length<=k+1
 |0,u,h=>by rw[mi (by simpa using h)];simp
 |k+1,u,h=>by
  by_cases h1:u<10
  .rw[mi h1];simp
  .rw[pl h1,UE];have:=me k (u / 10) (by rw[WV] at h;omega);simp;omega
def Qo(u)(h:(Lib.decDigits u).head?=some 48):u=0:=by
 induction u using Nat.strongRecOn with
 |ind u g=>
  by_cases h1:u<10
  .rw[mi h1] at h;simp only[List.head?_cons,Vz] at h;have:=congrArg UInt8.toNat h;rw[qL h1] at this;have e:(48:UInt8).toNat=48:=rfl;omega
  .rw[pl h1,List.head?_append] at h;cases hh:(Lib.decDigits (u / 10)).head? with
   |none=>exact absurd (List.head?_eq_none_iff.1 hh) (nP _)
   |some b=>
    rw[hh] at h;have:=g (u / 10) o_ (by rw[hh];exact h);omega
def Qz:∀(n) (l) (m),l.length=n->l≠[]->(l.head?=some 48->l.length=1)->Lib.decFrom 0 l=some m->Lib.decDigits m=l:=by
 intro n
 induction n with
 |zero=>intro l m h1 h2;exact absurd (UX.1 h1) h2
 |succ n g=>
  intro l m h1 h2 h3 h4;obtain⟨r,b,rfl⟩:∃r b,l=r++[b]:=⟨l.dropLast,l.getLast h2,(List.dropLast_concat_getLast h2).symm⟩
  rw[wK] at h4;cases hr:Lib.decFrom 0 r with
  |none=>rw[hr] at h4;cases h4
  |some q=>
   rw[hr] at h4;have h5:Lib.decFrom q [b]=some m:=h4;rw[Lib.decFrom] at h5;cases hb:Lib.digitVal b with
   |none=>rw[hb] at h5;cases h5
   |some d=>
    rw[hb] at h5;simp only[Lib.decFrom,Vz] at h5;obtain⟨hd,rfl⟩:=Rk hb;by_cases he:r=[]
    .subst he;simp only[Lib.decFrom,Vz] at hr;subst hr;have:m=d:=by omega
     subst this;rw[mi hd];rfl
    .have a3:=by simpa using h1
     have hh:(r++[UInt8.ofNat (48+d)]).head?=r.head?:=by
      cases r with
      |nil=>exact absurd rfl he
      |cons x r=>rfl
     have aG:=Vi.2 he;have hne:r.head?≠some 48:=λe=>by
      have:=h3 (by rw[hh,e]);rw[UE,WA] at this;omega
     have h6:=g r q a3 he (λe=>absurd e hne) hr;have hq:q≠0:=by
      rintro rfl;rw[mi o_] at h6;rw[<-h6] at hne;exact hne rfl
     have hm:¬m<10:=o_;rw[pl hm,show m / 10=q by omega,show m % 10=d by omega,h6]
def iw(u:Nat):Lib.itoa (u)=Lib.decDigits u:=by unfold Lib.itoa;rw[Uj o_];simp
def jF{u:Nat}(h:1<=u):Lib.itoa (-(u))=45::Lib.decDigits u:=by unfold Lib.itoa;rw[Um o_];simp
def mf(n:Int):(∃u:Nat,n=u)\/∃u:Nat,1<=u/\n=-(u):=by
 rcases UF n 0 with h|h
 .exact .inr ⟨n.natAbs,by omega,by omega⟩
 .exact .inl ⟨n.toNat,by omega⟩
def tM{m n}(h:Lib.itoa m=Lib.itoa n):m=n:=by
 have aL:∀(u v:Nat),45::Lib.decDigits u≠Lib.decDigits v:=λu v e=>by
  have:=pd v 45 (by rw[<-e];simp);exact uH
 rcases mf m with ⟨u,rfl⟩|⟨u,hu,rfl⟩<;>rcases mf n with ⟨v,rfl⟩|⟨v,hv,rfl⟩
 .rw[iw,iw] at h;rw[DG h]
 .rw[iw,jF hv] at h;exact absurd h.symm (aL _ _)
 .rw[iw,jF hu] at h;exact absurd h (aL _ _)
 .rw[jF hu,jF hv] at h;rw[DG (VO h).2]
def Dd{n}{b:UInt8}(h:b∈Lib.itoa n):b=45\/(48<=b.toNat/\b.toNat<=57):=by
 rcases mf n with ⟨u,rfl⟩|⟨u,hu,rfl⟩
 .rw[iw] at h;exact .inr (pd u b h)
 .rw[jF hu] at h;rcases UM.1 h with h|h
  .exact .inl h
  .exact .inr (pd u b h)
def St{n}{b:UInt8}(h:b≠45)(h2:b.toNat<48\/57<b.toNat):b∉Lib.itoa n:=λhm=>by
 rcases Dd hm with e|e
 .exact h e
 .omega
def Ed(n):Lib.itoa n≠[]:=by
 rcases mf n with ⟨u,rfl⟩|⟨u,hu,rfl⟩
 .rw[iw];exact nP u
 .rw[jF hu];simp
def CY{n}(k)(h:n.natAbs<10 ^ (k+1)):(Lib.itoa n).length<=k+2:=by
 rcases mf n with ⟨u,rfl⟩|⟨u,hu,rfl⟩
 .rw[iw];have:=me k u (by simpa using h);omega
 .rw[jF hu];have:=me k u (by simpa using h);simp;omega
def OO{n}(h:n.natAbs<100000000000000000):Lib.atoiAll (Lib.itoa n)=.ok n:=by
 rw[Lib.atoiAll_short _ (by have:=CY (n:=n) 16 o_;omega)];have key:∀u:Nat,Lib.decNat (Lib.decDigits u)=some u:=λu=>by
  unfold Lib.decNat;rw[Uj (by simpa using nP u),sN]
 rcases mf n with ⟨u,rfl⟩|⟨u,hu,rfl⟩
 .rw[iw];obtain⟨b,r,F⟩:∃b r,Lib.decDigits u=b::r:=by
   cases hh:Lib.decDigits u with
   |nil=>exact absurd hh (nP u)
   |cons b r=>exact⟨b,r,rfl⟩
  have hb:=pd u b (by rw[F];simp);have g:(b==45)=false:=by
   rw[Uz];rintro rfl;exact uH
  have G:(b==43)=false:=by
   rw[Uz];rintro rfl;have e2:(43:UInt8).toNat=43:=rfl;omega
  have hk:=key u;rw[F] at hk ⊢;unfold Lib.atoi;simp [g,G,hk,Lib.NumEnd.ofOption]
 .rw[jF hu];unfold Lib.atoi;simp [key u,Lib.NumEnd.ofOption]
end Go.Proofs.YtaamhakdhaolmaaGreatDoor
