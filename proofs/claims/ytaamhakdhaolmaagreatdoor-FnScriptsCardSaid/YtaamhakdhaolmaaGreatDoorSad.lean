/- Part 3. -/
import Derived.Laws.FloatArith
import Derived.Test.YtaamhakdhaolmaaGreatDoorSaa
namespace Go.Proofs.YtaamhakdhaolmaaGreatDoor
open Go.RowKit
set_option maxHeartbeats 8000000
set_option maxRecDepth 100000
variable {P:Prop}
set_option linter.all false
section
open Go Ieee
def Ii(h:P:=by
 rw[XD];have h1:2 ^ c<=2 ^ 57:=WD o_ aZ.2;have h2:=YD m1 h1;have h3:1*1<=m1*2 ^ c:=Xp (show 1<=m1 by omega) (Nat.one_le_two_pow);generalize m1*2 ^ c=x at *;omega):=h
def GS(h:P:=by
 rw[bp];unfold Datum.toInt Datum.integral;simp only[Ot,show p.toNat=0 by omega,YR];simp [signed]):=h
def JN(h:P:=by
 rcases Wv W (2 ^ 55) with h|h
 .exact h
 .have:=Xp h h;omega):=h
def uR{n k}(h1:2 ^ k<=n)(h2:n<2 ^ (k+1)):n.log2=k:=by
 have hn:n≠0:=by have:=XG k;omega
 rw[Nat.log2_eq_iff hn];exact⟨h1,h2⟩
def UJ{n}(h:n≠0):2 ^ n.log2<=n/\n<2 ^ (n.log2+1):=(Nat.log2_eq_iff h).1 rfl
def vZ{n k}(h:n≠0)(h2:n<2 ^ k):n.log2<k:=(Nat.log2_lt h).2 h2
def Ot(n drop):Toward.zero.cut false n drop=n / (1<<<min drop (n.log2+2)):=by
 simp [Toward.cut]
def BV(neg)(n drop):n / (1<<<min drop (n.log2+2))<=Toward.even.cut neg n drop/\Toward.even.cut neg n drop<=n / (1<<<min drop (n.log2+2))+1:=by
 unfold Toward.cut;generalize (match Toward.even with
  |.even=>decide ((1<<<min drop (n.log2+2))<2*(n % 1<<<min drop (n.log2+2)))||((1<<<min drop (n.log2+2))==2*(n % 1<<<min drop (n.log2+2))&&(n / 1<<<min drop (n.log2+2)) % 2==1)
  |_=>false)=b
 constructor
 .exact Nat.le_add_right _ _
 .simp only;exact Nat.add_le_add_left (Zw _) _
def UK{mag}(h:mag≠0){place last:Int}(hl:last=place+mag.log2 - 52):
 2 ^ 52<=Toward.even.cut false (mag<<<(place - last).toNat) (last - place).toNat/\Toward.even.cut false (mag<<<(place - last).toNat) (last - place).toNat<=2 ^ 53:=by
 have⟨h1,h2⟩:=UJ h;rcases VJ place last with aG|cm
 .have e1:(place - last).toNat=0:=o_;have e2:(last - place).toNat=mag.log2 - 52:=o_;have h3:=BV false mag (mag.log2 - 52);rw[e1,e2,YR];rw[XY o_,XD,Nat.one_mul] at h3;have e3:mag.log2=52+(mag.log2 - 52):=o_;rw[e3,YM] at h1;rw[e3,show 52+(mag.log2 - 52)+1=53+(mag.log2 - 52) by omega,YM] at h2;have G:=XG (mag.log2 - 52);have h4:=(Nat.le_div_iff_mul_le G).2 h1;have h5:=(Nat.div_lt_iff_lt_mul G).2 h2;omega
 .have e1:(place - last).toNat=52 - mag.log2:=o_;have e2:(last - place).toNat=0:=o_;have h3:=BV false (mag<<<(52 - mag.log2)) 0;rw[e1,e2];rw[Nat.zero_min,YR,Nat.div_one,XD] at h3;have e3:2 ^ mag.log2*2 ^ (52 - mag.log2)=2 ^ 52:=by rw[<-YM];congr 1;omega
  have e4:2 ^ (mag.log2+1)*2 ^ (52 - mag.log2)=2 ^ 53:=by rw[<-YM];congr 1;omega
  have h4:=WE (2 ^ (52 - mag.log2)) h1;have h5:=Nat.mul_lt_mul_of_pos_right h2 (XG (52 - mag.log2));rw[XD];omega
def tF{mag}(h:mag≠0){place:Int}(h1:-1000<=place+mag.log2 - 52)(h2:place+mag.log2 - 52<=900):
 ∃m p,double.read (double.nearest false mag place)=.number false m p/\2 ^ 52<=m/\m<2 ^ 53/\place+mag.log2 - 52<=p/\p<=place+mag.log2 - 52+1:=by
 generalize hl:place+mag.log2 - 52=last at *;have hk:=UK h hl.symm;have e0:double.nearest false mag place=(last+1074).toNat*2 ^ 52+Toward.even.cut false (mag<<<(place - last).toNat) (last - place).toNat:=by
  unfold Format.nearest;rw[Vm h];have H:max (place+(mag.log2:Int) - (double.fractionBits:Nat)) double.leastPlace=last:=by
   have:double.leastPlace=-1074:=by decide
   rw[this];have:((double.fractionBits:Nat):Int)=52:=rfl;rw[this];omega
  simp only[H];have e9:double.leastPlace=-1074:=d_;have e1:last - double.leastPlace=last+1074:=o_;have e2:double.binade=2 ^ 52:=rfl;have e3:double.infRung=2047*2 ^ 52:=d_;rw[e1,e2,e3];generalize Toward.even.cut false (mag<<<(place - last).toNat) (last - place).toNat=kept at hk ⊢;have h3:(last+1074).toNat<=1974:=o_;have h4:=WE (2 ^ 52) h3;have h5:(last+1074).toNat*2 ^ 52+kept<=2047*2 ^ 52:=Vl (Nat.add_le_add h4 hk.2) (by decide+kernel);simp only[Format.word,Xq,Zt];exact XY h5
 rw[e0];generalize Toward.even.cut false (mag<<<(place - last).toNat) (last - place).toNat=kept at hk ⊢;obtain⟨E,hE⟩:∃E,(last+1074).toNat=E:=⟨_,rfl⟩
 rw[hE];have F:E<=1974:=o_;have g:74<=E:=o_;have e1:double.signWeight=2 ^ 63:=d_;have e2:double.binade=2 ^ 52:=rfl;have e3:double.infRung=2047*2 ^ 52:=d_;have e4:double.leastPlace=-1074:=d_;have G:E*2 ^ 52+kept<2 ^ 63:=o_;have aX:(((E*2 ^ 52+kept) / 2 ^ 63 % 2)==1)=false:=by rw[Nat.div_eq_of_lt G];rfl
 unfold Format.read;simp only[e1,e2,e3,e4,aX,Zb G];rw[Vm (by have:=WE (2 ^ 52) g;omega),Vo o_];rcases Wv kept (2 ^ 53) with hc|hc
 .obtain⟨r,rfl⟩:∃r,kept=2 ^ 52+r:=⟨kept - 2 ^ 52,o_⟩
  have hr:r<2 ^ 52:=o_;have e5:(E*2 ^ 52+(2 ^ 52+r)) / 2 ^ 52=E+1:=by
   rw[show E*2 ^ 52+(2 ^ 52+r)=r+(E+1)*2 ^ 52 by rw[XW];omega,Nat.add_mul_div_right _ _ (XG 52),Nat.div_eq_of_lt hr];omega
  have e6:(E*2 ^ 52+(2 ^ 52+r)) % 2 ^ 52=r:=by
   rw[show E*2 ^ 52+(2 ^ 52+r)=r+(E+1)*2 ^ 52 by rw[XW];omega,Nat.add_mul_mod_self_right,Zb hr]
  rw[e5,e6];exact⟨_,_,rfl,o_,o_,o_,o_⟩
 .obtain rfl:kept=2 ^ 53:=o_
  have e5:(E*2 ^ 52+2 ^ 53) / 2 ^ 52=E+2:=by
   rw[show E*2 ^ 52+2 ^ 53=0+(E+2)*2 ^ 52 by rw[XW];omega,Nat.add_mul_div_right _ _ (XG 52)];simp
  have e6:(E*2 ^ 52+2 ^ 53) % 2 ^ 52=0:=by
   rw[show E*2 ^ 52+2 ^ 53=0+(E+2)*2 ^ 52 by rw[XW];omega,Nat.add_mul_mod_self_right]
  rw[e5,e6];exact⟨_,_,rfl,o_,o_,o_,o_⟩
theorem tz(n):∀(todo root),root*root<=n->Datum.rootFrom n todo root*Datum.rootFrom n todo root<=n
 |0,root,h=>h
 |todo+1,root,h=>by
  unfold Datum.rootFrom;simp only;split
  .rename_i h2;exact tz n todo _ h2
  .exact tz n todo _ h
def SQ(n)(hn:n<=1000000000):∃(s m:Nat),double.sqrt (double.nearest false n 0)=some s/\(double.read s).toInt .zero=some (m:Int)/\m<=1000000:=by
 by_cases h0:n=0
 .subst h0;exact⟨0,0,by decide+kernel,by decide+kernel,o_⟩
 .have g:n.log2<30:=vZ h0 o_;have⟨m1,i,hr,a1,a2,a3,a4⟩:=tF h0 (place:=0) o_ o_;unfold Format.sqrt;rw[hr];have V:=uR a1 a2;unfold Datum.root;simp only;rw[Vm o_,Vm d_];simp only[V,show double.fractionBits+2=54 from rfl];obtain⟨c,hc,aZ⟩:∃c:Nat,2*54 - 52+((i - (2*54 - 52:Nat)) % 2).toNat=c/\(56<=c/\c<=57):=⟨_,rfl,o_,o_⟩
  rw[hc];have G:=tz (m1<<<c) ((m1<<<c).log2 / 2+1) 0 (VH _);generalize Datum.rootFrom (m1<<<c) ((m1<<<c).log2 / 2+1) 0=W at G;have hN:m1<<<c<2 ^ 110/\1<=m1<<<c:=by
   exact Ii
  have hW:=by
   exact JN
  obtain⟨b,hb,I,J⟩:∃b:Nat,(W*W != m1<<<c).toNat=b/\b<=1/\(W=0->b=1):=⟨_,rfl,Zw _,λh=>by
   subst h;have:(0*0 != m1<<<c)=true:=by simp;omega
   rw[this];rfl⟩
  rw[hb];have hM:2*W+b≠0:=by
   intro h;have:W=0:=o_
   have:=J this;omega
  have F:(2*W+b).log2<56:=vZ hM o_;have⟨m2,p,bp,b1,b2,b3,b4⟩:=tF hM (place:=(i - c) / 2 - 1) o_ o_;refine⟨double.nearest false (2*W+b) ((i - c) / 2 - 1),m2 / (1<<<min (-p).toNat (m2.log2+2)),rfl,?_,?_⟩
  .exact GS
  .have a7:=uR b1 b2;rw[a7,XD,Nat.one_mul];have h1:2 ^ 36<=2 ^ min (-p).toNat (52+2):=WD o_ o_;have h2:m2 / 2 ^ min (-p).toNat (52+2)<=m2 / 2 ^ 36:=Nat.div_le_div_left h1 d_;omega
def rt:Nat->Nat
 |0=>0
 |n+1=>if (rt n+1)*(rt n+1)<=n+1 then rt n+1 else rt n
theorem yO:∀n,rt n*rt n<=n/\n<(rt n+1)*(rt n+1)
 |0=>by simp [rt]
 |n+1=>by
  have ⟨h1,h2⟩:=yO n;unfold rt;split
  .rename_i h;refine⟨h,?_⟩;have:(rt n+1+1)*(rt n+1+1)=(rt n+1)*(rt n+1)+2*(rt n+1)+1:=by rw[XW,Nat.mul_add];omega
   omega
  .omega
def Ta{n r}(h1:r*r<=n)(h2:n<(r+1)*(r+1)):r=rt n:=by
 have ⟨h3,h4⟩:=yO n;rcases Nat.lt_trichotomy r (rt n) with h|h|h
 .have:=Xp (show r+1<=rt n by omega) (show r+1<=rt n by omega);omega
 .exact h
 .have:=Xp (show rt n+1<=r by omega) (show rt n+1<=r by omega);omega
def aq(n:Int):Int:=rt n.toNat
def lu(n):0<=aq n:=Int.natCast_nonneg _
def nU{n}(h:0<=n):aq n*aq n<=n/\n<(aq n+1)*(aq n+1):=by
 have ⟨h1,h2⟩:=yO n.toNat;unfold aq;have e1:((rt n.toNat:Nat):Int)*(rt n.toNat:Nat)=((rt n.toNat*rt n.toNat:Nat):Int):=s_;have e2:(((rt n.toNat:Nat):Int)+1)*((rt n.toNat:Nat)+1)=(((rt n.toNat+1)*(rt n.toNat+1):Nat):Int):=s_;rw[e1,e2];omega
def pf{n r}(h0:0<=r)(h1:r*r<=n)(h2:n<(r+1)*(r+1)):r=aq n:=by
 obtain⟨k,rfl⟩:=Wr h0;have hn:0<=n:=by have:=VP h0 h0;omega
 obtain⟨m,rfl⟩:=Wr hn;unfold aq;rw[YW];have e:(((k:Nat):Int)+1)*((k:Nat)+1)=(((k+1)*(k+1):Nat):Int):=s_;rw[e] at h2;have e':((k:Nat):Int)*(k:Nat)=((k*k:Nat):Int):=s_;rw[e'] at h1;congr 1;exact Ta o_ o_
def AB{a b:Int}(h:0<=a)(hb:0<=b)(h2:b*b<a*a):b<a:=by
 rcases VJ b a with J|J
 .exact J
 .have:=Vs J J h hb;omega
def oh{n b}(h:0<=n)(hb:0<=b)(hn:n<b*b):aq n<b:=AB hb (lu n) (by have:=(nU h).1;omega)
end
end Go.Proofs.YtaamhakdhaolmaaGreatDoor
